/- Am18 Am19 Am20 Am21 Am22 Am22b -/
import Derived.Test.YtlchefooafpdlaaGreatK3
import Derived.RangeFuncRecord
import Derived.RangeFuncNested
import Derived.OrdersIn
import Derived.RangeFuncCalls
namespace Go.Am
open Go
variable {P : Program} {T : Tab}
theorem RelD.le {w : World} {Z : Nat→Prop} {x y : DV} {v : Value} (h : RelD w Z x v) (hl : DLe x y) : RelD w Z y v:=by
  induction hl generalizing v with
  | refl=>exact h
  | nil es=>cases h;exact .slnil es
  | tup hlen _ ih=>
    cases h with | @tup _ cs h1 h2=>
    refine .tup q7 fun i d c hd hc=>?_
    obtain ⟨x,hx⟩:=Y6 hlen.symm hd
    exact ih i x d hx hd (h2 i x c hx hc)
  | agg hlen _ ih=>
    cases h with | @agg _ cs h1 h2=>
    refine .agg q7 fun i d c hd hc=>?_
    obtain ⟨x,hx⟩:=Y6 hlen.symm hd
    exact ih i x d hx hd (h2 i x c hx hc)
  | @sl es xs ys hlen hrow hcell ih=>
    have nils : xs = []→ys = []:=fun e=>List.length_eq_zero_iff.1 (by rw [← hlen,e];rfl)
    have row : ∀ (i : Nat) (y : List DV),ys[i]? = some y→∃ x,xs[i]? = some x∧x.length = y.length:=fun i y hy=>by
      obtain ⟨x,hx⟩:=Y6 hlen.symm hy
      exact ⟨x,hx,hrow i x y hx hy⟩
    have cell : ∀ (i : Nat) (y : List DV) (j : Nat) (d : DV),ys[i]? = some y→y[j]? = some d→∃ x c,xs[i]? = some x∧x[j]? = some c∧DLe c d:=fun i y j d hy hd=>by
      obtain ⟨x,hx,hl⟩:=row i y hy
      obtain ⟨c,hc⟩:=Y6 hl.symm hd
      exact ⟨x,c,hx,hc,hcell i x y j c d hx hy hc hd⟩
    cases h with
    | slnil=>rw [nils rfl];exact .slnil es
    | slemp _ a=>rw [nils rfl];exact .slemp es a
    | @sl _ _ b o cap h1 h2 h3 h4 h5=>
      rw [hlen]
      refine .sl q7 (fun hn=>h2 fun e=>hn (nils e)) (fun i y hy=>?_) (fun i y j d hy hd=>?_) fun i y j d c hy hd hc=>?_
      · obtain ⟨x,hx,hl⟩:=row i y hy
        rw [← hl];exact h3 i x hx
      · obtain ⟨x,c,hx,hc,hle⟩:=cell i y j d hy hd
        obtain ⟨g1,g2⟩:=h4 i x j c hx hc
        refine ⟨?_,g2⟩
        cases hle with
        | refl=>exact g1
        | nil=>rfl
        | tup=>exact absurd g1 (by simp [Ze])
        | agg=>exact absurd g1 (by simp [Ze])
        | sl=>rfl
      · obtain ⟨x,c',hx,hc',hle⟩:=cell i y j d hy hd
        exact ih i x y j c' d hx hy hc' hd (h5 i x j c' c hx hc' hc)
section
variable {w : World} {Z : Nat→Prop} {inj : Inj} {st st' : AS} {a : Act} {Ds : List Nat} {base : Nat} {ρ : Nat→Nat} {fz ph : List Nat}
def wkZ (Z : Nat→Prop) (inj : Inj) (st : AS) (fz : List Nat) (b : Nat) : Prop:=Z b∨∃ n∈fz,∃ es xs o,find st.hp n = some (.dat es xs)∧inj n = some (b,o)
def wkI (inj : Inj) (ρ : Nat→Nat) (ph : List Nat) : Inj:=fun n=>if n∈ph then none else inj (ρ n)
theorem qcj (h : RelH w Z inj st.hp st.nx) {nx' : Nat} {v v' : V} (hv : Wv st ρ fz ph nx' v v') : ∀ {x : Value},RelV w Z inj st.nx v x→RelV w (wkZ Z inj st fz) (wkI inj ρ ph) nx' v' x:=by
  have hz : ∀ b,Z b→wkZ Z inj st fz b:=fun b hb=>.inl hb
  induction hv with
  | dead=>exact fun _=>.dead _
  | d hle=>intro x hx;cases hx with | d hx=>exact .d ((hx.le hle).mono (fun _ _=>rfl) hz)
  | nil hm hlt=>intro x hx;cases hx with | d hx=>cases hx;exact .hsnil hlt
  | dref cs j=>intro x hx;cases hx with | dref h1 h2 h3=>exact .dref (hz _ h1) h2 fun k d c hd hc=>(h3 k d c hd hc).mono (fun _ _=>rfl) hz
  | ref hr hp hlt=>intro x hx;cases hx with | ref h1 h2=>exact .ref hlt (by simp only [wkI,hp,hr,if_false];exact h2)
  | hs hr hp hlt=>
    intro x hx
    cases hx with
    | hsnil h1=>exact .hsnil hlt
    | hs h1 h2 h3 h4=>exact .hs hlt h2 h3 fun hc=>by obtain ⟨b,o,e1,e2,e3⟩:=h4 hc;exact ⟨b,o,by simp only [wkI,hp,hr,if_false];exact e1,e2,e3⟩
  | yld hr hp hlt=>intro x hx;cases hx with | yld h1 h2=>exact .yld hlt (by simp only [wkI,hp,hr,if_false];exact h2)
  | fn hl _ ih=>
    intro x hx
    cases hx with | @fn _ _ cs h1 h2=>
    refine .fn q7 fun i d c hd hc=>?_
    obtain ⟨y,hy⟩:=Y6 hl.symm hd
    exact ih i y d hy hd (h2 i y c hy hc)
  | agg hl _ ih=>
    intro x hx
    cases hx with | @agg _ cs h1 h2=>
    refine .agg q7 fun i d c hd hc=>?_
    obtain ⟨y,hy⟩:=Y6 hl.symm hd
    exact ih i y d hy hd (h2 i y c hy hc)
  | tup hl _ ih=>
    intro x hx
    cases hx with | @tup _ cs h1 h2=>
    refine .tup q7 fun i d c hd hc=>?_
    obtain ⟨y,hy⟩:=Y6 hl.symm hd
    exact ih i y d hy hd (h2 i y c hy hc)
  | dtup hl _ ih=>
    intro x hx
    cases hx with | d hx=>cases hx with | @tup _ cs h1 h2=>
    refine .tup q7 fun i d c hd hc=>?_
    obtain ⟨y,hy⟩:=Y6 hl.symm hd
    exact ih i y d hy hd (.d (h2 i y c hy hc))
  | dagg hl _ ih=>
    intro x hx
    cases hx with | d hx=>cases hx with | @agg _ cs h1 h2=>
    refine .agg q7 fun i d c hd hc=>?_
    obtain ⟨y,hy⟩:=Y6 hl.symm hd
    exact ih i y d hy hd (.d (h2 i y c hy hc))
  | @frz n es o l xs ys k hb hf hle hys hk=>
    intro x hx
    subst hk hys
    have hlen : ((xs.drop o).take l).length = l:=by simp;omega
    have hB:=(h.blk n _ hb).2
    obtain ⟨b1,b2,b3⟩:=hB
    cases hx with
    | hsnil h1=>
      have : (xs.drop o).take 0 = []:=by simp
      rw [this];exact .d (.slnil _)
    | @hs _ _ _ _ cap ad h1 h2 h3 h4=>
      obtain ⟨bb,oo,sp⟩:=ad
      simp only at h3;subst h3
      by_cases h0 : l = 0
      · subst h0
        have : (xs.drop o).take 0 = []:=by simp
        rw [this]
        exact .d (RelD.sl (es:=k) (xs:=[]) qf qf qf qf qf)
      · obtain ⟨b,o',e1,e2,e3⟩:=h4 q7
        rw [e2]
        rcases b3 with ⟨_,b4⟩ | ⟨b',o'',arr,ty,b4,b5,b6⟩
        · rw [e1] at b4;cases b4
        · rw [e1] at b4;cases b4
          have hget : ∀ (i : Nat) (x : List DV),((xs.drop o).take l)[i]? = some x→xs[o + i]? = some x:=by
            intro i x hx
            rw [List.getElem?_take] at hx
            split at hx
            · rwa [List.getElem?_drop] at hx
            · simp at hx
          have e9 : ∀ i j,o' + o * k + (i * k + j) = o' + ((o + i) * k + j):=by intro i j;rw [Nat.add_mul];omega
          have hcell : ∀ (i : Nat) (x : List DV) (j : Nat) (d : DV),((xs.drop o).take l)[i]? = some x→x[j]? = some d→Ze d = true∧∃ c,w.cell? ⟨b,o' + o * k + (i * k + j),none⟩ = some c∧RelD w Z d c:=by
            intro i x j d hx hd
            obtain ⟨c1,c,c2,c3⟩:=b6 _ x j d (hget i x hx) hd
            exact ⟨c1,c,by rw [e9];simp only [World.cell?,b5];exact c2,c3⟩
          have:=RelD.sl (w:=w) (Z:=wkZ Z inj st fz) (es:=k) (xs:=(xs.drop o).take l) (b:=b) (o:=o' + o * k) (cap:=cap) (by rw [hlen];exact h2) (fun _=>.inr ⟨n,hf,_,_,o',hb,e1⟩) (fun i x hx=>b2 _ _ (hget i x hx))
            (fun i x j d hx hd=>by obtain ⟨c1,c,c2,_⟩:=hcell i x j d hx hd;exact ⟨c1,c,c2⟩)
            (fun i x j d c hx hd hc=>by obtain ⟨_,c',c2,c3⟩:=hcell i x j d hx hd;rw [c2] at hc;cases hc;exact c3.mono (fun _ _=>rfl) hz)
          rw [hlen] at this
          exact .d this
  | @frzB n es cs k hb hf hk=>
    intro x hx
    subst hk
    obtain ⟨b1,b2,b3⟩:=(h.blk n _ hb).2
    cases hx with | @ref _ _ _ _ b o h1 h2=>
    rcases b3 with ⟨b4,_⟩ | ⟨b',o'',arr,ty,b4,b5,b6⟩
    · simp at b4
    · rw [h2] at b4;cases b4
      have hcell : ∀ (j : Nat) (d : DV),cs[j]? = some d→∃ c,w.cell? ⟨b,o + (0 * k + 0) + j,none⟩ = some c∧RelD w Z d c:=by
        intro j d hd
        obtain ⟨c1,c,c2,c3⟩:=b6 0 cs j d rfl hd
        exact ⟨c,by simp only [World.cell?,b5];rw [← c2];simp,c3⟩
      exact .d (.box (.inr ⟨n,hf,_,_,o,hb,h2⟩) (fun j d hd=>by obtain ⟨c,c2,_⟩:=hcell j d hd;exact ⟨c,c2⟩)
        (fun j d c hd hc=>by obtain ⟨c',c2,c3⟩:=hcell j d hd;rw [c2] at hc;cases hc;exact c3.mono (fun _ _=>rfl) hz))
theorem q10w (h : RelH w Z inj st.hp st.nx) {nx' n : Nat} {b b' : Blk} (hp : n ∉ ph) (hw : Wb st ρ fz ph nx' b b') (hb : RelB w Z inj st.nx (ρ n) b) : RelB w (wkZ Z inj st fz) (wkI inj ρ ph) nx' n b':=by
  have hz : ∀ b,Z b→wkZ Z inj st fz b:=fun b hb=>.inl hb
  have hi : wkI inj ρ ph n = inj (ρ n):=by simp [wkI,hp]
  cases hw with
  | dead=>trivial
  | dat es xs=>
    obtain ⟨h1,h2,h3⟩:=hb
    refine ⟨h1,h2,?_⟩
    rcases h3 with ⟨h3,h4⟩ | ⟨b,o,arr,ty,h3,h4,h5⟩
    · exact .inl ⟨h3,hi.trans h4⟩
    · exact .inr ⟨b,o,arr,ty,hi.trans h3,h4,fun i x j d hx hd=>by obtain ⟨c1,c,c2,c3⟩:=h5 i x j d hx hd;exact ⟨c1,c,c2,c3.mono (fun _ _=>rfl) hz⟩⟩
  | cel hl hc=>
    obtain ⟨h1,h2,h3⟩:=hb
    refine ⟨h1,?_,?_⟩
    · intro i y hy
      obtain ⟨x,hx⟩:=Y6 hl.symm hy
      rw [← (hc i x y hx hy).1];exact h2 i x hx
    · rcases h3 with ⟨h3,h4⟩ | ⟨b,o,arr,ty,h3,h4,h5⟩
      · exact .inl ⟨List.eq_nil_of_length_eq_zero (by rw [← hl,h3];rfl),hi.trans h4⟩
      · refine .inr ⟨b,o,arr,ty,hi.trans h3,h4,fun i y j d hy hd=>?_⟩
        obtain ⟨x,hx⟩:=Y6 hl.symm hy
        obtain ⟨l1,l2⟩:=hc i x y hx hy
        obtain ⟨c0,hc0⟩:=Y6 l1.symm hd
        obtain ⟨m1,m2⟩:=l2 j c0 d hc0 hd
        obtain ⟨c1,c,c2,c3⟩:=h5 i x j c0 hx hc0
        exact ⟨m2,c,c2,qcj h m1 c3⟩
  | datcel hl hc=>
    obtain ⟨h1,h2,h3⟩:=hb
    refine ⟨h1,?_,?_⟩
    · intro i y hy
      obtain ⟨x,hx⟩:=Y6 hl.symm hy
      rw [← (hc i x y hx hy).1];exact h2 i x hx
    · rcases h3 with ⟨h3,h4⟩ | ⟨b,o,arr,ty,h3,h4,h5⟩
      · exact .inl ⟨List.eq_nil_of_length_eq_zero (by rw [← hl,h3];rfl),hi.trans h4⟩
      · refine .inr ⟨b,o,arr,ty,hi.trans h3,h4,fun i y j d hy hd=>?_⟩
        obtain ⟨x,hx⟩:=Y6 hl.symm hy
        obtain ⟨l1,l2⟩:=hc i x y hx hy
        obtain ⟨c0,hc0⟩:=Y6 l1.symm hd
        obtain ⟨m1,m2⟩:=l2 j c0 d hc0 hd
        obtain ⟨c1,c,c2,c3⟩:=h5 i x j c0 hx hc0
        exact ⟨m2,c,c2,qcj h m1 (.d c3)⟩
  | loop hs=>
    obtain ⟨b,tmps,D,fn,h1,h2,h3,h4⟩:=hb
    refine ⟨b,tmps,D,fn,hi.trans h1,h2,h3,fun t v' ht=>?_⟩
    obtain ⟨v,hv,hw⟩:=hs t v' ht
    obtain ⟨x,hx,hr⟩:=h4 t v hv
    exact ⟨x,hx,qcj h hw hr⟩
theorem qmx {nx' : Nat} {b b' : Blk} (hw : Wb st ρ fz ph nx' b b') (hl : live b' = true) : live b = true:=by
  cases hw <;> first | rfl | simp [live] at hl
theorem q46 (h : RelS w Z inj st a Ds) (hw : Wk base ρ fz ph st st') : RelS w (wkZ Z inj st fz) (wkI inj ρ ph) st' a Ds∧Ext w Z inj st.hp w (wkZ Z inj st fz) (wkI inj ρ ph) st'.hp base:=by
  have back : ∀ n b',st'.blk n = some b'→live b' = true→∀ p,wkI inj ρ ph n = some p→n ∉ ph∧∃ b,st.blk (ρ n) = some b∧live b = true∧inj (ρ n) = some p:=by
    intro n b' hb hl p hp
    have hnp : n ∉ ph:=by intro hc;simp [wkI,hc] at hp
    obtain ⟨_,h2⟩:=hw.blocks n b' hb
    rcases h2 with ⟨h2,_⟩ | ⟨_,b,h3,h4⟩
    · exact absurd h2 hnp
    · exact ⟨hnp,b,h3,qmx h4 hl,by simpa [wkI,hnp] using hp⟩
  refine ⟨⟨?_,⟨?_,?_,?_,?_,?_⟩,h.defs,h.nodup,h.marks⟩,?_⟩
  · intro t v' ht
    obtain ⟨v,hv,hwv⟩:=hw.slots t v' ht
    obtain ⟨x,hx,hr⟩:=h.slots t v hv
    exact ⟨x,hx,qcj h.heap hwv hr⟩
  · intro n b' hb
    obtain ⟨h1,h2⟩:=hw.blocks n b' hb
    refine ⟨h1,?_⟩
    rcases h2 with ⟨h2,es,hes,rfl⟩ | ⟨h2,b,h3,h4⟩
    · exact ⟨hes,qf,.inl ⟨rfl,by simp [wkI,h2]⟩⟩
    · exact q10w h.heap h2 h4 (h.heap.blk _ _ h3).2
  · intro n m b c p q hn hm hlb hlc hp hq hne
    obtain ⟨n1,b0,n2,n3,n4⟩:=back n b hn hlb p hp
    obtain ⟨m1,c0,m2,m3,m4⟩:=back m c hm hlc q hq
    exact h.heap.sep _ _ b0 c0 p q n2 m2 n3 m3 n4 m4 (fun e=>hne (hw.inj n m b c hn hm n1 m1 e))
  · intro n b p hn hl hp hz
    obtain ⟨n1,b0,n2,n3,n4⟩:=back n b hn hl p hp
    rcases hz with hz | ⟨m,hm,es,xs,o,k1,k3⟩
    · exact h.heap.out _ b0 p n2 n3 n4 hz
    · exact h.heap.sep _ _ b0 _ p (p.1,o) n2 k1 n3 rfl n4 k3 (fun e=>hw.free n b hn n1 (by rw [e];exact hm)) rfl
  · intro b hz
    rcases hz with hz | ⟨m,hm,es,xs,o,k1,k3⟩
    · exact h.heap.zs b hz
    · exact h.heap.im_lt ⟨m,_,o,k1,rfl,k3⟩
  · intro b hz
    rcases hz with hz | ⟨m,hm,es,xs,o,k1,k3⟩
    · exact h.heap.zc b hz
    · obtain ⟨_,_,b3⟩:=(h.heap.blk m _ k1).2
      rcases b3 with ⟨_,b4⟩ | ⟨b',o'',arr,ty,b4,b5,_⟩
      · rw [k3] at b4;cases b4
      · rw [k3] at b4;cases b4;exact ⟨_,_,_,b5⟩
  · refine ⟨Nat.le_refl _,fun _ _ _=>rfl,?_,fun _ c e f h=>⟨c,e,f,h,rfl⟩,fun _ r h=>⟨r,h,rfl⟩,fun _ h=>.inl h,?_,?_,rfl,rfl,rfl,fun _=>rfl⟩
    · rintro b ⟨n,blk,o,k1,k2,k3⟩
      obtain ⟨n1,b0,n2,n3,n4⟩:=back n blk k1 k2 _ k3
      exact .inl ⟨_,b0,o,n2,n3,n4⟩
    · intro b hz
      rcases hz with hz | ⟨m,hm,es,xs,o,k1,k3⟩
      · exact .inl hz
      · exact .inr (.inl ⟨m,_,o,k1,rfl,k3⟩)
    · intro n hn
      have hnp : n ∉ ph:=fun hc=>by have:=hw.phantom n hc;omega
      simp [wkI,hnp,hw.small n hn]
end
end Go.Am
namespace Go.Am
open Go
variable {P : Program} {T : Tab}
section
variable {w : World} {Z : Nat→Prop} {inj : Inj} {st : AS} {a : Act} {Ds : List Nat}
theorem qu9 {r : ResultVar} {v : V} (hT : Ym P T) (h : RelH w Z inj st.hp st.nx) (hs : Yh w Z inj st.nx st.sl a.tmps) (hr : qew T st r = some v) :
    ∃ x,(match r with | .tmp t=>pure (a.tmps.getD t undef) | .cell p t=>(do loadVar t (← asAddr (a.tmps.getD p undef)) : Sem Value) : Sem Value).run P w = .ok x w∧RelV w Z inj st.nx v x:=by
  cases r with
  | tmp t=>
    obtain ⟨x,hx,hrel⟩:=hs t v hr
    exact ⟨x,by simp [Array.getD_eq_getD_getElem?,hx],hrel⟩
  | cell p t=>
    simp only [qew] at hr
    split at hr <;> try simp at hr
    rename_i pv i hp ht
    obtain ⟨x,hx,hrel⟩:=hs p pv hp
    obtain ⟨b,o,y,e,hrun,hy⟩:=qjf (P:=P) h (hT _ _ ht) hrel hr
    refine ⟨y,?_,hy⟩
    rw [e] at hx hrun
    simp [Instr.loadAt,Instr.sureAddr] at hrun
    simp [Array.getD_eq_getD_getElem?,hx,asAddr,hrun]
theorem ql7 (hT : Ym P T) (h : RelH w Z inj st.hp st.nx) (hs : Yh w Z inj st.nx st.sl a.tmps) (g : ResultVar→Sem Value) (hg1 : ∀ t,g (.tmp t) = pure (a.tmps.getD t undef))
    (hg2 : ∀ p t,g (.cell p t) = (do loadVar t (← asAddr (a.tmps.getD p undef)))) : ∀ {l : List ResultVar} {vs : List V},resL T st l = some vs→
    ∃ xs : List Value,(l.mapM g).run P w = .ok xs w∧LRel w Z inj st.nx vs xs.toArray
  | [],vs,hr=>by simp [resL] at hr;subst hr;exact ⟨[],qf,qf,qf⟩
  | r::l,vs,hr=>by
    simp only [resL] at hr
    split at hr <;> try simp at hr
    rename_i v vs' h1 h2
    subst hr
    obtain ⟨x,hx,hrel⟩:=qu9 hT h hs h1
    obtain ⟨xs,hxs,hl⟩:=ql7 hT h hs g hg1 hg2 h2
    have hx : (g r).run P w = .ok x w:=by
      rw [← hx];cases r
      · rw [hg1]
      · rw [hg2]
    refine ⟨x::xs,?_,?_,?_⟩
    · rw [List.mapM_cons]
      simp only [Sem.run_bind,hx,Result.andThen_ok,hxs,Sem.run_pure]
    · have:=hl.1;simp at this ⊢;omega
    · intro i d c hd hc
      cases i with
      | zero=>simp at hd hc;subst hd hc;exact hrel
      | succ i=>simp at hd hc;exact hl.2 i d c hd (by simpa using hc)
theorem qre {nx : Nat} {cs : List V} {xs : Array Value} (h : LRel w Z inj nx cs xs) : RelV w Z inj nx (qea cs) (.tuple xs):=by
  unfold qea
  split
  · rename_i ds hd
    have:=q49 hd;subst this
    refine .d (.tup (by simpa using h.1) fun i d c h1 h2=>?_)
    have:=h.2 i (.d d) c (by simp [h1]) h2
    cases this with | d h=>exact h
  · exact .tup h.1 h.2
theorem qua {fn : Func} {v : V} (hT : Ym P T) (h : RelH w Z inj st.hp st.nx) (hs : Yh w Z inj st.nx st.sl a.tmps) (hr : resV T st fn.results.toList = some v) : ∃ x,(results fn a.tmps).run P w = .ok x w∧RelV w Z inj st.nx v x:=by
  unfold resV at hr
  have key : ∀ vs,resL T st fn.results.toList = some vs→∃ xs : List Value,(results fn a.tmps).run P w = .ok (if h : xs.toArray.size = 1 then xs.toArray[0] else .tuple xs.toArray) w∧LRel w Z inj st.nx vs xs.toArray:=by
    intro vs hvs
    unfold results
    generalize hg : (fun x=>match x with | .tmp t=>pure (a.tmps.getD t undef) | .cell p t=>(do loadVar t (← asAddr (a.tmps.getD p undef)) : Sem Value) : ResultVar→Sem Value) = g
    rw [Sem.run_bind,Array.mapM_eq_mapM_toList,Sem.run_map]
    obtain ⟨xs,hxs,hl⟩:=ql7 hT h hs g (fun t=>by rw [← hg]) (fun p t=>by rw [← hg]) hvs
    refine ⟨xs,?_,hl⟩
    rw [hxs]
    rfl
  split at hr
  · rename_i v' hvs
    simp at hr;subst hr
    obtain ⟨xs,hx,hl⟩:=key _ hvs
    obtain ⟨y,hy,hrel⟩:=qe1 hl
    have : xs = [y]:=by simpa using congrArg Array.toList hy
    subst this
    exact ⟨y,by simpa using hx,hrel⟩
  · rename_i vs hne hvs
    simp at hr;subst hr
    obtain ⟨xs,hx,hl⟩:=key _ hvs
    refine ⟨.tuple xs.toArray,?_,qre hl⟩
    have : xs.toArray.size≠1:=by
      rw [← hl.1]
      intro hc
      match vs,hc with
      | [x],_=>exact hne x rfl
    rw [dif_neg this] at hx
    exact hx
  · simp at hr
end
end Go.Am
namespace Go.Am
open Go
variable {P : Program} {T : Tab}
section
variable {w : World} {Z : Nat→Prop} {inj : Inj} {hp : List (Nat × Blk)} {nx : Nat}
theorem q4t {α β : Type} {f : α→Option β} : ∀ {l : List α} {r : List β},Zg f l = some r→r.length = l.length∧∀ (i : Nat) (x : α),l[i]? = some x→∃ y,r[i]? = some y∧f x = some y
  | [],r,h=>by simp [Zg] at h;subst h;simp
  | x::l,r,h=>by
    simp only [Zg] at h
    split at h <;> try simp at h
    rename_i y hy
    split at h <;> simp at h
    rename_i r' hr'
    subst h
    obtain ⟨h1,h2⟩:=q4t hr'
    refine ⟨by simp [h1],fun i z hz=>?_⟩
    cases i with
    | zero=>simp at hz;subst hz;exact ⟨y,rfl,hy⟩
    | succ i=>simp at hz;obtain ⟨u,h3,h4⟩:=h2 i z hz;exact ⟨u,by simpa using h3,h4⟩
def zAll (w : World) (Z : Nat→Prop) (inj : Inj) (hp : List (Nat × Blk)) (b : Nat) : Prop:=Z b∨(im hp inj b∧∃ c e f,w.heap[b]? = some (.cells c e f))
theorem q10g {k : Nat} {v : V} {d : DV} (h : toD hp k v = some d) (hc : K9 v = true) : Ze d = true:=by
  cases k with
  | zero=>cases v <;> simp [toD] at h;subst h;exact hc
  | succ k=>
    cases v with
    | d x=>simp [toD] at h;subst h;exact hc
    | agg cs=>simp [K9] at hc
    | tup cs=>simp [K9] at hc
    | dead=>simp [K9] at hc
    | fn f cs=>simp only [toD,Option.map_eq_some_iff] at h;obtain ⟨_,_,rfl⟩:=h;rfl
    | yld n=>simp [toD] at h
    | dref cs j=>simp [toD] at h
    | hs n es o l=>
      simp only [toD] at h
      split at h
      · split at h <;> simp at h;subst h;rfl
      · split at h <;> simp at h;obtain ⟨_,_,rfl⟩:=h;rfl
      · simp at h
    | ref n es i j=>
      simp only [toD] at h
      split at h
      · split at h <;> simp at h;subst h;rfl
      · split at h <;> simp at h;obtain ⟨_,_,rfl⟩:=h;rfl
      · simp at h
theorem q9s (h : RelH w Z inj hp nx) : ∀ (k : Nat) {v : V} {x : Value} {d : DV},toD hp k v = some d→RelV w Z inj nx v x→RelD w (zAll w Z inj hp) d x
  | 0,v,x,d,hd,hv=>by
    cases v <;> simp [toD] at hd
    subst hd
    cases hv with | d hv=>exact hv.mono (fun _ _=>rfl) (fun _ hz=>.inl hz)
  | k + 1,v,x,d,hd,hv=>by
    have hz : ∀ b,Z b→zAll w Z inj hp b:=fun _ hz=>.inl hz
    have ih:=fun {v : V} {x : Value} {d : DV}=>q9s h k (v:=v) (x:=x) (d:=d)
    have list : ∀ {cs : List V} {ds : List DV} {xs : Array Value},Zg (toD hp k) cs = some ds→cs.length = xs.size→(∀ (i : Nat) (d : V) (c : Value),cs[i]? = some d→xs[i]? = some c→RelV w Z inj nx d c)→
        ds.length = xs.size∧∀ (i : Nat) (d : DV) (c : Value),ds[i]? = some d→xs[i]? = some c→RelD w (zAll w Z inj hp) d c:=by
      intro cs ds xs hm hl hr
      obtain ⟨h1,h2⟩:=q4t hm
      refine ⟨q7,fun i d c hd hc=>?_⟩
      obtain ⟨y,hy⟩:=Y6 h1 hd
      obtain ⟨d',hd',hf⟩:=h2 i y hy
      rw [hd] at hd';cases hd'
      exact ih hf (hr i y c hy hc)
    cases v with
    | d y=>simp [toD] at hd;subst hd;cases hv with | d hv=>exact hv.mono (fun _ _=>rfl) hz
    | agg cs=>
      simp only [toD,Option.map_eq_some_iff] at hd
      obtain ⟨ds,hm,rfl⟩:=hd
      cases hv with | agg h1 h2=>obtain ⟨a,b⟩:=list hm h1 h2;exact .agg a b
    | tup cs=>
      simp only [toD,Option.map_eq_some_iff] at hd
      obtain ⟨ds,hm,rfl⟩:=hd
      cases hv with | tup h1 h2=>obtain ⟨a,b⟩:=list hm h1 h2;exact .tup a b
    | fn f cs=>
      simp only [toD,Option.map_eq_some_iff] at hd
      obtain ⟨ds,hm,rfl⟩:=hd
      cases hv with | fn h1 h2=>obtain ⟨a,b⟩:=list hm h1 h2;exact .fn a b
    | dead=>simp [toD] at hd
    | yld n=>simp [toD] at hd
    | dref cs j=>simp [toD] at hd
    | hs n es o l=>
      have key : ∀ (rows : List (List DV)) (blk : Blk),rows.length = l→find hp n = some blk→live blk = true→(∀ (i : Nat) (x : List DV),rows[i]? = some x→x.length = es)→
          (∀ b o',inj n = some (b,o')→∃ arr ty,w.heap[b]? = some (.cells arr ty (0,0))∧∀ (i : Nat) (x : List DV) (j : Nat) (d : DV),rows[i]? = some x→x[j]? = some d→Ze d = true∧∃ c,arr[o' + ((o + i) * es + j)]? = some c∧RelD w (zAll w Z inj hp) d c)→
          RelD w (zAll w Z inj hp) (.sl es rows) x:=by
        intro rows blk hlen hb hlive hrow hcell
        cases hv with
        | hsnil h1=>
          have : rows = []:=List.length_eq_zero_iff.1 hlen
          subst this;exact .slnil es
        | @hs _ _ _ _ cap ad h1 h2 h3 h4=>
          obtain ⟨bb,oo,sp⟩:=ad
          simp only at h3;subst h3
          by_cases h0 : l = 0
          · have : rows = []:=List.length_eq_zero_iff.1 q7
            subst this;subst h0
            exact RelD.sl (es:=es) (xs:=[]) qf qf qf qf qf
          · obtain ⟨b,o',e1,e2,e3⟩:=h4 q7
            rw [e2]
            obtain ⟨arr,ty,b5,b6⟩:=hcell b o' e1
            have e9 : ∀ i j,o' + o * es + (i * es + j) = o' + ((o + i) * es + j):=by intro i j;rw [Nat.add_mul];omega
            have hc : ∀ (i : Nat) (x : List DV) (j : Nat) (d : DV),rows[i]? = some x→x[j]? = some d→Ze d = true∧∃ c,w.cell? ⟨b,o' + o * es + (i * es + j),none⟩ = some c∧RelD w (zAll w Z inj hp) d c:=by
              intro i x j d hx hd
              obtain ⟨c1,c,c2,c3⟩:=b6 _ x j d hx hd
              exact ⟨c1,c,by rw [e9];simp only [World.cell?,b5];exact c2,c3⟩
            have:=RelD.sl (w:=w) (Z:=zAll w Z inj hp) (es:=es) (xs:=rows) (b:=b) (o:=o' + o * es) (cap:=cap) (by rw [hlen];exact h2) (fun _=>.inr ⟨⟨n,blk,o',hb,hlive,e1⟩,_,_,_,b5⟩) hrow
              (fun i x j d hx hd=>by obtain ⟨c1,c,c2,_⟩:=hc i x j d hx hd;exact ⟨c1,c,c2⟩)
              (fun i x j d c hx hd hcc=>by obtain ⟨_,c',c2,c3⟩:=hc i x j d hx hd;rw [c2] at hcc;cases hcc;exact c3)
            rw [hlen] at this
            exact this
      simp only [toD] at hd
      split at hd
      · rename_i m xs hb
        split at hd <;> simp at hd
        rename_i hle
        obtain ⟨hle,rfl⟩:=hle
        subst hd
        obtain ⟨b1,b2,b3⟩:=(h.blk n _ hb).2
        have hget : ∀ (i : Nat) (x : List DV),((xs.drop o).take l)[i]? = some x→xs[o + i]? = some x:=by
          intro i x hx
          rw [List.getElem?_take] at hx
          split at hx
          · rwa [List.getElem?_drop] at hx
          · simp at hx
        refine key _ _ (by simp;omega) hb rfl (fun i x hx=>b2 _ _ (hget i x hx)) ?_
        intro b o' hi
        rcases b3 with ⟨_,b4⟩ | ⟨b',o'',arr,ty,b4,b5,b6⟩
        · rw [hi] at b4;cases b4
        · rw [hi] at b4;cases b4
          refine ⟨arr,ty,b5,fun i x j d hx hd=>?_⟩
          obtain ⟨c1,c,c2,c3⟩:=b6 _ x j d (hget i x hx) hd
          exact ⟨c1,c,c2,c3.mono (fun _ _=>rfl) hz⟩
      · rename_i m xs hb
        split at hd <;> simp at hd
        rename_i hle
        obtain ⟨hle,rfl⟩:=hle
        obtain ⟨rows,hm,rfl⟩:=hd
        obtain ⟨m1,m2⟩:=q4t hm
        obtain ⟨b1,b2,b3⟩:=(h.blk n _ hb).2
        have hget : ∀ (i : Nat) (x : List V),((xs.drop o).take l)[i]? = some x→xs[o + i]? = some x:=by
          intro i x hx
          rw [List.getElem?_take] at hx
          split at hx
          · rwa [List.getElem?_drop] at hx
          · simp at hx
        have hrow : ∀ (i : Nat) (x : List DV),rows[i]? = some x→∃ y,xs[o + i]? = some y∧Zg (toD hp k) y = some x:=by
          intro i x hx
          obtain ⟨y,hy⟩:=Y6 m1 hx
          obtain ⟨x',hx',hf⟩:=m2 i y hy
          rw [hx] at hx';cases hx'
          exact ⟨y,hget _ _ hy,hf⟩
        refine key rows _ (by simp at m1;omega) hb rfl (fun i x hx=>by obtain ⟨y,hy,hf⟩:=hrow i x hx;rw [(q4t hf).1];exact b2 _ _ hy) ?_
        intro b o' hi
        rcases b3 with ⟨_,b4⟩ | ⟨b',o'',arr,ty,b4,b5,b6⟩
        · rw [hi] at b4;cases b4
        · rw [hi] at b4;cases b4
          refine ⟨arr,ty,b5,fun i x j d hx hd=>?_⟩
          obtain ⟨y,hy,hf⟩:=hrow i x hx
          obtain ⟨f1,f2⟩:=q4t hf
          obtain ⟨u,hu⟩:=Y6 f1 hd
          obtain ⟨d',hd',hfd⟩:=f2 j u hu
          rw [hd] at hd';cases hd'
          obtain ⟨c1,c,c2,c3⟩:=b6 _ y j u hy hu
          exact ⟨q10g hfd c1,c,c2,ih hfd c3⟩
      · simp at hd
    | ref n es i j=>
      have key : ∀ (row : List DV) (blk : Blk),i = 0→j = 0→find hp n = some blk→live blk = true→
          (∀ b o',inj n = some (b,o')→∃ arr ty,w.heap[b]? = some (.cells arr ty (0,0))∧∀ (j : Nat) (d : DV),row[j]? = some d→∃ c,arr[o' + j]? = some c∧RelD w (zAll w Z inj hp) d c)→
          RelD w (zAll w Z inj hp) (.box row) x:=by
        intro row blk hi hj hb hlive hcell
        subst hi hj
        cases hv with | @ref _ _ _ _ b o h1 h2=>
        obtain ⟨arr,ty,b5,b6⟩:=hcell b o h2
        have hc : ∀ (j : Nat) (d : DV),row[j]? = some d→∃ c,w.cell? ⟨b,o + (0 * es + 0) + j,none⟩ = some c∧RelD w (zAll w Z inj hp) d c:=by
          intro j d hd
          obtain ⟨c,c2,c3⟩:=b6 j d hd
          exact ⟨c,by simp only [World.cell?,b5];rw [← c2];simp,c3⟩
        exact .box (.inr ⟨⟨n,blk,o,hb,hlive,h2⟩,_,_,_,b5⟩) (fun j d hd=>by obtain ⟨c,c2,_⟩:=hc j d hd;exact ⟨c,c2⟩)
          (fun j d c hd hcc=>by obtain ⟨c',c2,c3⟩:=hc j d hd;rw [c2] at hcc;cases hcc;exact c3)
      simp only [toD] at hd
      split at hd
      · rename_i m xs hb
        split at hd <;> simp at hd
        subst hd
        obtain ⟨b1,b2,b3⟩:=(h.blk n _ hb).2
        refine key _ _ rfl rfl hb rfl ?_
        intro b o' hi
        rcases b3 with ⟨b4,_⟩ | ⟨b',o'',arr,ty,b4,b5,b6⟩
        · simp at b4
        · rw [hi] at b4;cases b4
          refine ⟨arr,ty,b5,fun j d hd=>?_⟩
          obtain ⟨_,c,c2,c3⟩:=b6 0 _ j d rfl hd
          exact ⟨c,by rw [← c2];simp,c3.mono (fun _ _=>rfl) hz⟩
      · rename_i m xs hb
        split at hd <;> simp at hd
        obtain ⟨row,hm,rfl⟩:=hd
        obtain ⟨b1,b2,b3⟩:=(h.blk n _ hb).2
        refine key _ _ rfl rfl hb rfl ?_
        intro b o' hi
        rcases b3 with ⟨b4,_⟩ | ⟨b',o'',arr,ty,b4,b5,b6⟩
        · simp at b4
        · rw [hi] at b4;cases b4
          refine ⟨arr,ty,b5,fun j d hd=>?_⟩
          obtain ⟨f1,f2⟩:=q4t hm
          obtain ⟨u,hu⟩:=Y6 f1 hd
          obtain ⟨d',hd',hfd⟩:=f2 j u hu
          rw [hd] at hd';cases hd'
          obtain ⟨_,c,c2,c3⟩:=b6 0 _ j u rfl hu
          exact ⟨c,by rw [← c2];simp,ih hfd c3⟩
      · simp at hd
theorem qgc (h : RelH w Z inj hp nx) : ∀ {vs : List V} {ds : List DV},Kg hp vs = some ds→ds.length = vs.length∧∀ (i : Nat) (v : V),vs[i]? = some v→∃ d,ds[i]? = some d∧toD hp 8 v = some d
  | [],ds,hd=>by simp [Kg] at hd;subst hd;simp
  | v::r,ds,hd=>by
    simp only [Kg] at hd
    split at hd <;> simp at hd
    rename_i x l h1 h2
    subst hd
    obtain ⟨a,b⟩:=qgc h h2
    refine ⟨by simp [a],fun i u hu=>?_⟩
    cases i with
    | zero=>simp at hu;subst hu;exact ⟨x,rfl,h1⟩
    | succ i=>simp at hu;obtain ⟨d,h3,h4⟩:=b i u hu;exact ⟨d,by simpa using h3,h4⟩
theorem qr8 (h : RelH w Z inj hp nx) {vs : List V} {ds : List DV} {xs : Array Value} (hd : Kg hp vs = some ds) (hl : LRel w Z inj nx vs xs) (inj' : Inj) : LRel w (zAll w Z inj hp) inj' 0 (ds.map .d) xs:=by
  obtain ⟨a,b⟩:=qgc h hd
  refine ⟨by simpa [a] using hl.1,fun i d c h1 h2=>?_⟩
  simp only [List.getElem?_map,Option.map_eq_some_iff] at h1
  obtain ⟨d',h1,rfl⟩:=h1
  obtain ⟨v,hv⟩:=Y6 a h1
  obtain ⟨d2,h3,h4⟩:=b i v hv
  rw [h1] at h3;cases h3
  exact .d (q9s h 8 h4 (hl.2 i v c hv h2))
theorem qr7 {vs : List V} {ds : List DV} {xs : Array Value} (hd : Kg hp vs = some ds) (hv : vs.all V.isD = true) (hl : LRel w Z inj nx vs xs) (inj' : Inj) : LRel w Z inj' 0 (ds.map .d) xs:=by
  have e : ∀ {vs : List V} {ds : List DV},Kg hp vs = some ds→vs.all V.isD = true→ds.map .d = vs:=by
    intro vs
    induction vs with
    | nil=>intro ds hd _;simp [Kg] at hd;subst hd;rfl
    | cons v r ih=>
      intro ds hd hv
      simp only [Kg] at hd
      split at hd <;> simp at hd
      rename_i x l h1 h2
      subst hd
      simp only [List.all_cons,Bool.and_eq_true] at hv
      obtain ⟨hv1,hv2⟩:=hv
      cases v <;> simp [V.isD] at hv1
      simp [toD] at h1;subst h1
      rw [List.map_cons,ih h2 hv2]
  refine ⟨by rw [e hd hv];exact hl.1,fun i d c h1 h2=>?_⟩
  rw [e hd hv] at h1
  have hx : V.isD d = true:=(List.all_eq_true.1 hv) d (List.mem_of_getElem? h1)
  have:=hl.2 i d c h1 h2
  cases this <;> simp [V.isD] at hx
  exact .d ‹_›
theorem quj {Z Z' : Nat→Prop} {d : DV} {x : Value} (h : RelD w Z d x) (hs : d.scalar = true) : RelD w Z' d x:=by
  have go : ∀ {ds : List DV},DV.scalar.go ds = true→∀ (i : Nat) (d : DV),ds[i]? = some d→(∀ {x : Value},RelD w Z d x→RelD w Z' d x):=by
    intro ds
    induction ds with
    | nil=>intro _ i d h;simp at h
    | cons y r ih=>
      intro hg i d hd
      cases i with
      | zero=>
        simp at hd;subst hd
        intro x hx
        cases y <;> simp [DV.scalar.go] at hg <;> cases hx <;> constructor
      | succ i=>
        simp at hd
        refine ih ?_ i d hd
        cases y <;> simp [DV.scalar.go] at hg <;> exact hg
  cases d <;> simp [DV.scalar] at hs
  case tup ds=>cases h with | tup h1 h2=>exact .tup h1 fun i d c hd hc=>go hs i d hd (h2 i d c hd hc)
  case agg ds=>cases h with | agg h1 h2=>exact .agg h1 fun i d c hd hc=>go hs i d hd (h2 i d c hd hc)
  all_goals (cases h <;> constructor)
end
end Go.Am
namespace Go.Am
open Go
variable {P : Program} {T : Tab}
def Fw (ro : Option Nat) : Fence:={fn:=fun _=>True,depth:=none,alive:=false,round:=ro}
def toE : Ex→Exit
  | .nor=>.normal
  | .exit id=>.exit id
  | .ret=>.ret
def Yt (ro : Option Nat) (w : World) : Prop:=∀ l,ro = some l→∃ r,w.heap[l]? = some (.loop r)
def Kv (base : Nat) (w : World) (Z : Nat→Prop) (inj : Inj) (st : AS) (a : Act) (Ds : List Nat) (st' : AS) (a' : Act) (w' : World) : Prop:=
  ∃ Z' inj' Ds',RelS w' Z' inj' st' a' Ds'∧Ext w Z inj st.hp w' Z' inj' st'.hp base∧a'.tmps.size = a.tmps.size∧base≤st'.nx∧∀ D∈Ds',D∈Ds∨w.heap.size≤D
section
variable {base : Nat} {w : World} {Z : Nat→Prop} {inj : Inj} {st st' st'' : AS} {a a' a'' : Act} {Ds : List Nat} {w' w'' : World}
theorem Kv.refl (h : RelS w Z inj st a Ds) (hb : base≤st.nx) : Kv base w Z inj st a Ds st a w:=⟨Z,inj,Ds,h,.refl,rfl,hb,fun _ h=>.inl h⟩
theorem Yt.ext {ro : Option Nat} {Z' : Nat→Prop} {inj' : Inj} {hp hp' : List (Nat × Blk)} {pin : Nat} (h : Yt ro w) (e : Ext w Z inj hp w' Z' inj' hp' pin) : Yt ro w':=
  fun l hl=>let ⟨r,hr⟩:=h l hl;let ⟨r',h',_⟩:=e.loops l r hr;⟨r',h'⟩
theorem Kv.bind {Q : Prop} (p : Kv base w Z inj st a Ds st' a' w') (h : ∀ Z' inj' Ds',RelS w' Z' inj' st' a' Ds'→a'.tmps.size = a.tmps.size→base≤st'.nx→(∀ ro,Yt ro w→Yt ro w')→
    (∀ st'' a'' w'',Kv base w' Z' inj' st' a' Ds' st'' a'' w''→Kv base w Z inj st a Ds st'' a'' w'')→Q) : Q:=by
  obtain ⟨Z',inj',Ds',h1,h2,h3,h4,h5⟩:=p
  refine h Z' inj' Ds' h1 h3 h4 (fun ro hr=>hr.ext h2) ?_
  rintro st'' a'' w'' ⟨Z2,i2,D2,k1,k2,k3,k4,k5⟩
  refine ⟨Z2,i2,D2,k1,h2.trans k2 (Nat.le_refl _),k3.trans h3,k4,fun D hD=>?_⟩
  rcases k5 D hD with h | h
  · exact h5 D h
  · exact .inr (Nat.le_trans h2.size h)
theorem qhh {n : Nat} {t : Tmp} (h : Jx n (some t) = true) : t < n:=by simpa [Jx,Nat.blt_eq] using h
theorem qkk (a : Act) (d : Option Tmp) (v : Value) : (a.put d v).tmps.size = a.tmps.size:=by cases d <;> simp [Act.put]
theorem Yh.put {nx : Nat} {s : List (Nat × V)} {tmps : Array Value} {v : V} {x : Value} {t : Tmp} (h : Yh w Z inj nx s tmps) (hv : RelV w Z inj nx v x) (ht : t < tmps.size) : Yh w Z inj nx ((t,v)::s) (tmps.setIfInBounds t x):=by
  intro u y hy
  rw [Ki] at hy
  split at hy
  · rename_i e;subst e;cases hy
    exact ⟨x,by simp [ht],hv⟩
  · rename_i e
    obtain ⟨z,hz,hr⟩:=h u y hy
    exact ⟨z,by rw [Array.getElem?_setIfInBounds_ne e];exact hz,hr⟩
theorem qu5 {Z' : Nat→Prop} {inj' : Inj} {hp' : List (Nat × Blk)} {nx' : Nat} {v : V} {x : Value} {dst : Option Tmp} (h : RelS w Z inj st a Ds) (e : Ext w Z inj st.hp w' Z' inj' hp' st.nx) (hh : RelH w' Z' inj' hp' nx') (hn : st.nx≤nx')
    (hv : RelV w' Z' inj' nx' v x) (hd : Jx a.tmps.size dst = true) : RelS w' Z' inj' ({sl:=st.sl,hp:=hp',nx:=nx' : AS}.putD dst v) (a.put dst x) Ds:=by
  have hs : Yh w' Z' inj' nx' st.sl a.tmps:=h.slots.mono (e.zkeep h.heap) e.zin e.big e.pinj hn
  cases dst with
  | none=>exact ⟨hs,hh,h.defs,h.nodup,fun D hD=>e.marks h.heap (h.marks D hD)⟩
  | some t=>exact ⟨hs.put hv (qhh hd),hh,h.defs,h.nodup,fun D hD=>e.marks h.heap (h.marks D hD)⟩
theorem Y8 (st : AS) (d : Option Tmp) (v : V) : (st.putD d v).hp = st.hp:=by cases d <;> rfl
theorem Y9 (st : AS) (d : Option Tmp) (v : V) : (st.putD d v).nx = st.nx:=by cases d <;> rfl
theorem q3i {Z' : Nat→Prop} {inj' : Inj} {hp' : List (Nat × Blk)} {nx' : Nat} {v : V} {x : Value} {dst : Option Tmp} (h : RelS w Z inj st a Ds) (hb : base≤st.nx) (e : Ext w Z inj st.hp w' Z' inj' hp' st.nx) (hh : RelH w' Z' inj' hp' nx') (hn : st.nx≤nx')
    (hv : RelV w' Z' inj' nx' v x) (hd : Jx a.tmps.size dst = true) : Kv base w Z inj st a Ds ({sl:=st.sl,hp:=hp',nx:=nx' : AS}.putD dst v) (a.put dst x) w':=
  ⟨Z',inj',Ds,qu5 h e hh hn hv hd,by rw [Y8];exact e.pin_le hb,qkk _ _ _,by rw [Y9];exact Nat.le_trans hb hn,fun _ h=>.inl h⟩
def Uu (P : Program) (F : Fence) (ops : Array Oper) (Q : Exit→Act→World→Prop) (o : Oper) (K : Act→World→Prop) (a : Act) (w : World) : Prop:=
  if Region.wanted o (yielded ops a.tmps) then o.wpIn F 0 P a w K Q else (∀ f,o.about P w a.eval = some f→F.fn f)∧K (a.put o.dst undef) w
theorem qmc {F : Fence} {ops : Array Oper} {Q : Exit→Act→World→Prop} {o : Oper} {K : Act→World→Prop} {i : Nat} (hi : ops[i]? = some o) (h : Uu P F ops Q o K a w) : wpOpIn F 0 P ops Q i K a w:=by
  unfold wpOpIn;rw [hi];exact h
def Jf (P : Program) (base : Nat) (ops : Array Oper) (o : Oper) (st st' : AS) : Prop:=
  ∀ (ro : Option Nat) (Q : Exit→Act→World→Prop) (w : World) (Z : Nat→Prop) (inj : Inj) (a : Act) (Ds : List Nat) (K : Act→World→Prop),RelS w Z inj st a Ds→Jx a.tmps.size o.dst = true→base≤st.nx→Yt ro w→
    (∀ a' w',Kv base w Z inj st a Ds st' a' w'→K a' w')→Uu P (Fw ro) ops Q o K a w
theorem q3c {ops : Array Oper} {o : Oper} {b : Bool} (h : RelS w Z inj st a Ds) (hg : Qk ops st o = some b) : Region.wanted o (yielded ops a.tmps) = b:=by
  unfold Qk at hg
  unfold Region.wanted
  cases hgo : o.guard with
  | none=>rw [hgo] at hg;simp at hg;simp [hg]
  | some jw=>
    obtain ⟨j,want⟩:=jw
    rw [hgo] at hg
    simp only at hg ⊢
    cases hd : (ops[j]?).bind (·.dst) with
    | none=>rw [hd] at hg;simp at hg
    | some t=>
      rw [hd] at hg
      simp only at hg
      unfold yielded
      rw [hd]
      split at hg
      · rename_i bb hv
        obtain ⟨x,hx,hr⟩:=h.slots t _ hv
        cases hr with | d hr=>
        cases hr
        simp at hg
        simp [hx,hg]
      · rename_i hv
        obtain ⟨x,hx,hr⟩:=h.slots t _ hv
        cases hr with | d hr=>
        cases hr
        simp at hg
        simp [hx,← hg]
      · simp at hg
theorem qu7 {nx : Nat} : RelV w Z inj nx (.d (.tup [])) undef:=.d (.tup qf qf)
theorem qit {ops : Array Oper} {o : Oper} (hg : Qk ops st o = some false) : Jf P base ops o st (st.putD o.dst (.d (.tup []))):=by
  intro ro Q w Z inj a Ds K h hd hb _ hK
  unfold Uu
  rw [q3c h hg]
  simp only [Bool.false_eq_true,if_false]
  exact ⟨fun _ _=>trivial,hK _ _ (q3i h hb .refl h.heap (Nat.le_refl _) qu7 hd)⟩
theorem qk8 {op : Op} {v : V} {st1 : AS} (ho : opFn T st op = some (v,st1)) : ∀ c,op≠.defer c:=by
  rintro c rfl;simp [opFn] at ho
theorem qdr {ops : Array Oper} {o : Oper} {v : V} {st1 : AS} (hT : Ym P T) (hg : Qk ops st o = some true) (ho : opFn T st o.op = some (v,st1)) : Jf P base ops o st (st1.putD o.dst v):=by
  intro ro Q w Z inj a Ds K h hd hb _ hK
  unfold Uu
  rw [q3c h hg]
  simp only [if_true]
  refine ⟨fun _ _=>trivial,?_⟩
  rw [show (Fw ro).round = ro from rfl,Oper.semAt_eq ro _ o (qk8 ho)]
  obtain ⟨x,w',inj',hr,hv,hh,he,hsl,hn⟩:=qk9 hT h ho
  obtain ⟨sl1,hp1,nx1⟩:=st1
  simp only at hsl hn hv hh he;subst hsl
  have hpost:=q3i h hb he hh hn hv hd
  rcases hr with hr | ⟨hr,rfl⟩
  · rw [hr];exact hK _ _ hpost
  · rw [hr];exact hK _ _ hpost
def Jd (P : Program) (f : FuncId) (vs : List V) (hp : List (Nat × Blk)) (nx : Nat) (v : V) (hp' : List (Nat × Blk)) (nx' : Nat) : Prop:=
  (∀ (args : Array Value) (w : World),(callFunc f args).run P w = .ok (.enter f args) w)∧
  ∀ (w : World) (Z : Nat→Prop) (inj : Inj) (xs : Array Value),RelH w Z inj hp nx→LRel w Z inj nx vs xs→
    CallsIn (Fw none) 0 P f xs w (fun e w'=>∃ x Z' inj',e = .returned x∧RelH w' Z' inj' hp' nx'∧Ext w Z inj hp w' Z' inj' hp' nx∧RelV w' Z' inj' nx' v x∧nx≤nx')
theorem qd2 {c : Call} {o : Oper} {f : FuncId} {vs : List V} (h : RelS w Z inj st a Ds) (ho : o.op = .call c) (hc : callee st c = some (f,vs)) (hcall : ∀ (args : Array Value) (w : World),(callFunc f args).run P w = .ok (.enter f args) w) :
    ∃ xs,(execOp a.eval o).run P w = .ok (.enter f xs) w∧LRel w Z inj st.nx vs xs:=by
  obtain ⟨dst,op,type,pos,after,guard⟩:=o
  simp only at ho;subst ho
  obtain ⟨cal,args,argTypes⟩:=c
  unfold callee at hc
  simp only at hc
  cases cal <;> simp only [reduceCtorEq] at hc
  rename_i g
  have app : ∀ {as caps : List V} {xs ys : Array Value},LRel w Z inj st.nx as xs→LRel w Z inj st.nx caps ys→LRel w Z inj st.nx (as ++ caps) (xs ++ ys):=by
    intro as caps xs ys h1 h2
    refine ⟨by simp [h1.1,h2.1],fun i d c hd hc=>?_⟩
    by_cases hi : i < as.length
    · rw [List.getElem?_append_left hi] at hd
      rw [Array.getElem?_append_left (by rw [← h1.1];exact hi)] at hc
      exact h1.2 i d c hd hc
    · rw [List.getElem?_append_right q7] at hd
      rw [Array.getElem?_append_right (by rw [← h1.1];omega),← h1.1] at hc
      exact h2.2 _ d c hd hc
  have e2 : (args.toList.map a.eval).toArray = args.map a.eval:=by apply Array.ext';simp
  split at hc <;> simp at hc
  · rename_i f' caps vs' hf hv
    obtain ⟨rfl,rfl⟩:=hc
    have hr:=K6 h hf
    generalize hge : a.eval g = gv at hr
    cases hr with | d hr=>
    cases hr with | @fn _ _ cs h1 h2=>
    have hl:=q7d h hv
    rw [e2] at hl
    refine ⟨args.map a.eval ++ cs,?_,app hl ⟨by simpa using h1,fun i d c hd hc=>?_⟩⟩
    · simp [execOp,resolve,hge,Deferred.ofValue,invoke,hcall]
    · simp only [List.getElem?_map,Option.map_eq_some_iff] at hd
      obtain ⟨d',hd,rfl⟩:=hd
      exact .d (h2 i d' c hd hc)
  · rename_i f' caps vs' hf hv
    obtain ⟨rfl,rfl⟩:=hc
    have hr:=K6 h hf
    generalize hge : a.eval g = gv at hr
    cases hr with | @fn _ _ cs h1 h2=>
    have hl:=q7d h hv
    rw [e2] at hl
    refine ⟨args.map a.eval ++ cs,?_,app hl ⟨h1,h2⟩⟩
    simp [execOp,resolve,hge,Deferred.ofValue,invoke,hcall]
theorem qqc {ops : Array Oper} {o : Oper} {c : Call} {f : FuncId} {vs : List V} {v : V} {hp' : List (Nat × Blk)} {nx' : Nat} (hg : Qk ops st o = some true) (ho : o.op = .call c) (hc : callee st c = some (f,vs))
    (hgood : Jd P f vs st.hp st.nx v hp' nx') : Jf P base ops o st ({sl:=st.sl,hp:=hp',nx:=nx' : AS}.putD o.dst v):=by
  intro ro Q w Z inj a Ds K h hd hb _ hK
  unfold Uu
  rw [q3c h hg]
  simp only [if_true]
  refine ⟨fun _ _=>trivial,?_⟩
  obtain ⟨xs,hr,hl⟩:=qd2 h ho hc hgood.1
  rw [show (Fw ro).round = ro from rfl,Oper.semAt_eq ro _ o (by rintro c' h';rw [ho] at h';cases h'),hr,Oper.uponIn_enter]
  refine ⟨fun h=>by simp [Fw] at h,?_⟩
  refine CallsIn.mono (hgood.2 w Z inj xs h.heap hl) ?_
  rintro e w' ⟨x,Z',inj',rfl,hh,he,hv,hn⟩
  exact hK _ _ (q3i h hb he hh hn hv hd)
theorem qis {ops : Array Oper} {o : Oper} {c : Call} {f : FuncId} {vs : List V} {ds : List DV} {v : V} {hp' : List (Nat × Blk)} {nx' : Nat} {r' r : DV} (hg : Qk ops st o = some true) (ho : o.op = .call c) (hc : callee st c = some (f,vs))
    (hfz : Kg st.hp vs = some ds) (hgood : Jd P f (ds.map .d) [] 0 v hp' nx') (hto : toD hp' 8 v = some r') (hle : DLe r' r) (hs : vs.all V.isD = true∨r.scalar = true) : Jf P base ops o st (st.putD o.dst (.d r)):=by
  intro ro Q w Z inj a Ds K h hd hb _ hK
  unfold Uu
  rw [q3c h hg]
  simp only [if_true]
  refine ⟨fun _ _=>trivial,?_⟩
  obtain ⟨xs,hr,hl⟩:=qd2 h ho hc hgood.1
  rw [show (Fw ro).round = ro from rfl,Oper.semAt_eq ro _ o (by rintro c' h';rw [ho] at h';cases h'),hr,Oper.uponIn_enter]
  refine ⟨fun h=>by simp [Fw] at h,?_⟩
  have noim : ∀ (i : Inj) b,¬ im ([] : List (Nat × Blk)) i b:=by rintro i b ⟨n,blk,o,h1,_⟩;simp [find] at h1
  have keep : ∀ {Z0 : Nat→Prop} {w' : World} {Z' : Nat→Prop} {inj' : Inj},Ext w Z0 inj [] w' Z' inj' hp' 0→∀ b,b < w.heap.size→w'.heap[b]? = w.heap[b]?:=fun e b hb=>e.keep b hb (noim _ b)
  have back : ∀ {Z0 : Nat→Prop} {w' : World} {Z' : Nat→Prop} {inj' : Inj} (Z2 : Nat→Prop),Ext w Z0 inj [] w' Z' inj' hp' 0→(∀ b,Z b→Z2 b)→(∀ b,Z2 b→Z b∨w.heap.size≤b)→(∀ b,Z2 b→∃ c e f,w'.heap[b]? = some (.cells c e f))→
      RelH w' Z2 inj st.hp st.nx∧Ext w Z inj st.hp w' Z2 inj st.hp st.nx:=by
    intro Z0 w' Z' inj' Z2 e hz1 hz2 hz3
    have hk:=keep e
    have hE : Ext w Z inj st.hp w' Z2 inj st.hp st.nx:=⟨e.size,fun b hb _=>hk b hb,fun _ h=>.inl h,e.big,e.loops,hz1,fun b hb=>(hz2 b hb).elim .inl (fun h=>.inr (.inr h)),fun _ _=>rfl,e.tape,e.os,e.output,e.frz⟩
    refine ⟨⟨fun n b hn=>?_,h.heap.sep,?_,?_,hz3⟩,hE⟩
    · obtain ⟨h1,h2⟩:=h.heap.blk n b hn
      refine ⟨h1,h2.mono (hE.zkeep h.heap) hz1 e.big (fun _ _=>rfl) (Nat.le_refl _) h1 fun p hp hlv=>hk _ (h.heap.im_lt ⟨n,b,p.2,hn,hlv,hp⟩)⟩
    · intro n b p h1 h2 h3 hz
      rcases hz2 _ hz with h4 | h4
      · exact h.heap.out n b p h1 h2 h3 h4
      · have:=h.heap.im_lt (b:=p.1) ⟨n,b,p.2,h1,h2,h3⟩;omega
    · intro b hb
      obtain ⟨c,e',f',hc⟩:=hz3 b hb
      exact J9 hc
  rcases hs with hs | hs
  ·
    have h0 : RelH w Z inj [] 0:=⟨fun _ _ h=>by simp [find] at h,fun _ _ _ _ _ _ h=>by simp [find] at h,fun _ _ _ h=>by simp [find] at h,h.heap.zs,h.heap.zc⟩
    refine CallsIn.mono (hgood.2 w Z inj xs h0 (qr7 hfz hs hl inj)) ?_
    rintro e w' ⟨x,Z',inj',rfl,hh,he,hv,hn⟩
    have hD:=(q9s hh 8 hto hv).le hle
    obtain ⟨hh2,he2⟩:=back (zAll w' Z' inj' hp') he (fun b hb=>.inl (he.zin b hb))
      (fun b hb=>by
        rcases hb with hb | ⟨hb,_⟩
        · rcases he.zout b hb with h | h | h
          · exact .inl h
          · exact absurd h (noim _ _)
          · exact .inr h
        · rcases he.imm b hb with h | h
          · exact absurd h (noim _ _)
          · exact .inr h)
      (fun b hb=>by
        rcases hb with hb | ⟨_,hb⟩
        · exact hh.zc b hb
        · exact hb)
    exact hK _ _ (q3i h hb he2 hh2 (Nat.le_refl _) (.d hD) hd)
  ·
    have h0 : RelH w (zAll w Z inj st.hp) inj [] 0:=⟨fun _ _ h=>by simp [find] at h,fun _ _ _ _ _ _ h=>by simp [find] at h,fun _ _ _ h=>by simp [find] at h,
      fun b hb=>by
        rcases hb with hb | ⟨hb,_⟩
        · exact h.heap.zs b hb
        · exact h.heap.im_lt hb,
      fun b hb=>by
        rcases hb with hb | ⟨_,hb⟩
        · exact h.heap.zc b hb
        · exact hb⟩
    refine CallsIn.mono (hgood.2 w _ inj xs h0 (qr8 h.heap hfz hl inj)) ?_
    rintro e w' ⟨x,Z',inj',rfl,hh,he,hv,hn⟩
    have hD:=(q9s hh 8 hto hv).le hle
    obtain ⟨hh2,he2⟩:=back Z he (fun _ h=>h) (fun _ h=>.inl h) (fun b hb=>by rw [keep he b (h.heap.zs b hb)];exact h.heap.zc b hb)
    exact hK _ _ (q3i h hb he2 hh2 (Nat.le_refl _) (.d (quj hD hs)) hd)
end
end Go.Am
namespace Go.Am
open Go
variable {P : Program} {T : Tab}
section
variable {st st1 st2 : AS} {v : V}
theorem Ye {α : Type} {x : Option α} {f : α→V} : (x.map fun a=>(f a,st)) = some (v,st1)→st1 = st∧(x.map fun a=>(f a,st2)) = some (v,st2):=by
  cases x <;> simp
  rintro rfl rfl;simp
theorem qdg {ev ev' : Operand→Option V} : ∀ {l : List (Nat × Operand)},(∀ x∈l.map (·.2),ev' x = ev x)→Zy ev' l = Zy ev l
  | [],_=>rfl
  | (i,o)::r,h=>by
    have h1:=h o qf
    have h2:=qdg (l:=r) (fun x hx=>h x (by simp at hx ⊢;exact .inr hx))
    simp only [Zy,h1,h2]
theorem q7c {ev ev' : Operand→Option V} : ∀ {l : List Operand},(∀ x∈l,ev' x = ev x)→evL ev' l = evL ev l
  | [],_=>rfl
  | o::r,h=>by
    have h1:=h o qf
    have h2:=q7c (l:=r) (fun x hx=>h x (by simp [hx]))
    simp only [evL,h1,h2]
theorem qr3 {i : TI} (hh : st2.hp = st.hp) : Jo st2 i v = Jo st i v:=by
  cases v <;> simp only [Jo,AS.blk,hh]
theorem qnx {b : Builtin} {ts : Array TypeId} {vs : List V} (h : Y2 T st b ts vs = some (v,st1)) (hb : b = .len∨b = .min∨b = .max) : st1 = st∧Y2 T st2 b ts vs = some (v,st2):=by
  rcases hb with rfl | rfl | rfl
  · rcases vs with _ | ⟨x,_ | ⟨y,r⟩⟩
    · simp [Y2] at h
    · simp only [Y2] at h ⊢
      revert h;split
      · split
        · split
          · simp;rintro rfl rfl;simp
          · split <;> simp
            all_goals rintro rfl rfl;simp
          · split <;> simp
            all_goals rintro rfl rfl;simp
          · simp
        · simp
      · simp
    · simp [Y2] at h
  · rcases vs with _ | ⟨x,r⟩
    · simp [Y2] at h
    · simp only [Y2] at h ⊢
      revert h;exact Ye
  · rcases vs with _ | ⟨x,r⟩
    · simp [Y2] at h
    · simp only [Y2] at h ⊢
      revert h;exact Ye
theorem qei {op : Op} (h : opFn T st op = some (v,st1)) (ht : touch op≤1) (hh : touch op≠0→st2.hp = st.hp) (hev : ∀ x∈op.operands,st2.ev x = st.ev x) : st1 = st∧opFn T st2 op = some (v,st2):=by
  cases op <;> simp only [opFn,reduceCtorEq] at h <;> simp only [touch,Nat.reduceLeDiff] at ht
  case move x=>
    simp only [opFn,hev x (by simp [Op.operands])] at h ⊢
    revert h;exact Ye
  case assign x=>
    simp only [opFn,hev x (by simp [Op.operands])] at h ⊢
    revert h;exact Ye
  case pick c x y=>
    simp only [opFn,hev c (by simp [Op.operands]),hev x (by simp [Op.operands]),hev y (by simp [Op.operands])] at h ⊢
    revert h;split
    · exact Ye
    · exact Ye
    · simp
  case load t p=>
    simp only [opFn,hev p (by simp [Op.operands])] at h ⊢
    revert h;split
    · rw [qr3 (hh (by simp [touch]))]
      exact Ye
    · simp
  case build t ps=>
    have:=qdg (ev:=st.ev) (ev':=st2.ev) (l:=ps.toList) (fun x hx=>hev x (by simpa [Op.operands] using hx))
    simp only [opFn,this] at h ⊢
    revert h;split
    · split
      · split
        · exact Ye
        · simp
      · simp
    · simp
  case binOp op t x y u=>
    simp only [opFn,hev x (by simp [Op.operands]),hev y (by simp [Op.operands])] at h ⊢
    revert h;split
    · split
      · split
        · split <;> simp
          · rintro rfl rfl;simp
          · rintro rfl rfl;simp
        · simp
      · simp
    · exact Ye
    · split
      · exact Ye
      · simp
    · simp
  case unOp op t x=>
    simp only [opFn,hev x (by simp [Op.operands])] at h ⊢
    revert h;split
    · exact Ye
    · simp
  case convert s d x=>
    simp only [opFn,hev x (by simp [Op.operands])] at h ⊢
    revert h;split
    · split <;> simp
      rintro rfl rfl;simp
    · simp
  case makeFunc fn first caps=>
    cases fn <;> simp only [reduceCtorEq,opFn] at h ⊢
    have:=q7c (ev:=st.ev) (ev':=st2.ev) (l:=caps.toList) (fun x hx=>hev x (by simp [Op.operands] at hx ⊢;exact .inr hx))
    rw [this]
    revert h;split
    · exact Ye
    · simp
  case slice t x lo hi mx=>
    have hb : ∀ (d : Nat) (o : Option Operand),(o = lo∨o = hi)→bound st2 d o = bound st d o:=by
      rintro d o ho
      cases o with
      | none=>rfl
      | some o=>
        simp only [bound]
        rw [hev o (by rcases ho with rfl | rfl <;> simp [Op.operands])]
    simp only [opFn,hev x (by simp [Op.operands])] at h ⊢
    revert h;split
    · split
      · split
        · rename_i n _
          rw [hb 0 lo (.inl rfl),hb n hi (.inr rfl)]
          split
          · exact Ye
          · simp
        · simp
      · simp
    · simp
  case fieldAddr s p f=>
    simp only [opFn,hev p (by simp [Op.operands])] at h ⊢
    revert h;split
    · split
      · exact Ye
      · simp
    · simp
  case field s x f=>
    simp only [opFn,hev x (by simp [Op.operands])] at h ⊢
    revert h;split
    · split
      · split
        · exact Ye
        · simp
      · simp
    · simp
  case indexAddr t x ix=>
    simp only [opFn,hev x (by simp [Op.operands]),hev ix (by simp [Op.operands])] at h ⊢
    revert h;split
    · exact Ye
    · simp
  case index t x ix=>
    simp only [opFn,hev x (by simp [Op.operands]),hev ix (by simp [Op.operands])] at h ⊢
    revert h;split
    · split
      · split
        · split
          · exact Ye
          · simp
        · simp
      · split
        · exact Ye
        · simp
      · simp
    · simp
  case extract x k=>
    simp only [opFn,hev x (by simp [Op.operands])] at h ⊢
    revert h;split
    · exact Ye
    · exact Ye
    · simp
  case nilCheck x=>
    simp only [opFn,hev x (by simp [Op.operands])] at h ⊢
    revert h;split <;> simp
    all_goals rintro rfl rfl;simp
  case call c=>
    obtain ⟨cal,args,argTypes⟩:=c
    cases cal <;> simp only [reduceCtorEq] at h
    rename_i b
    have:=q7c (ev:=st.ev) (ev':=st2.ev) (l:=args.toList) (fun x hx=>hev x (by simpa [Op.operands,Call.operands] using hx))
    simp only [opFn,this] at h ⊢
    revert h;split
    · have hb : b = .len∨b = .min∨b = .max:=by
        revert ht;cases b <;> simp
      intro h
      exact qnx h hb
    · simp
end
end Go.Am
namespace Go.Am
open Go
variable {P : Program} {T : Tab}
def qcl (x : Fp) (st st2 : AS) : Prop:=(∀ m∈x.2,find st2.hp m = find st.hp m)∧match x.1 with
  | none=>∀ m,find st2.hp m = find st.hp m
  | some r=>∀ m∈r,find st2.hp m = find st.hp m
inductive Out (T : Tab) (st : AS) (op : Op) (v : V) (st1 : AS) : Prop
  | calm : st1.sl = st.sl→st1.nx = st.nx→(∀ m,m ∉ (fp st op).2→find st1.hp m = find st.hp m)→(∀ m,find st.hp m = none→find st1.hp m = none)→
      (∀ st2,(∀ x∈op.operands,st2.ev x = st.ev x)→qcl (fp st op) st st2→∃ hp3,opFn T st2 op = some (v,⟨st2.sl,hp3,st2.nx⟩)∧(∀ m∈(fp st op).2,find hp3 m = find st1.hp m)∧(∀ m,m ∉ (fp st op).2→find hp3 m = find st2.hp m))→Out T st op v st1
  | new (mk : Nat→V) (b : Blk) (hp1 : List (Nat × Blk)) : ((∃ es,mk = fun n=>.ref n es 0 0)∨(∃ es l,mk = fun n=>.hs n es 0 l))→v = mk st.nx→st1 = ⟨st.sl,(st.nx,b)::hp1,st.nx + 1⟩→st.nx∈(fp st op).2→
      (∀ m,m ∉ (fp st op).2→find hp1 m = find st.hp m)→(∀ m,find st.hp m = none→find hp1 m = none)→
      (∀ st2,(∀ x∈op.operands,st2.ev x = st.ev x)→qcl (fp st op) st st2→∃ hp3,opFn T st2 op = some (mk st2.nx,⟨st2.sl,(st2.nx,b)::hp3,st2.nx + 1⟩)∧(∀ m∈(fp st op).2,find hp3 m = find hp1 m)∧(∀ m,m ∉ (fp st op).2→find hp3 m = find st2.hp m)∧(∀ m c,find hp3 m = some c→c = .dead∨find st2.hp m = some c))→Out T st op v st1
section
variable {st st1 st2 : AS} {v : V}
theorem qr4 {i : TI} {p : V} (hh : ∀ m∈K3 p,find st2.hp m = find st.hp m) : Jo st2 i p = Jo st i p:=by
  cases p with
  | ref n es a j=>
    have : st2.blk n = st.blk n:=hh n (by simp [K3])
    simp only [Jo,this]
  | d x=>cases x <;> rfl
  | _=>rfl
theorem qhb {x : V} (hh : ∀ m∈K3 x,find st2.hp m = find st.hp m) : Yw st2 x = Yw st x:=by
  cases x with
  | hs n es o l=>
    have : st2.blk n = st.blk n:=hh n (by simp [K3])
    simp only [Yw,this]
  | d x=>cases x <;> rfl
  | _=>rfl
theorem qdd {x : V} (hh : ∀ m∈K3 x,find st2.hp m = find st.hp m) : Yy st2 x = Yy st x:=by
  cases x with
  | hs n es o l=>
    have : st2.blk n = st.blk n:=hh n (by simp [K3])
    simp only [Yy,this]
  | d x=>cases x <;> rfl
  | _=>rfl
theorem q1z {α : Type} {l : List (Nat × α)} {k t : Nat} {x : α} (h : k≠t) : find (repl l k x) t = find l t:=by rw [Yx,if_neg h]
theorem qai {α : Type} {l : List (Nat × α)} {k t : Nat} {x : α} (h : find l t = none) : find (repl l k x) t = none:=by
  rw [Yx];split
  · rename_i e;subst e;rw [h];rfl
  · exact h
theorem qah {l l2 : List (Nat × Blk)} {k t : Nat} {x : Blk} (h : find l2 t = find l t) : find (repl l2 k x) t = find (repl l k x) t:=by
  rw [Yx,Yx];split
  · rename_i e;subst e;rw [h]
  · exact h
theorem qu8 {l : List (Nat × Blk)} {k m : Nat} {c : Blk} (h : find (repl l k .dead) m = some c) : c = .dead∨find l m = some c:=by
  rw [Yx] at h;split at h
  · cases hf : find l k with
    | none=>rw [hf] at h;cases h
    | some b=>rw [hf] at h;cases h;exact .inl rfl
  · exact .inr h
theorem qzy {i : TI} {p y : V} (h : Ja st i p y = some st1) : ∃ n b,K3 p = [n]∧st1 = ⟨st.sl,repl st.hp n b,st.nx⟩∧∀ st2 : AS,find st2.hp n = find st.hp n→Ja st2 i p y = some ⟨st2.sl,repl st2.hp n b,st2.nx⟩:=by
  cases p with
  | ref n k a j=>
    simp only [Ja] at h
    split at h
    · cases h
    · rename_i hc
      have key : ∀ b : Blk,∀ st2 : AS,st2.setBlk n b = ⟨st2.sl,repl st2.hp n b,st2.nx⟩:=fun _ _=>rfl
      split at h
      · rename_i es xs hb
        split at h
        · rename_i cs e1 e2
          split at h
          · rename_i hle
            split at h
            · rename_i ds hd
              cases h
              refine ⟨n,_,rfl,key _ _,fun st2 e=>?_⟩
              have e' : st2.blk n = st.blk n:=e
              simp only [Ja,if_neg hc,e',hb,e1,e2,if_pos hle,hd]
              rfl
            · rename_i hd
              cases h
              refine ⟨n,_,rfl,key _ _,fun st2 e=>?_⟩
              have e' : st2.blk n = st.blk n:=e
              simp only [Ja,if_neg hc,e',hb,e1,e2,if_pos hle,hd]
              rfl
          · cases h
        · cases h
      · rename_i es xs hb
        split at h
        · rename_i cs e1 e2
          split at h
          · rename_i hle
            cases h
            refine ⟨n,_,rfl,key _ _,fun st2 e=>?_⟩
            have e' : st2.blk n = st.blk n:=e
            simp only [Ja,if_neg hc,e',hb,e1,e2,if_pos hle]
            rfl
          · cases h
        · cases h
      · cases h
  | _=>simp [Ja] at h
theorem qp6 {p y : V} (h : copyV st p y = some (v,st1)) : ∃ n b,K3 p = [n]∧st1 = ⟨st.sl,repl st.hp n b,st.nx⟩∧∀ st2 : AS,find st2.hp n = find st.hp n→(∀ m∈K3 y,find st2.hp m = find st.hp m)→copyV st2 p y = some (v,⟨st2.sl,repl st2.hp n b,st2.nx⟩):=by
  cases p with
  | hs n es o l=>
    simp only [copyV] at h
    split at h
    · rename_i k xs ys hb hy
      split at h
      · rename_i hc
        cases h
        refine ⟨n,_,rfl,rfl,fun st2 e e2=>?_⟩
        have e' : st2.blk n = st.blk n:=e
        simp only [copyV,e',hb,qdd e2,hy,if_pos hc]
        rfl
      · cases h
    · cases h
  | _=>simp [copyV] at h
theorem qoq {i : TI} {p : V} (h : Jj st i p = some (v,st1)) : (st1 = st∧∀ st2 : AS,Jj st2 i p = some (v,st2))∨
    ∃ n b,K3 p = [n]∧st1 = ⟨st.sl,repl st.hp n b,st.nx⟩∧∀ st2 : AS,find st2.hp n = find st.hp n→Jj st2 i p = some (v,⟨st2.sl,repl st2.hp n b,st2.nx⟩):=by
  cases p with
  | d x=>
    cases x <;> simp only [Jj,reduceCtorEq,Option.some.injEq,Prod.mk.injEq] at h
    obtain ⟨rfl,rfl⟩:=h
    exact .inl ⟨rfl,fun st2=>rfl⟩
  | hs n es o l=>
    right
    simp only [Jj] at h
    split at h
    · rename_i k xs hb
      split at h
      · rename_i hc
        cases h
        refine ⟨n,_,rfl,rfl,fun st2 e=>?_⟩
        have e' : st2.blk n = st.blk n:=e
        simp only [Jj,e',hb,if_pos hc]
        rfl
      · cases h
    · cases h
  | _=>simp [Jj] at h
theorem qnl {i : TI} {p y : V} (h : Yn st i p y = some (v,st1)) :
    (st1 = st∧∀ st2 : AS,(∀ m∈K3 p ++ K3 y,find st2.hp m = find st.hp m)→Yn st2 i p y = some (v,st2))∨
    (∃ es l b hp1,v = .hs st.nx es 0 l∧st1 = ⟨st.sl,(st.nx,b)::hp1,st.nx + 1⟩∧((hp1 = st.hp∧∀ st2 : AS,(∀ m∈K3 p ++ K3 y,find st2.hp m = find st.hp m)→Yn st2 i p y = some (.hs st2.nx es 0 l,⟨st2.sl,(st2.nx,b)::st2.hp,st2.nx + 1⟩))∨
      (∃ n,n∈K3 p∧hp1 = repl st.hp n .dead∧∀ st2 : AS,(∀ m∈K3 p ++ K3 y,find st2.hp m = find st.hp m)→Yn st2 i p y = some (.hs st2.nx es 0 l,⟨st2.sl,(st2.nx,b)::repl st2.hp n .dead,st2.nx + 1⟩)))):=by
  cases p with
  | d x=>
    cases x <;> simp only [Yn,reduceCtorEq] at h
    have hy : ∀ st2 : AS,(∀ m∈K3 (.d .nilsl) ++ K3 y,find st2.hp m = find st.hp m)→Yy st2 y = Yy st y∧Yw st2 y = Yw st y:=fun st2 e=>
      ⟨qdd fun m hm=>e m (by simp [hm]),qhb fun m hm=>e m (by simp [hm])⟩
    split at h
    · rename_i ys hd
      split at h
      · rename_i hle
        split at h
        · rename_i h0
          cases h
          refine .inl ⟨rfl,fun st2 e=>?_⟩
          simp only [Yn,(hy st2 e).1,hd,if_pos hle,if_pos h0]
        · rename_i h0
          cases h
          refine .inr ⟨_,_,_,_,rfl,rfl,.inl ⟨rfl,fun st2 e=>?_⟩⟩
          simp only [Yn,(hy st2 e).1,hd,if_pos hle,if_neg h0]
          rfl
      · cases h
    · rename_i hd
      split at h
      · rename_i ys hc
        split at h
        · rename_i hle
          split at h
          · rename_i h0
            cases h
            refine .inl ⟨rfl,fun st2 e=>?_⟩
            simp only [Yn,(hy st2 e).1,(hy st2 e).2,hd,hc,if_pos hle,if_pos h0]
          · rename_i h0
            cases h
            refine .inr ⟨_,_,_,_,rfl,rfl,.inl ⟨rfl,fun st2 e=>?_⟩⟩
            simp only [Yn,(hy st2 e).1,(hy st2 e).2,hd,hc,if_pos hle,if_neg h0]
            rfl
        · cases h
      · cases h
  | hs n es o l=>
    have hy : ∀ st2 : AS,(∀ m∈K3 (.hs n es o l) ++ K3 y,find st2.hp m = find st.hp m)→Yy st2 y = Yy st y∧Yw st2 y = Yw st y∧st2.blk n = st.blk n:=fun st2 e=>
      ⟨qdd fun m hm=>e m (by simp [hm]),qhb fun m hm=>e m (by simp [hm]),e n (by simp [K3])⟩
    simp only [Yn] at h
    split at h
    · rename_i k xs ys hb hd
      split at h
      · rename_i hc
        cases h
        refine .inr ⟨_,_,_,_,rfl,rfl,.inr ⟨n,by simp [K3],rfl,fun st2 e=>?_⟩⟩
        obtain ⟨e1,_,e3⟩:=hy st2 e
        simp only [Yn,e1,e3,hb,hd,if_pos hc]
        rfl
      · cases h
    · rename_i k xs hb hd
      split at h
      · rename_i ys hcy
        split at h
        · rename_i hc
          cases h
          refine .inr ⟨_,_,_,_,rfl,rfl,.inr ⟨n,by simp [K3],rfl,fun st2 e=>?_⟩⟩
          obtain ⟨e1,e2,e3⟩:=hy st2 e
          simp only [Yn,e1,e2,e3,hb,hd,hcy,if_pos hc]
          rfl
        · cases h
      · cases h
    · rename_i k xs hb
      split at h
      · rename_i ys hcy
        split at h
        · rename_i hc
          cases h
          refine .inr ⟨_,_,_,_,rfl,rfl,.inr ⟨n,by simp [K3],rfl,fun st2 e=>?_⟩⟩
          obtain ⟨e1,e2,e3⟩:=hy st2 e
          simp only [Yn,e1,e2,e3,hb,hcy,if_pos hc]
          rfl
        · cases h
      · cases h
    · cases h
  | _=>simp [Yn] at h
theorem qb6 {op : Op} (h : opFn T st op = some (v,st1)) (ht : touch op = 0) : Out T st op v st1:=by
  have h0:=(qei (st2:=st) h q7 (fun e=>absurd ht e) (fun _ _=>rfl)).1
  subst h0
  refine .calm rfl rfl (fun _ _=>rfl) (fun _ h=>h) fun st2 he ha=>?_
  have h2:=(qei (st2:=st2) h q7 (fun e=>absurd ht e) he).2
  exact ⟨st2.hp,h2,fun m hm=>ha.1 m hm,fun _ _=>rfl⟩
theorem qst {t : TypeId} {p : Operand} (h : opFn T st (.load t p) = some (v,st1)) : Out T st (.load t p) v st1:=by
  simp only [opFn] at h
  cases hT : T t with
  | none=>simp [hT] at h
  | some i=>
    cases hp : st.ev p with
    | none=>simp [hT,hp] at h
    | some x=>
      simp only [hT,hp] at h
      obtain ⟨rfl,hl⟩:=Ye (st2:=st) h
      have hfp : fp st1 (.load t p) = (some (K3 x),[]):=by simp only [fp,hp]
      refine .calm rfl rfl (fun _ _=>rfl) (fun _ h=>h) fun st2 he ha=>?_
      rw [hfp] at ha
      refine ⟨st2.hp,?_,fun m hm=>by rw [hfp] at hm;simp at hm,fun _ _=>rfl⟩
      simp only [opFn,hT,he p (by simp [Op.operands]),hp,qr4 (st:=st1) (st2:=st2) ha.2]
      exact (Ye (st2:=st2) hl).2
theorem qb5 {op : Op} {mk : Nat→V} {b : Blk} (hk : (∃ es,mk = fun n=>.ref n es 0 0)∨(∃ es l,mk = fun n=>.hs n es 0 l)) (hv : v = mk st.nx) (h1 : st1 = st.new b) (hf : fp st op = (some [],[st.nx]))
    (h2 : ∀ st2 : AS,(∀ x∈op.operands,st2.ev x = st.ev x)→opFn T st2 op = some (mk st2.nx,st2.new b)) : Out T st op v st1:=by
  refine .new mk b st.hp hk hv h1 (by rw [hf];simp) (fun _ _=>rfl) (fun _ h=>h) fun st2 he ha=>⟨st2.hp,h2 st2 he,fun m hm=>ha.1 m hm,fun _ _=>rfl,fun m c hc=>.inr hc⟩
theorem qsu {t : TypeId} {p x : Operand} (h : opFn T st (.store t p x) = some (v,st1)) : Out T st (.store t p x) v st1:=by
  simp only [opFn] at h
  cases hT : T t with
  | none=>simp [hT] at h
  | some i=>
    cases hp : st.ev p with
    | none=>simp [hT,hp] at h
    | some pv=>
      cases hx : st.ev x with
      | none=>simp [hT,hp,hx] at h
      | some xv=>
        simp only [hT,hp,hx] at h
        cases hs : Ja st i pv xv with
        | none=>simp [hs] at h
        | some r=>
          simp only [hs,Option.map_some,Option.some.injEq,Prod.mk.injEq] at h
          obtain ⟨rfl,rfl⟩:=h
          obtain ⟨n,b,hn,rfl,hall⟩:=qzy hs
          have hfp : fp st (.store t p x) = (some [n],[n]):=by simp only [fp,hp,hn]
          refine .calm rfl rfl (fun m hm=>?_) (fun m hm=>qai hm) fun st2 he ha=>?_
          · rw [hfp] at hm;exact q1z (by simp at hm;omega)
          · rw [hfp] at ha ⊢
            refine ⟨repl st2.hp n b,?_,fun m hm=>qah (ha.1 m hm),fun m hm=>q1z (by simp at hm;omega)⟩
            simp only [opFn,hT,he p (by simp [Op.operands]),he x (by simp [Op.operands]),hp,hx,hall st2 (ha.1 n qf),Option.map_some]
theorem qq1 {args : Array Operand} {ats : Array TypeId} {s x : V} (h : evL st.ev args.toList = some [s,x]) : fp st (.call {callee:=.builtin .append,args:=args,argTypes:=ats}) = (some (K3 s ++ K3 x),st.nx::K3 s):=by
  simp only [fp,h]
theorem qq3 {args : Array Operand} {ats : Array TypeId} {s x : V} (h : evL st.ev args.toList = some [s,x]) : fp st (.call {callee:=.builtin .copy,args:=args,argTypes:=ats}) = (some (K3 s ++ K3 x),K3 s):=by
  simp only [fp,h]
theorem qq2 {args : Array Operand} {ats : Array TypeId} {x : V} (h : evL st.ev args.toList = some [x]) : fp st (.call {callee:=.builtin .clear,args:=args,argTypes:=ats}) = (some (K3 x),K3 x):=by
  simp only [fp,h]
theorem qss {b : Builtin} {args : Array Operand} {ats : Array TypeId} (h : opFn T st (.call {callee:=.builtin b,args:=args,argTypes:=ats}) = some (v,st1)) : Out T st (.call {callee:=.builtin b,args:=args,argTypes:=ats}) v st1:=by
  have h0:=h
  simp only [opFn] at h
  cases hv : evL st.ev args.toList with
  | none=>simp [hv] at h
  | some vs=>
    simp only [hv] at h
    have hev : ∀ st2 : AS,(∀ x∈(Op.call {callee:=.builtin b,args:=args,argTypes:=ats}).operands,st2.ev x = st.ev x)→evL st2.ev args.toList = some vs:=fun st2 he=>by
      rw [q7c fun x hx=>he x (by simpa [Op.operands,Call.operands] using hx)];exact hv
    cases b
    case append=>
      match vs,h with
      | [s,x],h=>
        have hf:=qq1 (ats:=ats) hv
        simp only [Y2] at h
        split at h
        · rename_i t u e1 e2
          split at h
          · rename_i i j e3 e4
            split at h
            · rename_i hc
              have hop : ∀ st2 : AS,(∀ x∈(Op.call {callee:=.builtin .append,args:=args,argTypes:=ats}).operands,st2.ev x = st.ev x)→opFn T st2 (.call {callee:=.builtin .append,args:=args,argTypes:=ats}) = Yn st2 i s x:=fun st2 he=>by
                simp only [opFn,hev st2 he,Y2,e1,e2,e3,e4,if_pos hc]
              rcases qnl h with ⟨rfl,hall⟩ | ⟨es,l,b,hp1,rfl,rfl,⟨rfl,hall⟩ | ⟨n,hn,rfl,hall⟩⟩
              · refine .calm rfl rfl (fun _ _=>rfl) (fun _ h=>h) fun st2 he ha=>?_
                rw [hf] at ha
                exact ⟨st2.hp,(hop st2 he).trans (hall st2 ha.2),fun m hm=>ha.1 m (by rw [hf] at hm;exact hm),fun _ _=>rfl⟩
              · refine .new (fun n=>.hs n es 0 l) b _ (.inr ⟨_,_,rfl⟩) rfl rfl (by rw [hf];simp) (fun _ _=>rfl) (fun _ h=>h) fun st2 he ha=>?_
                rw [hf] at ha
                exact ⟨st2.hp,(hop st2 he).trans (hall st2 ha.2),fun m hm=>ha.1 m (by rw [hf] at hm;exact hm),fun _ _=>rfl,fun m c hc=>.inr hc⟩
              · have hne : ∀ m,m ∉ (fp st (.call {callee:=.builtin .append,args:=args,argTypes:=ats})).2→n≠m:=fun m hm e=>by
                  rw [hf] at hm;exact hm (by rw [← e];simp [hn])
                refine .new (fun n=>.hs n es 0 l) b _ (.inr ⟨_,_,rfl⟩) rfl rfl (by rw [hf];simp) (fun m hm=>q1z (hne m hm)) (fun m hm=>qai hm) fun st2 he ha=>?_
                rw [hf] at ha
                exact ⟨repl st2.hp n .dead,(hop st2 he).trans (hall st2 ha.2),fun m hm=>qah (ha.1 m (by rw [hf] at hm;exact hm)),fun m hm=>q1z (hne m hm),fun m c hc=>qu8 hc⟩
            · cases h
          · cases h
        · cases h
    case copy=>
      match vs,h with
      | [s,x],h=>
        have hf:=qq3 (ats:=ats) hv
        simp only [Y2] at h
        split at h
        · rename_i t u e1 e2
          split at h
          · rename_i i j e3 e4
            split at h
            · rename_i hc
              have hop : ∀ st2 : AS,(∀ x∈(Op.call {callee:=.builtin .copy,args:=args,argTypes:=ats}).operands,st2.ev x = st.ev x)→opFn T st2 (.call {callee:=.builtin .copy,args:=args,argTypes:=ats}) = copyV st2 s x:=fun st2 he=>by
                simp only [opFn,hev st2 he,Y2,e1,e2,e3,e4,if_pos hc]
              obtain ⟨n,b,hn,rfl,hall⟩:=qp6 h
              refine .calm rfl rfl (fun m hm=>?_) (fun m hm=>qai hm) fun st2 he ha=>?_
              · rw [hf,hn] at hm;exact q1z (by simp at hm;omega)
              · rw [hf] at ha ⊢
                refine ⟨repl st2.hp n b,(hop st2 he).trans (hall st2 (ha.1 n (by simp [hn])) fun m hm=>ha.2 m (by simp [hm])),fun m hm=>qah (ha.1 m hm),fun m hm=>q1z (by rw [hn] at hm;simp at hm;omega)⟩
            · cases h
          · cases h
        · cases h
    case clear=>
      match vs,h with
      | [x],h=>
        have hf:=qq2 (ats:=ats) hv
        simp only [Y2] at h
        split at h
        · rename_i t e1
          split at h
          · rename_i i e3
            split at h
            · rename_i hc
              have hop : ∀ st2 : AS,(∀ x∈(Op.call {callee:=.builtin .clear,args:=args,argTypes:=ats}).operands,st2.ev x = st.ev x)→opFn T st2 (.call {callee:=.builtin .clear,args:=args,argTypes:=ats}) = Jj st2 i x:=fun st2 he=>by
                simp only [opFn,hev st2 he,Y2,e1,e3,if_pos hc]
              rcases qoq h with ⟨rfl,hall⟩ | ⟨n,b,hn,rfl,hall⟩
              · refine .calm rfl rfl (fun _ _=>rfl) (fun _ h=>h) fun st2 he ha=>?_
                rw [hf] at ha
                exact ⟨st2.hp,(hop st2 he).trans (hall st2),fun m hm=>ha.1 m (by rw [hf] at hm;exact hm),fun _ _=>rfl⟩
              · refine .calm rfl rfl (fun m hm=>?_) (fun m hm=>qai hm) fun st2 he ha=>?_
                · rw [hf,hn] at hm;exact q1z (by simp at hm;omega)
                · rw [hf] at ha ⊢
                  refine ⟨repl st2.hp n b,(hop st2 he).trans (hall st2 (ha.1 n (by simp [hn]))),fun m hm=>qah (ha.1 m hm),fun m hm=>q1z (by rw [hn] at hm;simp at hm;omega)⟩
            · cases h
          · cases h
        · cases h
    case len=>exact qb6 h0 rfl
    case min=>exact qb6 h0 rfl
    case max=>exact qb6 h0 rfl
    all_goals simp [Y2] at h
theorem qk4 {op : Op} (h : opFn T st op = some (v,st1)) : Out T st op v st1:=by
  cases op
  case load t p=>exact qst h
  case store t p x=>exact qsu h
  case call c=>
    obtain ⟨cal,args,ats⟩:=c
    cases cal with
    | builtin b=>exact qss h
    | value f=>simp [opFn] at h
    | invoke r n=>simp [opFn] at h
  case alloc t=>
    simp only [opFn] at h
    cases hT : T t with
    | none=>simp [hT] at h
    | some i=>
      simp only [hT,Option.map_some,Option.some.injEq,Prod.mk.injEq] at h
      obtain ⟨rfl,rfl⟩:=h
      exact qb5 (mk:=fun n=>.ref n i.size 0 0) (.inl ⟨_,rfl⟩) rfl rfl rfl fun st2 _=>by simp only [opFn,hT];rfl
  case box t x=>
    simp only [opFn] at h
    cases hT : T t with
    | none=>simp [hT] at h
    | some i=>
      cases hx : st.ev x with
      | none=>simp [hT,hx] at h
      | some xv=>
        simp only [hT,hx] at h
        split at h
        · rename_i hc
          simp only [Option.some.injEq,Prod.mk.injEq] at h
          obtain ⟨rfl,rfl⟩:=h
          exact qb5 (mk:=fun n=>.ref n i.size 0 0) (.inl ⟨_,rfl⟩) rfl rfl rfl fun st2 he=>by simp only [opFn,hT,he x (by simp [Op.operands]),hx,if_pos hc]
        · cases h
  case buildSlice t len ps=>
    simp only [opFn] at h
    cases hT : T t with
    | none=>simp [hT] at h
    | some i=>
      cases hx : Zy st.ev ps.toList with
      | none=>simp [hT,hx] at h
      | some vs=>
        simp only [hT,hx] at h
        split at h
        · rename_i l hl
          split at h
          · rename_i hc
            cases hf : q37 (List.replicate len (i.ezero.map .d)) l with
            | none=>simp [hf] at h
            | some xs=>
              simp only [hf,Option.map_some,Option.some.injEq,Prod.mk.injEq] at h
              obtain ⟨rfl,rfl⟩:=h
              exact qb5 (mk:=fun n=>.hs n i.esize 0 len) (.inr ⟨_,_,rfl⟩) rfl rfl rfl fun st2 he=>by
                have e:=qdg (ev:=st.ev) (ev':=st2.ev) (l:=ps.toList) (fun x hx=>he x (by simpa [Op.operands] using hx))
                simp only [opFn,hT,e,hx,hl,if_pos hc,hf,Option.map_some]
          · cases h
        · cases h
  case makeSlice t l c=>
    have h':=h
    simp only [opFn] at h
    split at h
    · rename_i i k n k' m e1 e2 e3
      split at h
      · rename_i hc
        simp only [Option.some.injEq,Prod.mk.injEq] at h
        obtain ⟨rfl,rfl⟩:=h
        exact qb5 (mk:=fun q=>.hs q i.esize 0 n.toNat) (.inr ⟨_,_,rfl⟩) rfl rfl rfl fun st2 he=>by
          simp only [opFn,e1,he l (by simp [Op.operands]),he c (by simp [Op.operands]),e2,e3,if_pos hc]
      · cases h
    · cases h
  all_goals first | exact qb6 h rfl | (simp [opFn] at h;done)
end
end Go.Am
