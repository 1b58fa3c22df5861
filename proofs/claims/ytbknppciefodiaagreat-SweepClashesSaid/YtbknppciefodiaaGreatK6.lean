/- Am24 Am25 Am26 Am27 Am28 Am29 Am30 Am31 -/
import Derived.Test.YtbknppciefodiaaGreatK5
import Derived.ProofKit
import Derived.OpenShut
import Derived.Deep.Slices
namespace Go.Am
open Go
variable {P : Program}
section
variable {base : Nat} {ops : Array Oper}
theorem qet {l : Array Bool} {i : Nat} : l.getD i false = true↔l[i]? = some true:=by
  rw [Array.getD_eq_getD_getElem?]
  cases l[i]? <;> simp
theorem qbq {l : Array Bool} {i : Nat} : l.getD i true = false↔l[i]? = some false:=by
  rw [Array.getD_eq_getD_getElem?]
  cases l[i]? <;> simp
theorem qw8 {w : World} {Z : Nat→Prop} {inj : Inj} {hp hp2 : List (Nat × Blk)} {nx : Nat} (h : RelH w Z inj hp nx) (hs : ∀ m,find hp2 m = find hp m) : RelH w Z inj hp2 nx:=by
  refine ⟨fun n b hb=>h.blk n b (by rw [← hs];exact hb),fun n m b c p q a d=>h.sep n m b c p q (by rw [← hs];exact a) (by rw [← hs];exact d),fun n b p a=>h.out n b p (by rw [← hs];exact a),h.zs,h.zc⟩
theorem qr4 {w w' : World} {Z Z' : Nat→Prop} {inj inj' : Inj} {hp hp' hp2 : List (Nat × Blk)} {pin : Nat} (h : Ext w Z inj hp w' Z' inj' hp' pin) (hs : ∀ m,find hp2 m = find hp' m) : Ext w Z inj hp w' Z' inj' hp2 pin:=
  {h with imm:=fun b hb=>h.imm b (by
      obtain ⟨n,c,o,f,a,d⟩:=hb
      exact ⟨n,c,o,by rw [← hs];exact f,a,d⟩)}
abbrev fpO (F : List Fp) (ops : Array Oper) (i : Nat) : Fp:=fpAt F (ops.size - (i + 1))
def CutS (ops : Array Oper) (listed : Array Bool) (t : Tmp) (m : Nat) : Prop:=∀ (i : Nat) (o : Oper),ops[i]? = some o→o.dst = some t→(listed[i]? = some true↔i < m)
def CutB (F : List Fp) (ops : Array Oper) (listed : Array Bool) (q m : Nat) : Prop:=∀ (i : Nat) (o : Oper),ops[i]? = some o→q∈(fpO F ops i).2→(listed[i]? = some true↔i < m)
structure Mid (F : List Fp) (ops : Array Oper) (S : Nat→AS) (lo hi : Nat) (listed : Array Bool) (st : AS) : Prop where
  nx : st.nx = (S hi).nx
  sl : ∀ t m,lo≤m→m≤hi→CutS ops listed t m→st.get t = (S m).get t
  hp : ∀ q m,lo≤m→m≤hi→CutB F ops listed q m→find st.hp q = find (S m).hp q
abbrev Steps (P : Program) (F : List Fp) (ops : Array Oper) (S : Nat→AS) (lo hi : Nat) : Prop:=∀ (i : Nat) (o : Oper),lo≤i→i < hi→ops[i]? = some o→Jf P ops o (fpO F ops i) (S i) (S (i + 1))
theorem qdu {F : List Fp} {S : Nat→AS} {lo hi : Nat} (a : hi≤ops.size) (d : Steps P F ops S lo hi) {t : Tmp} {j : Nat} (b : lo≤j) : ∀ m,j≤m→m≤hi→(∀ (i : Nat) (o : Oper),j≤i→i < m→ops[i]? = some o→o.dst≠some t)→(S m).get t = (S j).get t
  | 0,h,_,_=>by have : j = 0:=q0;subst this;rfl
  | m + 1,h,hm,hno=>by
    by_cases f : j = m + 1
    · subst f;rfl
    · obtain ⟨o,c⟩:=Kt (xs:=ops) (i:=m) q0
      rw [(d m o q0 q0 c).sl t (hno m o q0 q0 c)]
      exact qdu a d b m q0 q0 fun i o g k=>hno i o g q0
theorem qdt {F : List Fp} {S : Nat→AS} {lo hi : Nat} (a : hi≤ops.size) (d : Steps P F ops S lo hi) {q j : Nat} (b : lo≤j) : ∀ m,j≤m→m≤hi→(∀ (i : Nat) (o : Oper),j≤i→i < m→ops[i]? = some o→q ∉ (fpO F ops i).2)→find (S m).hp q = find (S j).hp q
  | 0,h,_,_=>by have : j = 0:=q0;subst this;rfl
  | m + 1,h,hm,hno=>by
    by_cases f : j = m + 1
    · subst f;rfl
    · obtain ⟨o,c⟩:=Kt (xs:=ops) (i:=m) q0
      rw [(d m o q0 q0 c).hp q (hno m o q0 q0 c)]
      exact qdt a d b m q0 q0 fun i o g k=>hno i o g q0
theorem q1e {F : List Fp} {S : Nat→AS} {lo hi : Nat} (a : hi≤ops.size) (c : Steps P F ops S lo hi) {j : Nat} (b : lo≤j) : ∀ m,j≤m→m≤hi→(S j).nx≤(S m).nx
  | 0,h,_=>by have : j = 0:=q0;subst this;exact Nat.le_refl _
  | m + 1,h,hm=>by
    by_cases d : j = m + 1
    · subst d;exact Nat.le_refl _
    · obtain ⟨o,f⟩:=Kt (xs:=ops) (i:=m) q0
      exact Nat.le_trans (q1e a c b m q0 q0) (c m o q0 q0 f).nx
theorem qka {F : List Fp} {S : Nat→AS} {lo hi : Nat} (a : hi≤ops.size) (c : Steps P F ops S lo hi) (b : ∀ q,(S lo).nx≤q→find (S lo).hp q = none) : ∀ m,lo≤m→m≤hi→∀ q,(S m).nx≤q→find (S m).hp q = none
  | 0,hl,_,q,hq=>by have : lo = 0:=q0;subst this;exact b q hq
  | m + 1,hl,hm,q,hq=>by
    by_cases f : lo = m + 1
    · subst f;exact b q hq
    obtain ⟨o,d⟩:=Kt (xs:=ops) (i:=m) q0
    have hs:=c m o q0 q0 d
    exact hs.keys q hq (qka a c b m q0 q0 q (Nat.le_trans hs.nx hq))
def Keep (ops : Array Oper) (S : Nat→AS) (lo hi : Nat) (base : Nat) (w0 : World) (Z0 : Nat→Prop) (inj0 : Inj) (hp0 : List (Nat × Blk)) (a0 : Act) (Ds0 : List Nat) (listed : Array Bool) (st : AS) (a : Act) (w : World) : Prop:=
  ∃ Z inj Ds,RelS w Z inj st a Ds∧Ext w0 Z0 inj0 hp0 w Z inj st.hp base∧a.tmps.size = a0.tmps.size∧(∀ D∈Ds,D∈Ds0∨w0.heap.size≤D)∧
    ∀ (i : Nat) (o : Oper),lo≤i→i < hi→ops[i]? = some o→listed[i]?≠some true→∀ m,(S i).nx≤m→m < (S (i + 1)).nx→inj m = none
theorem qif {l : Array Bool} {i : Nat} {n : Nat} (hi : l[i]? = some false) (b : l.toList.count false = n + 1) : (l.setIfInBounds i true).toList.count false = n:=by
  have a : i < l.toList.length:=by simpa using Yp hi
  rw [Array.toList_setIfInBounds,List.count_set a]
  have : l.toList[i] = false:=by
    have:=hi
    rw [← Array.getElem?_toList,List.getElem?_eq_getElem a] at this
    simpa using this
  simp [this,b]
theorem qlt {F : List Fp} (m : q81 F ops) {listed : Array Bool} (f : listed.size = ops.size) : ∀ (n i : Nat),i = n→listed[i]? = some false→Region.ready .any ops listed≠[]:=by
  intro n
  induction n using Nat.strongRecOn with
  | _ n ihn=>
    intro i g hi
    subst g
    obtain ⟨o,k⟩:=Kt (xs:=ops) (i:=i) (by rw [← f];exact Yp hi)
    by_cases a : ∀ e∈o.after,Region.binds .any e = true→listed.getD e.on false = true
    · intro d
      have : i∈Region.ready .any ops listed:=mem_ready.2 ⟨qbq.2 hi,o,k,a⟩
      rw [d] at this;cases this
    · simp only [Classical.not_forall] at a
      obtain ⟨e,l,hb,h⟩:=a
      have j:=m.edges i o k e l hb
      obtain ⟨b,c⟩:=Kt (xs:=listed) (i:=e.on) (by have:=Yp hi;omega)
      cases b with
      | true=>exact absurd (qet.2 c) h
      | false=>exact ihn e.on j e.on rfl c
theorem qh6 {listed : Array Bool} {i : Nat} {o : Oper} (f : Adm ops (fun i=>listed[i]? = some true)) (k : ops[i]? = some o) (m : listed[i]? = some false) (c : ∀ e∈o.after,Region.binds .any e = true→listed[e.on]? = some true) :
    (∀ (j : Nat),(listed.setIfInBounds i true)[j]? = some true↔(j = i∨listed[j]? = some true))∧Adm ops (fun j=>(listed.setIfInBounds i true)[j]? = some true):=by
  have a : ∀ (j : Nat),(listed.setIfInBounds i true)[j]? = some true↔(j = i∨listed[j]? = some true):=by
    intro j
    by_cases d : j = i
    · subst d;simp [Yp m]
    · rw [Array.getElem?_setIfInBounds_ne (Ne.symm d)];simp [d]
  refine ⟨a,?_⟩
  intro j l g b e h hb
  rw [a] at g ⊢
  rcases g with rfl | g
  · rw [k] at b;cases b
    exact .inr (c e h hb)
  · exact .inr (f j l g b e h hb)
theorem qqq {F : List Fp} {S : Nat→AS} {lo hi : Nat} (ba : lo≤hi) (aa : hi≤ops.size) (hD : q81 F ops) (hS : Steps P F ops S lo hi) (bd : ∀ (i j : Nat) (d : Oper),i < hi→hi≤j→ops[j]? = some d→Behind ops d i) (h0 : ∀ q,(S lo).nx≤q→find (S lo).hp q = none)
    {w0 : World} {Z0 : Nat→Prop} {inj0 : Inj} {hp0 : List (Nat × Blk)} {a0 : Act} {Ds0 : List Nat} {ro : Option Nat} {Q : Exit→Act→World→Prop} (bn : base≤(S lo).nx)
    (hd : ∀ (i : Nat) (o : Oper),ops[i]? = some o→Zx a0.tmps.size o.dst = true)
    (hQ : ∀ (fuel : Nat) (listed : Array Bool) (a' : Act) (w' : World),listed.size = ops.size→listed.toList.count false = fuel→Adm ops (fun i=>listed[i]? = some true)→(∀ (i : Nat),listed[i]? = some true↔i < hi)→
      (∃ Z inj Ds,RelS w' Z inj (S hi) a' Ds∧Ext w0 Z0 inj0 hp0 w' Z inj (S hi).hp base∧a'.tmps.size = a0.tmps.size∧base≤(S hi).nx∧(∀ D∈Ds,D∈Ds0∨w0.heap.size≤D))→Y8 ro w'→wpAnyIn (Fw ro) 0 P .any ops Q fuel listed a' w') : ∀ (fuel : Nat) (listed : Array Bool) (a : Act) (w : World) (st : AS),
      listed.size = ops.size→listed.toList.count false = fuel→Adm ops (fun i=>listed[i]? = some true)→(∀ (i : Nat),i < lo→listed[i]? = some true)→(∀ (i : Nat),hi≤i→listed[i]?≠some true)→Keep ops S lo hi base w0 Z0 inj0 hp0 a0 Ds0 listed st a w→Y8 ro w→Mid F ops S lo hi listed st→
      wpAnyIn (Fw ro) 0 P .any ops Q fuel listed a w:=by
  have fin : ∀ (fuel : Nat) (listed : Array Bool) (a : Act) (w : World) (st : AS),
      listed.size = ops.size→listed.toList.count false = fuel→Adm ops (fun i=>listed[i]? = some true)→(∀ (i : Nat),i < lo→listed[i]? = some true)→(∀ (i : Nat),hi≤i→listed[i]?≠some true)→Keep ops S lo hi base w0 Z0 inj0 hp0 a0 Ds0 listed st a w→Y8 ro w→Mid F ops S lo hi listed st→
      (∀ (i : Nat),lo≤i→i < hi→listed[i]? = some true)→wpAnyIn (Fw ro) 0 P .any ops Q fuel listed a w:=by
    intro fuel listed a w st af hc n x aj hp ad g ac
    have ak : ∀ (i : Nat),listed[i]? = some true↔i < hi:=fun i=>⟨fun h=>by
      rcases Nat.lt_or_ge i hi with z | z
      · exact z
      · exact absurd h (aj i z),fun h=>by
      rcases Nat.lt_or_ge i lo with z | z
      · exact x i z
      · exact ac i z h⟩
    refine hQ fuel listed a w af hc n ak ?_ ad
    obtain ⟨Z,inj,Ds,z,h2,h3,h4,_⟩:=hp
    have bu : ∀ q,find (S hi).hp q = find st.hp q:=fun q=>(g.hp q hi ba (Nat.le_refl _) fun i o ho _=>ak i).symm
    refine ⟨Z,inj,Ds,⟨fun t v ht=>?_,?_,z.defs,z.nodup,z.marks⟩,qr4 h2 bu,h3,Nat.le_trans bn (q1e aa hS (Nat.le_refl _) _ ba (Nat.le_refl _)),h4⟩
    · rw [← g.nx]
      refine z.slots t v ?_
      have:=g.sl t hi ba (Nat.le_refl _) fun i o ho _=>ak i
      exact this.trans ht
    · rw [← g.nx];exact qw8 z.heap bu
  intro fuel
  induction fuel with
  | zero=>
    intro listed a w st af hc n x aj hp ad g
    refine fin 0 listed a w st af hc n x aj hp ad g fun i _ hi=>?_
    have h:=List.count_eq_zero.1 hc
    obtain ⟨b,hb⟩:=Kt (xs:=listed) (i:=i) q0
    cases b with
    | true=>exact hb
    | false=>exact absurd (by simpa using Array.mem_of_getElem? hb) h
  | succ fuel ih=>
    intro listed a w st af hc n x aj hp ad g
    by_cases ac : ∀ (i : Nat),lo≤i→i < hi→listed[i]? = some true
    · exact fin _ listed a w st af hc n x aj hp ad g ac
    have bg : ∃ k : Nat,(lo≤k∧k < hi)∧listed[k]? = some false:=by
      simp only [Classical.not_forall] at ac
      obtain ⟨k,z,h2,h3⟩:=ac
      obtain ⟨b,hb⟩:=Kt (xs:=listed) (i:=k) q0
      cases b with
      | true=>exact absurd hb h3
      | false=>exact ⟨k,⟨z,h2⟩,hb⟩
    obtain ⟨k0,⟨cz,cf⟩,bl⟩:=bg
    refine ⟨fun br=>?_,fun i co=>?_⟩
    · exact absurd br (qlt hD af k0 k0 rfl bl)
    · obtain ⟨z,o,ho,be⟩:=mem_ready.1 co
      rw [qbq] at z
      have an : ∀ e∈o.after,Region.binds .any e = true→(fun i=>listed[i]? = some true) e.on:=fun e he hb=>qet.1 (be e he hb)
      have ay : ∀ j,Behind ops o j→listed[j]? = some true:=fun j hb=>hb _ n an
      have u : lo≤i:=Nat.le_of_not_lt fun h=>by have:=x i h;rw [z] at this;cases this
      have ax : i < hi:=Nat.lt_of_not_le fun h=>by
        have:=ay k0 (bd k0 i o cf h ho)
        rw [bl] at this;cases this
      have aw : ∀ (j : Nat) (d : Oper),ops[j]? = some d→Behind ops d i→listed[j]?≠some true:=by
        intro j d c hb hj
        have:=hb (fun i=>listed[i]? = some true) n (fun e he ci=>n j d hj c e he ci)
        rw [z] at this;cases this
      obtain ⟨l,bk⟩:=qh6 n ho z an
      have bw : (listed.setIfInBounds i true).size = ops.size:=by simp [af]
      have ck:=qif z hc
      have dc : i < ops.size:=Yp ho
      have bb : listed[i]?≠some true:=by rw [z];simp
      have s : ∀ (j : Nat) (d : Oper),ops[j]? = some d→j≠i→(listed[j]? = some true↔j < i)∨(q80 (fpO F ops i) (fpO F ops j)∧(∀ t∈reads ops o,d.dst≠some t)∧∀ t,o.dst = some t→d.dst≠some t):=by
        intro j d c f
        rcases Nat.lt_or_gt_of_ne f with h | h
        · rcases hD.pairs j i d o h c ho with hb | ⟨ha,h2,h3,h4⟩
          · exact .inl ⟨fun _=>h,fun _=>ay j hb⟩
          · exact .inr ⟨⟨fun m h5 h6=>ha.ww m h6 h5,ha.wr,ha.rw⟩,h3,fun t h5 h6=>h4 t h6 h5⟩
        · rcases hD.pairs i j o d h ho c with hb | ⟨ha,h2,h3,h4⟩
          · exact .inl ⟨fun p=>absurd p (aw j d c hb),fun p=>q0⟩
          · exact .inr ⟨ha,h2,h4⟩
      have al : ∀ m∈(fpO F ops i).2,find st.hp m = find (S i).hp m:=fun m hm=>by
        refine g.hp m i u q0 fun j d c ab=>?_
        by_cases f : j = i
        · subst f;exact ⟨fun p=>absurd p bb,fun p=>absurd p (Nat.lt_irrefl _)⟩
        · rcases s j d c f with h | ⟨ha,_⟩
          · exact h
          · exact absurd ab (ha.ww m hm)
      have cb : Uc ops o (fpO F ops i) (S i) st:=by
        refine ⟨⟨al,?_⟩,fun t ht=>?_⟩
        · have key : ∀ m,(∀ (j : Nat) (d : Oper),ops[j]? = some d→j≠i→q80 (fpO F ops i) (fpO F ops j)→m ∉ (fpO F ops j).2)→find st.hp m = find (S i).hp m:=fun m hm=>by
            by_cases bv : m∈(fpO F ops i).2
            · exact al m bv
            refine g.hp m i u q0 fun j d c ab=>?_
            by_cases f : j = i
            · subst f;exact absurd ab bv
            · rcases s j d c f with h | ⟨ha,_⟩
              · exact h
              · exact absurd ab (hm j d c f ha)
          cases hR : (fpO F ops i).1 with
          | none=>exact fun m=>key m fun j d _ _ ha ab=>by have:=ha.rw m ab;rw [hR] at this;exact this
          | some r=>exact fun m cq=>key m fun j d _ _ ha ab=>by have:=ha.rw m ab;rw [hR] at this;exact this cq
        · refine g.sl t i u q0 fun j d c ae=>?_
          by_cases f : j = i
          · subst f;exact ⟨fun p=>absurd p bb,fun p=>absurd p (Nat.lt_irrefl _)⟩
          · rcases s j d c f with h | ⟨_,hr,_⟩
            · exact h
            · exact absurd ae (hr t ht)
      have ah:=hS i o u ax ho
      have az : (S (i + 1)).nx≤st.nx:=by rw [g.nx];exact q1e aa hS q0 _ q0 (Nat.le_refl _)
      have bj : ∀ m,(S i).nx≤m→m < (S (i + 1)).nx→find st.hp m = none:=fun m h2 h3=>by
        rw [al m (ah.fresh m h2 h3)]
        exact qka aa hS h0 i u q0 m h2
      obtain ⟨cp,bp,bh,cc,ct,cn,cj⟩:=ah.other st az cb bj
      refine qgj ho ?_
      obtain ⟨Z,inj,Ds,k1,k2,k3,k4,k5⟩:=hp
      have cd : base≤(S i).nx:=Nat.le_trans bn (q1e aa hS (Nat.le_refl _) _ u q0)
      refine bh base ro Q w Z inj a Ds _ k1 (by rw [k3];exact hd i o ho) cd (by have:=ah.nx;omega) ad (k5 i o u ax ho bb) fun a' w' hp'=>?_
      obtain ⟨Z',inj',cr,g1,g2,g3,g4,g5⟩:=hp'
      refine ih _ a' w' cp bw ck bk (fun j hj=>(l j).2 (.inr (x j hj))) (fun j hj p=>?_) ⟨Z',inj',cr,g1,k2.trans g2 (Nat.le_refl _),g3.trans k3,fun D hD=>?_,fun j d bf aq c bt m h2 h3=>?_⟩ (ad.ext g2) ⟨bp.trans g.nx,fun t m bi hm y=>?_,fun q m bi hm y=>?_⟩
      · rcases (l j).1 p with rfl | p
        · omega
        · exact aj j hj p
      · rcases g4 D hD with h | h
        · exact k4 D h
        · exact .inr (Nat.le_trans k2.size h)
      · have f : j≠i:=by rintro rfl;exact bt ((l j).2 (.inl rfl))
        have bm : listed[j]?≠some true:=fun e=>bt ((l j).2 (.inr e))
        rw [g5 m (by
          have:=q1e aa hS (j:=j + 1) q0 hi q0 (Nat.le_refl _)
          have:=g.nx;omega) (by
          rcases Nat.lt_or_gt_of_ne f with h | h
          · left;have:=q1e aa hS (j:=j + 1) q0 i q0 q0;omega
          · right;have:=q1e aa hS (j:=i + 1) q0 j q0 q0;omega)]
        exact k5 j d bf aq c bm m h2 h3
      · by_cases ap : o.dst = some t
        · have cs : i < m:=(y i o ho ap).1 ((l i).2 (.inl rfl))
          rw [ct t ap]
          refine (qdu aa hS q0 m q0 hm fun j d bf aq c ae=>?_).symm
          have p:=(l j).1 ((y j d c ae).2 aq)
          rcases p with p | p
          · omega
          · rcases s j d c q0 with h | ⟨_,_,hw⟩
            · have:=h.1 p;omega
            · exact hw t ap ae
        · rw [cc t ap]
          refine g.sl t m bi hm fun j d c ae=>?_
          have f : j≠i:=by rintro rfl;rw [ho] at c;cases c;exact ap ae
          rw [← y j d c ae,l]
          simp [f]
      · by_cases hq : q∈(fpO F ops i).2
        · have cs : i < m:=(y i o ho hq).1 ((l i).2 (.inl rfl))
          rw [cn q hq]
          refine (qdt aa hS q0 m q0 hm fun j d bf aq c ao=>?_).symm
          have p:=(l j).1 ((y j d c ao).2 aq)
          rcases p with p | p
          · omega
          · rcases s j d c q0 with h | ⟨ha,_⟩
            · have:=h.1 p;omega
            · exact ha.ww q hq ao
        · rw [cj q hq]
          refine g.hp q m bi hm fun j d c ao=>?_
          have f : j≠i:=by rintro rfl;exact hq ao
          rw [← y j d c ao,l]
          simp [f]
theorem qwa {w : World} {Z : Nat→Prop} {inj : Inj} {st : AS} {a : Act} {Ds : List Nat} {N : Nat} (h : RelS w Z inj st a Ds) (l : st.nx≤N) : RelS w Z (fun m=>if m < st.nx then inj m else none) {st with nx:=N} a Ds:=by
  have hi : ∀ n,n < st.nx→(fun m=>if m < st.nx then inj m else none) n = inj n:=fun n v=>by simp [v]
  have d : Zk w w:=fun _ c e f h=>⟨c,e,f,h,rfl⟩
  refine ⟨h.slots.mono (fun _ _=>rfl) (fun _ h=>h) d hi l,⟨fun n b hb=>?_,fun n m b c p q g j k u r s=>?_,fun n b p g j k=>?_,h.heap.zs,h.heap.zc⟩,h.defs,h.nodup,h.marks⟩
  · obtain ⟨o,t⟩:=h.heap.blk n b hb
    exact ⟨Nat.lt_of_lt_of_le o l,t.mono (fun _ _=>rfl) (fun _ h=>h) d hi l o (fun _ _ _=>rfl)⟩
  · rw [if_pos (h.heap.blk n b g).1] at r
    rw [if_pos (h.heap.blk m c j).1] at s
    exact h.heap.sep n m b c p q g j k u r s
  · rw [if_pos (h.heap.blk n b g).1] at k
    exact h.heap.out n b p g j k
theorem qpz {w0 : World} {Z0 : Nat→Prop} {inj0 : Inj} {d : AS} {g : Act} {Ds0 : List Nat} {l : List Oper} {st st' : AS} (h : Zb P base ops l st st') : l = []→∀ a w,Kl base w0 Z0 inj0 d g Ds0 st a w→Kl base w0 Z0 inj0 d g Ds0 st' a w:=by
  induction h with
  | nil=>exact fun _ a w hp=>hp
  | cons _ _ _=>intro h;cases h
  | wk hw _ ih=>
    intro k a w hp
    refine ih k a w ?_
    obtain ⟨Z',inj',f,o,m,n,p,j⟩:=hp
    obtain ⟨b,c⟩:=q1s o hw
    exact ⟨_,_,f,b,m.trans c (Nat.le_refl _),n,hw.bs,j⟩
theorem qpy {w0 : World} {Z0 : Nat→Prop} {inj0 : Inj} {k : AS} {n : Act} {Ds0 : List Nat} {ro : Option Nat} {Q : Exit→Act→World→Prop} {K : Act→World→Prop} {l : List Oper} {st st' : AS} (h : Zb P base ops l st st') : ∀ o,l = [o]→Zx n.tmps.size o.dst = true→∀ a w,Kl base w0 Z0 inj0 k n Ds0 st a w→Y8 ro w→
    (∀ a' w',Kl base w0 Z0 inj0 k n Ds0 st' a' w'→Y8 ro w'→K a' w')→Ub P (Fw ro) ops Q o K a w:=by
  induction h with
  | nil=>intro o h;cases h
  | cons hs hl _=>
    intro o h hd a w hp c p
    simp only [List.cons.injEq] at h
    obtain ⟨rfl,rfl⟩:=h
    refine hp.bind fun Z' inj' d b g f _ j=>?_
    exact hs ro Q w Z' inj' a d _ b (by rw [g];exact hd) f c fun a' w' hp'=>p a' w' (qpz hl rfl _ _ (j _ _ _ hp')) (by obtain ⟨_,_,_,_,u,_⟩:=hp';exact c.ext u)
  | wk hw _ ih=>
    intro o h hd a w hp c p
    refine ih o h hd a w ?_ c p
    obtain ⟨Z',inj',d,t,r,s,v,q⟩:=hp
    obtain ⟨b,m⟩:=q1s t hw
    exact ⟨_,_,d,b,r.trans m (Nat.le_refl _),s,hw.bs,q⟩
theorem qp3 {o p : Oper} {i j : Nat} (f : Behind ops o i) (hp : ops[i]? = some p) (c : Behind ops p j) : Behind ops o j:=fun S a d=>c S a fun e b hb=>a i p (f S a d) hp e b hb
theorem qqp {F : List Fp} (hD : q81 F ops) {w0 : World} {Z0 : Nat→Prop} {inj0 : Inj} {v : AS} {a0 : Act} {Ds0 : List Nat} {ro : Option Nat} {Q : Exit→Act→World→Prop} (hd : ∀ (i : Nat) (o : Oper),ops[i]? = some o→Zx a0.tmps.size o.dst = true) :
    ∀ (n : Nat) (l : List Oper) (lo : Nat) (st st' : AS),l.length = n→ops.toList.drop lo = l→lo≤ops.size→Jc P base ops F l st st'→(∀ a' w',Kl base w0 Z0 inj0 v a0 Ds0 st' a' w'→Q .normal a' w')→∀ (fuel : Nat) (listed : Array Bool) (a : Act) (w : World),
      listed.size = ops.size→listed.toList.count false = fuel→Adm ops (fun i=>listed[i]? = some true)→(∀ (i : Nat),listed[i]? = some true↔i < lo)→Kl base w0 Z0 inj0 v a0 Ds0 st a w→Y8 ro w→wpAnyIn (Fw ro) 0 P .any ops Q fuel listed a w:=by
  intro n
  induction n using Nat.strongRecOn with
  | _ n ihn=>
  intro l lo st st' cg aq ci hc hQ fuel listed a w bj bq av ah hp bi
  obtain ⟨k,S,hk,e0,hS,aj⟩:=qhv hc
  have bw : l.length + lo = ops.size:=by rw [← aq];simp;omega
  have ac : ∀ (i : Nat),l[i]? = ops[lo + i]?:=fun i=>by rw [← aq,List.getElem?_drop,Array.getElem?_toList]
  subst e0
  have y : Steps P F ops (fun i=>S (i - lo)) lo (lo + k):=fun i o u h2 ho=>by
    have:=hS (i - lo) o q0 (by rw [ac,show lo + (i - lo) = i by omega];exact ho)
    rw [show l.length - (i - lo + 1) = ops.size - (i + 1) by omega] at this
    show Jf P ops o (fpO F ops i) (S (i - lo)) (S (i + 1 - lo))
    rw [show i + 1 - lo = i - lo + 1 by omega]
    exact this
  have am : ∀ (i j : Nat) (oj : Oper),i < lo + k→lo + k≤j→ops[j]? = some oj→Behind ops oj i:=fun i j oj hi hj ag=>by
    rcases aj with ⟨u,_⟩ | ⟨o,st1,u,h2,_,_⟩
    · have:=Yp ag;omega
    · rw [ac] at u
      rw [show l.length - (k + 1) = ops.size - (lo + k + 1) by omega] at h2
      have bn : i < ops.size:=by have:=Yp u;omega
      obtain ⟨oi,z⟩:=Kt (xs:=ops) (i:=i) bn
      have hb:=hD.pivs i (lo + k) oi o hi z u (.inr h2)
      by_cases bk : j = lo + k
      · subst bk;rw [u] at ag;cases ag;exact hb
      · exact qp3 (hD.pivs (lo + k) j o oj q0 u ag (.inl h2)) u hb
  obtain ⟨Z,inj,Ds,u,h2,h3,h4,h5⟩:=hp
  have hN : (S 0).nx≤(S k).nx:=by
    have:=q1e q0 y (Nat.le_refl _) (lo + k) q0 (Nat.le_refl _)
    simpa using this
  have h0 : ∀ q,(S 0).nx≤q→find (S 0).hp q = none:=fun q hq=>by
    cases hf : find (S 0).hp q with
    | none=>rfl
    | some b=>have:=(u.heap.blk q b hf).1;omega
  have bb : Ext w0 Z0 inj0 v.hp w Z (fun m=>if m < (S 0).nx then inj m else none) (S 0).hp base:=by
    refine {h2 with imm:=fun b br=>h2.imm b ?_,pinj:=fun n hn=>(if_pos (show n < (S 0).nx by omega)).trans (h2.pinj n hn)}
    obtain ⟨n,c,o,s,g2,g3⟩:=br
    refine ⟨n,c,o,s,g2,?_⟩
    have:=(u.heap.blk n c s).1
    simpa [this] using g3
  have an : ∀ (i : Nat),lo≤i→listed[i]?≠some true:=fun i hi h=>by have:=(ah i).1 h;omega
  refine qqq (lo:=lo) (hi:=lo + k) (S:=fun i=>S (i - lo)) (hp0:=v.hp) (Ds0:=Ds0) q0 q0 hD y am (by simpa using h0) (by simpa using h4) hd ?_ fuel listed a w {S 0 with nx:=(S k).nx} bj bq av (fun i hi=>(ah i).2 hi) (fun i hi=>an i q0) ⟨Z,_,Ds,qwa u hN,bb,h3,h5,fun i o ab al ho _ m g2 g3=>?_⟩ bi ⟨qe,fun t m ap hm ad=>?_,fun q m ap hm ad=>?_⟩
  · intro r d a' w' af aa ae f hp' ay
    have hp' : Kl base w0 Z0 inj0 v a0 Ds0 (S k) a' w':=by
      obtain ⟨Z',inj',bo,s,g2,g3,g4,g5⟩:=hp'
      simp only [Nat.add_sub_cancel_left] at s g2 g4
      exact ⟨Z',inj',bo,s,g2,g3,g4,g5⟩
    rcases aj with ⟨e1,e2⟩ | ⟨o,st1,e1,e2,e3,e4⟩
    ·
      subst e2
      have hz : r = 0:=by
        rw [← aa,List.count_eq_zero]
        intro hm
        obtain ⟨i,hi⟩:=List.getElem?_of_mem hm
        have al : d[i]? = some false:=by simpa using hi
        have:=(f i).2 (by have:=Yp al;omega)
        rw [al] at this;cases this
      subst hz
      refine ⟨?_,hQ _ _ hp'⟩
      rw [List.eq_nil_iff_forall_not_mem]
      intro j hj
      obtain ⟨s,o,ho,_⟩:=mem_ready.1 hj
      rw [qbq,(f j).2 (by have:=Yp ho;omega)] at s
      cases s
    ·
      have p : ops[lo + k]? = some o:=by rw [← ac];exact e1
      rw [show l.length - (k + 1) = ops.size - (lo + k + 1) by omega] at e2
      have g : d[lo + k]? = some false:=by
        obtain ⟨b,hb⟩:=Kt (xs:=d) (i:=lo + k) (by rw [af];exact Yp p)
        cases b with
        | true=>have:=(f _).1 hb;omega
        | false=>exact hb
      cases r with
      | zero=>
        have:=List.count_eq_zero.1 aa
        exact absurd (by simpa using Array.mem_of_getElem? g) this
      | succ r=>
        refine ⟨fun ax=>absurd ax (qlt hD af _ _ rfl g),fun i hi=>?_⟩
        obtain ⟨s,oi,z,ba⟩:=mem_ready.1 hi
        rw [qbq] at s
        have x : ∀ e∈oi.after,Region.binds .any e = true→d[e.on]? = some true:=fun e he hb=>qet.1 (ba e he hb)
        have bl : i = lo + k:=by
          rcases Nat.lt_trichotomy i (lo + k) with h | h | h
          · have:=(f i).2 h;rw [s] at this;cases this
          · exact h
          · have:=hD.pivs (lo + k) i o oi h p z (.inl e2) _ ae x
            rw [g] at this;cases this
        subst bl
        rw [p] at z;cases z
        obtain ⟨az,ao⟩:=qh6 ae p s x
        refine qgj p ?_
        refine qpy e3 o rfl (hd _ _ p) a' w' hp' ay fun a2 w2 hp2 aw=>?_
        refine ihn (l.drop (k + 1)).length (by have:=Yp p;simp;omega) _ (lo + k + 1) st1 st' rfl (by rw [← aq,List.drop_drop,Nat.add_assoc]) (Yp p) e4 hQ _ _ a2 w2 (by simp [af]) (qif s aa) ao (fun j=>?_) hp2 aw
        rw [az,f];omega
  · have this : (S 0).nx≤(S (i - lo)).nx:=by simpa using q1e q0 y (Nat.le_refl lo) i ab q0
    have cp : (S (i - lo)).nx≤m:=g2
    exact if_neg q0
  · have:=qdu q0 y (t:=t) (Nat.le_refl lo) m ap hm fun i o ab hi ho bp=>an i ab ((ad i o ho bp).2 hi)
    simp at this ⊢
    exact this.symm
  · have:=qdt q0 y (q:=q) (Nat.le_refl lo) m ap hm fun i o ab hi ho bm=>an i ab ((ad i o ho bm).2 hi)
    simp at this ⊢
    exact this.symm
theorem qw5 {F : List Fp} {id : Nat} {w : World} {Z : Nat→Prop} {inj : Inj} {st st' : AS} {a : Act} {Ds : List Nat} {ro : Option Nat} {Q : Exit→Act→World→Prop} (q : P.follows .mixedOrders = true) (u : q81 F ops) (r : Jc P base ops F ops.toList st st')
    (h : RelS w Z inj st a Ds) (d : codeOk a.tmps.size (.region id ops true) = true) (hb : base≤st.nx) (m : Y8 ro w) (p : ∀ a' w',Kl base w Z inj st a Ds st' a' w'→Q .normal a' w') : (Code.region id ops true).wpIn (Fw ro) 0 P Q a w:=by
  refine wpIn_region_any q ?_
  have hs : RelS {w with drawn:=w.drawn + 1} Z inj st a Ds:=⟨h.slots.mono (fun _ _=>rfl) (fun _ h=>h) (fun b c e f hb=>⟨c,e,f,hb,rfl⟩) (fun _ _=>rfl) (Nat.le_refl _),h.heap.same rfl,h.defs,h.nodup,h.marks⟩
  have k : ∀ (i : Nat) (o : Oper),ops[i]? = some o→Zx a.tmps.size o.dst = true:=by
    intro i o t
    simp only [codeOk,List.all_eq_true] at d
    exact d o (by simpa using Array.mem_of_getElem? t)
  have g : ∀ (i : Nat),(Array.replicate ops.size false)[i]?≠some true:=by
    intro i hi
    rw [Array.getElem?_replicate] at hi
    split at hi <;> simp at hi
  exact qqp u k ops.toList.length ops.toList 0 st st' rfl qe (Nat.zero_le _) r p ops.size _ a _ qe qe (fun j o n _=>absurd n (g j)) (fun i=>⟨fun hi=>absurd hi (g i),fun hi=>q0⟩) ⟨Z,inj,Ds,hs,.same rfl rfl rfl rfl,rfl,hb,fun _ h=>.inl h⟩ (fun l s=>m l s)
end
end Go.Am
namespace Go.Am
open Go
variable {P : Program} {T : Tab}
section
variable {w w' : World} {Z Z' : Nat→Prop} {inj inj' : Inj} {hp hp' : List (Nat × Blk)} {nx nx' pin : Nat}
theorem RelH.grow (h : RelH w Z inj hp nx) (d : ∀ b,b < w.heap.size→w'.heap[b]? = w.heap[b]?) : RelH w' Z inj hp nx:=by
  have hb : Zk w w':=fun b c e f j=>⟨c,e,f,(d b (Zw j)).trans j,rfl⟩
  refine ⟨fun n b l=>?_,h.sep,h.out,?_,?_⟩
  · obtain ⟨k,o⟩:=h.blk n b l
    exact ⟨k,o.mono (fun b a=>d b (h.zs b a)) (fun _ h=>h) hb (fun _ _=>rfl) (Nat.le_refl _) k fun p hp m=>d _ (h.im_lt ⟨n,b,p.2,l,m,hp⟩)⟩
  · intro b a
    obtain ⟨c,e,f,g⟩:=h.zc b a
    have:=d b (h.zs b a)
    exact Zw (this.trans g)
  · intro b a
    obtain ⟨c,e,f,g⟩:=h.zc b a
    exact ⟨c,e,f,(d b (h.zs b a)).trans g⟩
theorem Ext.alloc (o : Obj) (a : Unfr o:=by first | exact rfl | exact trivial) : Ext w Z inj hp (w.alloc o) Z inj hp pin:=
  ⟨qe,fun b hb _=>Zl w o hb,fun _ h=>.inl h,q2b w o,qk6 w o,fun _ h=>h,fun _ h=>.inl h,fun _ _=>rfl,rfl,rfl,rfl,qjf w a⟩
theorem qm3 (h : RelH w Z inj hp nx) {n : Nat} {b0 blk : Blk} (t : find hp n = some b0) (hl : live b0 = true) {b off : Nat} (hi : inj n = some (b,off)) {r v : Loop} (hb : w.heap[b]? = some (.loop r)) (hd : v.defers = r.defers)
    (ae : RelB (w.putObj b (.loop v)) Z inj nx n blk) (ag : live blk = true→True) : RelH (w.putObj b (.loop v)) Z inj (repl hp n blk) nx∧Ext w Z inj hp (w.putObj b (.loop v)) Z inj (repl hp n blk) pin:=by
  have a : ∀ k,k≠b→(w.putObj b (.loop v)).heap[k]? = w.heap[k]?:=fun k g=>World.putObj_heap_other g
  have al : ¬ Z b:=fun hz=>by
    obtain ⟨c,e,f,hc⟩:=h.zc b hz
    rw [hb] at hc;cases hc
  have j : Zk w (w.putObj b (.loop v)):=fun k c e f g=>by
    by_cases j : k = b
    · subst j;rw [hb] at g;cases g
    · exact ⟨c,e,f,(a k j).trans g,rfl⟩
  have hz : ∀ k,Z k→(w.putObj b (.loop v)).heap[k]? = w.heap[k]?:=fun k g=>a k (fun e=>al (e ▸ g))
  have d : ∀ m c,find (repl hp n blk) m = some c→(m = n∧c = blk)∨(m≠n∧find hp m = some c):=by
    intro m c u
    rw [Yt] at u
    split at u
    · rename_i e;subst e;rw [t] at u;simp at u;exact .inl ⟨rfl,u.symm⟩
    · rename_i e;exact .inr ⟨fun h=>e h.symm,u⟩
  have ab : ∀ k,im (repl hp n blk) inj k→im hp inj k:=by
    rintro k ⟨m,c,o,h1,h2,s⟩
    rcases d m c h1 with ⟨rfl,rfl⟩ | ⟨_,y⟩
    · exact ⟨m,b0,o,t,hl,s⟩
    · exact ⟨m,c,o,y,h2,s⟩
  refine ⟨⟨?_,?_,?_,?_,?_⟩,⟨qe,?_,fun k g=>.inl (ab k g),j,?_,fun _ h=>h,fun _ h=>.inl h,fun _ _=>rfl,rfl,rfl,rfl,qer (fun _ _ _=>by rw [hb];simp) (fun _ _ _=>qe)⟩⟩
  · intro m c u
    rcases d m c u with ⟨rfl,rfl⟩ | ⟨l,y⟩
    · exact ⟨(h.blk _ _ t).1,ae⟩
    · obtain ⟨z,h6⟩:=h.blk m c y
      exact ⟨z,h6.mono hz (fun _ h=>h) j (fun _ _=>rfl) (Nat.le_refl _) z fun p hp ag=>a _ fun e=>h.sep m n c b0 p (b,off) y t ag hl hp hi l e⟩
  · intro m m' c c' p q h1 h2 s y z h6 l
    rcases d m c h1 with ⟨rfl,rfl⟩ | ⟨e1,k1⟩ <;> rcases d m' c' h2 with ⟨rfl,rfl⟩ | ⟨e2,k2⟩
    · exact absurd rfl l
    · exact h.sep _ _ _ _ p q t k2 hl y z h6 l
    · exact h.sep _ _ _ _ p q k1 t s hl z h6 l
    · exact h.sep _ _ _ _ p q k1 k2 s y z h6 l
  · intro m c p h1 h2 s
    rcases d m c h1 with ⟨rfl,rfl⟩ | ⟨e1,k1⟩
    · exact h.out _ _ p t hl s
    · exact h.out _ _ p k1 h2 s
  · intro k g;simpa using h.zs k g
  · intro k g
    obtain ⟨c,e,f,hc⟩:=h.zc k g
    exact ⟨c,e,f,(hz k g).trans hc⟩
  · intro k _ g
    exact a k fun e=>g ⟨n,b0,off,t,hl,e ▸ hi⟩
  · intro k x g
    by_cases j : k = b
    · subst j
      rw [hb] at g;cases g
      exact ⟨v,World.putObj_heap_same (Zw hb),hd⟩
    · exact ⟨x,(a k j).trans g,rfl⟩
theorem qg1 (h : RelH w Z inj hp nx) {n : Nat} {s : List (Nat × V)} {a : List Tmp} {as g : Code} {ls ls' : LoopState} {pe pe' : Option Code} (v : find hp n = some (.loop s a as g ls pe)) : ∃ b r,inj n = some (b,0)∧w.heap[b]? = some (.loop r)∧
    r.state = ls∧r.pending = pe∧r.params = a.toArray∧r.assign = as∧r.body = g∧(codeOk r.tmps.size as = true∧codeOk r.tmps.size g = true∧∀ p∈a,p < r.tmps.size)∧Ym w Z inj nx s r.tmps∧
    RelH (w.putObj b (.loop {r with state:=ls',pending:=pe'})) Z inj (repl hp n (.loop s a as g ls' pe')) nx∧Ext w Z inj hp (w.putObj b (.loop {r with state:=ls',pending:=pe'})) Z inj (repl hp n (.loop s a as g ls' pe')) pin:=by
  obtain ⟨x,b,tmps,D,fn,o,j,u,t⟩:=h.blk n _ v
  refine ⟨b,_,o,j,rfl,rfl,rfl,rfl,rfl,u,t,?_⟩
  refine qm3 h v rfl o j rfl ?_ (fun _=>trivial)
  refine ⟨b,tmps,D,fn,o,World.putObj_heap_same (Zw j),u,?_⟩
  have m : ¬ Z b:=fun y=>by
    obtain ⟨c,e,f,q⟩:=h.zc b y
    rw [j] at q;cases q
  refine t.mono (fun k l=>World.putObj_heap_other (fun e=>m (e ▸ l))) (fun _ h=>h) ?_ (fun _ _=>rfl) (Nat.le_refl _)
  intro k c e f l
  by_cases d : k = b
  · subst d;rw [j] at l;cases l
  · exact ⟨c,e,f,(World.putObj_heap_other d).trans l,rfl⟩
theorem qw9 (h : RelH w Z inj hp nx) {n : Nat} {s : List (Nat × V)} {j : List Tmp} {as k : Code} {ls : LoopState} {pe : Option Code} (f : find hp n = some (.loop s j as k ls pe)) : ∃ b r,inj n = some (b,0)∧w.heap[b]? = some (.loop r)∧
    r.state = ls∧r.pending = pe∧∀ a : Loop,a.defers = r.defers→RelH (w.putObj b (.loop a)) Z inj (repl hp n .dead) nx∧Ext w Z inj hp (w.putObj b (.loop a)) Z inj (repl hp n .dead) pin:=by
  obtain ⟨l,b,tmps,D,fn,d,c,o,m⟩:=h.blk n _ f
  exact ⟨b,_,d,c,rfl,rfl,fun a g=>qm3 h f rfl d c g trivial (fun _=>trivial)⟩
theorem qj0 : ∀ (b : List V) (k t : Nat) (v : V),find (Kv k b) t = some v→k≤t∧b[t - k]? = some v
  | [],k,t,v,h=>by simp [Kv,find] at h
  | x::r,k,t,v,h=>by
    simp only [Kv,Kk] at h
    split at h
    · rename_i e;subst e;cases h;simp
    · rename_i e
      obtain ⟨d,a⟩:=qj0 r (k + 1) t v h
      refine ⟨q0,?_⟩
      obtain ⟨m,c⟩ : ∃ m,t - k = m + 1:=⟨t - k - 1,q0⟩
      have : t - (k + 1) = m:=by omega
      rw [this] at a
      rw [c];simpa using a
theorem qwc {c : List V} {xs : Array Value} (n : Nat) (h : LRel w Z inj nx c xs) : Ym w Z inj nx (Kv 0 c) (xs ++ Array.replicate (n - xs.size) undef):=by
  intro t v f
  obtain ⟨_,b⟩:=qj0 c 0 t v f
  simp at b
  have a : t < xs.size:=by rw [← h.1];exact K3 b
  obtain ⟨x,d⟩:=Kt a
  exact ⟨x,by rw [Array.getElem?_append_left a];exact d,h.2 t v x b d⟩
theorem qm5 : ∀ (f : List Tmp) (g : List V) (xs : List Value) (s : List (Nat × V)) (tmps : Array Value),g.length = xs.length→(∀ (i : Nat) (d : V) (c : Value),g[i]? = some d→xs[i]? = some c→RelV w Z inj nx d c)→(∀ p∈f,p < tmps.size)→
    Ym w Z inj nx s tmps→Ym w Z inj nx (q1i s f g) ((f.zip xs).foldl (fun tmps (x : Tmp × Value)=>tmps.setIfInBounds x.1 x.2) tmps)∧((f.zip xs).foldl (fun tmps (x : Tmp × Value)=>tmps.setIfInBounds x.1 x.2) tmps).size = tmps.size
  | [],g,xs,s,tmps,hl,hr,hp,h=>by simpa [q1i] using h
  | p::f,[],[],s,tmps,hl,hr,hp,h=>by simpa [q1i] using h
  | p::f,v::g,x::xs,s,tmps,hl,hr,hp,h=>by
    have k:=hr 0 v x rfl rfl
    have m:=h.put k (hp p qe)
    obtain ⟨a,b⟩:=qm5 f g xs _ _ (by simpa using hl) (fun i d c hd j=>hr (i + 1) d c (by simpa using hd) (by simpa using j)) (fun q l=>by simpa using hp q (by simp [l])) m
    refine ⟨by simpa [q1i] using a,by simpa using b⟩
  | p::f,[],x::xs,s,tmps,hl,hr,hp,h=>by simp at hl
  | p::f,v::g,[],s,tmps,hl,hr,hp,h=>by simp at hl
theorem qkb {fn : Func} {st : AS} {v : V} (hT : Yr P T) {w0 : World} {Z0 : Nat→Prop} {inj0 : Inj} {hp0 : List (Nat × Blk)} {R : Ending→World→Prop} (m : resV T st fn.results.toList = some v)
    (hR : ∀ x w' Z' inj',RelH w' Z' inj' st.hp st.nx→Ext w0 Z0 inj0 hp0 w' Z' inj' st.hp pin→RelV w' Z' inj' st.nx v x→R (.returned x) w') : ∀ (Ds : List Nat) (w : World) (Z : Nat→Prop) (inj : Inj) (a : Act),
      Ym w Z inj st.nx st.sl a.tmps→RelH w Z inj st.hp st.nx→Ext w0 Z0 inj0 hp0 w Z inj st.hp pin→Ds.Nodup→(∀ D∈Ds,w.heap[D]? = some (.deferred (some []))∧w0.heap.size≤D)→
      LeavesInM (Fw none) 0 P fn a.tmps R (Ds.map fun D=>{target:=.collected D,args:=#[]}) .returning w
  | [],w,Z,inj,a,hs,hh,he,_,_=>by
    obtain ⟨x,hx,hv⟩:=qwg (a:=a) hT hh hs m
    exact ⟨x,hx,hR x w Z inj hh he hv⟩
  | D::Ds,w,Z,inj,a,hs,hh,he,hnd,hm=>by
    obtain ⟨z,ah⟩:=hm D qe
    have j:=List.nodup_cons.1 hnd
    refine ⟨qe,.inl ⟨D,_,rfl,run_takeDeferred z,?_⟩⟩
    have d : ∀ k,k≠D→(w.putObj D (.deferred none)).heap[k]? = w.heap[k]?:=fun k g=>World.putObj_heap_other g
    have ac : ¬ Z D:=fun t=>by obtain ⟨c,e,f,hc⟩:=hh.zc D t;rw [z] at hc;cases hc
    have u : ¬ im st.hp inj D:=fun hi=>by rcases hh.im_obj hi with ⟨_,_,e⟩ | ⟨_,e⟩ | ⟨_,_,e⟩ <;> rw [z] at e <;> cases e
    have t : ∀ k,Z k→(w.putObj D (.deferred none)).heap[k]? = w.heap[k]?:=fun k g=>d k fun e=>ac (e ▸ g)
    have o : Zk w (w.putObj D (.deferred none)):=fun k c e f g=>by
      by_cases q : k = D
      · subst q;rw [z] at g;cases g
      · exact ⟨c,e,f,(d k q).trans g,rfl⟩
    refine qkb hT m hR Ds _ Z inj a (hs.mono t (fun _ h=>h) o (fun _ _=>rfl) (Nat.le_refl _)) ⟨?_,hh.sep,hh.out,fun k g=>by simpa using hh.zs k g,?_⟩ ?_ j.2 ?_
    · intro n b hn
      obtain ⟨l,s⟩:=hh.blk n b hn
      exact ⟨l,s.mono t (fun _ h=>h) o (fun _ _=>rfl) (Nat.le_refl _) l fun p hp hl=>d _ fun e=>u ⟨n,b,p.2,hn,hl,by rw [← e];exact hp⟩⟩
    · intro k g
      obtain ⟨c,e,f,hc⟩:=hh.zc k g
      exact ⟨c,e,f,(t k g).trans hc⟩
    · refine ⟨by simpa using he.size,fun b hb hi=>(d b q0).trans (he.keep b hb hi),he.imm,?_,?_,he.zin,he.zout,he.pinj,he.tape,he.os,he.output,fun x=>(qer (fun _ _ _=>by rw [z];simp) (fun _ _ _=>qe) x).trans (he.frz x)⟩
      · intro b c e f hb
        obtain ⟨c1,e1,f1,l,s1⟩:=he.big b c e f hb
        obtain ⟨c2,e2,f2,s,s2⟩:=o b c1 e1 f1 l
        exact ⟨c2,e2,f2,s,s2.trans s1⟩
      · intro b r hb
        obtain ⟨r1,l,s1⟩:=he.loops b r hb
        exact ⟨r1,(d b (by have:=Zw hb;omega)).trans l,s1⟩
    · intro D' y
      obtain ⟨l,s⟩:=hm D' (by simp [y])
      exact ⟨(d D' (fun e=>j.1 (e ▸ y))).trans l,s⟩
end
end Go.Am
namespace Go.Am
open Go
variable {P : Program} {T : Tab}
def wpL (F : Fence) (P : Program) (c : Code) (Q : Exit→Act→World→Prop) (a : Act) (w : World) : Prop:=
  ∀ (b : Frame) (k : List Item) (cs : List Frame),b.roundOf = F.round→F.fn b.fn→F.room (cs.length + 1 + 0)→
    ∃ e a' w',Q e a' w'∧ArrivesIn (Machine.fenced P F) P (lone (b.atR a (.code c::.inLoop c::k)) cs w) b k cs e a' w'
theorem qod {F : Fence} {c : Code} {Q : Exit→Act→World→Prop} {a : Act} {w : World} (h : c.wpIn F 0 P (Exit.then (wpL F P c Q) Q) a w) : wpL F P c Q a w:=by
  intro b k cs m hb o
  obtain ⟨e,n,j,g,d⟩:=h b (.inLoop c::k) cs m hb o
  cases e with
  | normal=>
    obtain ⟨q,s,r,p,f⟩:=g b k cs m hb o
    exact ⟨q,s,r,p,.of_steps (StepsIn.trans d (.one (fenced_calm hb o rfl) stepR_inLoop)) f⟩
  | exit id=>exact ⟨_,n,j,g,.pass (x:=.inLoop c) rfl (fun _ _=>.inl qe) d⟩
  | goto l=>exact ⟨_,n,j,g,.pass (x:=.inLoop c) rfl (fun _ _=>.inl qe) d⟩
  | ret=>exact ⟨_,n,j,g,.pass (x:=.inLoop c) rfl (fun _ _=>.inl qe) d⟩
  | panic ch=>exact ⟨_,n,j,g,.pass (x:=.inLoop c) rfl (fun _ _=>.inl qe) d⟩
  | outgrown=>exact ⟨_,n,j,g,.pass (x:=.inLoop c) rfl (fun _ _=>.inl qe) d⟩
theorem q13b {F : Fence} {c : Code} {Q : Exit→Act→World→Prop} {a : Act} {w : World} (h : wpL F P c Q a w) : (Code.loop c).wpIn F 0 P Q a w:=by
  intro b k cs f hb g
  obtain ⟨e,a',w',j,d⟩:=h b k cs f hb g
  exact ⟨e,a',w',j,.of_steps (.one (fenced_calm hb g rfl) stepR_loop) d⟩
theorem qoc {F : Fence} {c : Code} {Q d : Exit→Act→World→Prop} {a : Act} {w : World} (h : wpL F P c Q a w) (l : ∀ e a w,Q e a w→d e a w) : wpL F P c d a w:=
  fun b k cs j f g=>let ⟨e,a',w',q,r⟩:=h b k cs j f g;⟨e,a',w',l _ _ _ q,r⟩
def CP (base : Nat) (w : World) (Z : Nat→Prop) (inj : Inj) (st : AS) (a : Act) (Ds : List Nat) (ex : Ex) (st' : AS) (e : Exit) (a' : Act) (w' : World) : Prop:=e = toE ex∧Kl base w Z inj st a Ds st' a' w'
def Kp (P : Program) (base : Nat) (c : Code) (st : AS) (ex : Ex) (st' : AS) : Prop:=
  ∀ (ro : Option Nat) (w : World) (Z : Nat→Prop) (inj : Inj) (a : Act) (Ds : List Nat),RelS w Z inj st a Ds→codeOk a.tmps.size c = true→base≤st.nx→Y8 ro w→
    c.wpIn (Fw ro) 0 P (CP base w Z inj st a Ds ex st') a w∧∀ d,c = .loop d→wpL (Fw ro) P d (CP base w Z inj st a Ds ex st') a w
section
variable {base : Nat} {st st1 st2 : AS} {ex : Ex}
theorem Jx {c : Code} (b : ∀ d,c≠.loop d) (h : ∀ (ro : Option Nat) (w : World) (Z : Nat→Prop) (inj : Inj) (a : Act) (Ds : List Nat),RelS w Z inj st a Ds→codeOk a.tmps.size c = true→base≤st.nx→Y8 ro w→
    c.wpIn (Fw ro) 0 P (CP base w Z inj st a Ds ex st1) a w) : Kp P base c st ex st1:=
  fun ro w Z inj a Ds k g j f=>⟨h ro w Z inj a Ds k g j f,fun d hd=>absurd hd (b d)⟩
theorem Kl.round {w : World} {Z : Nat→Prop} {inj : Inj} {a : Act} {Ds : List Nat} {a' : Act} {w' : World} {ro : Option Nat} (h : Kl base w Z inj st a Ds st1 a' w') (b : Y8 ro w) : Y8 ro w':=by
  obtain ⟨_,_,_,_,e,_⟩:=h;exact b.ext e
theorem qpw : Kp P base .skip st .nor st:=
  Jx qe fun ro w Z inj a Ds h _ hb _=>wpIn_skip ⟨rfl,Kl.refl h hb⟩
theorem qpn {id : Nat} : Kp P base (.exit id) st (.exit id) st:=
  Jx qe fun ro w Z inj a Ds h _ hb _=>wpIn_exit ⟨rfl,Kl.refl h hb⟩
theorem qpt : Kp P base .ret st .ret st:=
  Jx qe fun ro w Z inj a Ds h _ hb _=>wpIn_ret ⟨rfl,Kl.refl h hb⟩
theorem qpu {a b : Code} (n : Kp P base a st .nor st1) (m : Kp P base b st1 ex st2) : Kp P base (.seq a b) st ex st2:=by
  refine Jx qe fun ro w Z inj act Ds h c hb k=>wpIn_seq (wpIn_mono (n ro w Z inj act Ds h ?_ hb k).1 ?_)
  · simp only [codeOk,Bool.and_eq_true] at c;exact c.1
  · rintro e a' w' ⟨rfl,hp⟩
    refine hp.bind fun Z' inj' l j f d _ g=>?_
    refine wpIn_mono (m ro w' Z' inj' a' l j ?_ d (hp.round k)).1 ?_
    · simp only [codeOk,Bool.and_eq_true] at c;rw [f];exact c.2
    · rintro e p o ⟨rfl,hp2⟩
      exact ⟨rfl,g _ _ _ hp2⟩
theorem qpv {a b : Code} (g : Kp P base a st ex st1) (f : ex≠.nor) : Kp P base (.seq a b) st ex st1:=by
  refine Jx qe fun ro w Z inj act Ds h c hb d=>wpIn_seq (wpIn_mono (g ro w Z inj act Ds h ?_ hb d).1 ?_)
  · simp only [codeOk,Bool.and_eq_true] at c;exact c.1
  · rintro e a' w' ⟨rfl,hp⟩
    cases ex with
    | nor=>exact absurd rfl f
    | exit id=>exact ⟨rfl,hp⟩
    | ret=>exact ⟨rfl,hp⟩
theorem qpm {c : Operand} {a b : Code} (j : st.ev c = some (.d (.bool true))) (k : Kp P base a st ex st1) : Kp P base (.cond c a b) st ex st1:=by
  refine Jx qe fun ro w Z inj act Ds h f hb g=>wpIn_cond_true ?_ (k ro w Z inj act Ds h ?_ hb g).1
  · have:=K2 h j
    generalize act.eval c = x at this
    cases this with | d this=>cases this;rfl
  · simp only [codeOk,Bool.and_eq_true] at f;exact f.1
theorem qpl {c : Operand} {a b : Code} (j : st.ev c = some (.d (.bool false))) (k : Kp P base b st ex st1) : Kp P base (.cond c a b) st ex st1:=by
  refine Jx qe fun ro w Z inj act Ds h f hb g=>wpIn_cond_false ?_ (k ro w Z inj act Ds h ?_ hb g).1
  · have:=K2 h j
    generalize act.eval c = x at this
    cases this with | d this=>cases this;rfl
  · simp only [codeOk,Bool.and_eq_true] at f;exact f.2
theorem qpk {id : Nat} {a : Code} (d : Kp P base a st ex st1) : Kp P base (.block id a) st (ex.block id) st1:=by
  refine Jx qe fun ro w Z inj act Ds h c hb b=>wpIn_block (wpIn_mono (d ro w Z inj act Ds h c hb b).1 ?_)
  rintro e a' w' ⟨rfl,hp⟩
  cases ex with
  | nor=>exact ⟨rfl,hp⟩
  | ret=>exact ⟨rfl,hp⟩
  | exit i=>
    by_cases hi : i = id
    · simp only [toE,Exit.inBlock,hi,if_true,Ex.block];exact ⟨rfl,hp⟩
    · simp only [toE,Exit.inBlock,hi,if_false,Ex.block];exact ⟨rfl,hp⟩
theorem qhu {a : Code} (h : ∀ (ro : Option Nat) (w : World) (Z : Nat→Prop) (inj : Inj) (act : Act) (Ds : List Nat),RelS w Z inj st act Ds→codeOk act.tmps.size (.loop a) = true→base≤st.nx→Y8 ro w→
    wpL (Fw ro) P a (CP base w Z inj st act Ds ex st1) act w) : Kp P base (.loop a) st ex st1:=
  fun ro w Z inj act Ds g c f b=>⟨q13b (h ro w Z inj act Ds g c f b),fun d hd=>by cases hd;exact h ro w Z inj act Ds g c f b⟩
theorem qpo {a : Code} (m : Kp P base a st .nor st1) (l : Kp P base (.loop a) st1 ex st2) : Kp P base (.loop a) st ex st2:=by
  refine qhu fun ro w Z inj act Ds h j hb g=>qod (wpIn_mono (m ro w Z inj act Ds h j hb g).1 ?_)
  rintro e a' w' ⟨rfl,hp⟩
  refine hp.bind fun Z' inj' k f c b _ d=>?_
  refine qoc ((l ro w' Z' inj' a' k f (by rw [c];exact j) b (hp.round g)).2 a rfl) ?_
  rintro e o n ⟨rfl,hp2⟩
  exact ⟨rfl,d _ _ _ hp2⟩
theorem qpp {a : Code} (f : Kp P base a st ex st1) (d : ex≠.nor) : Kp P base (.loop a) st ex st1:=by
  refine qhu fun ro w Z inj act Ds h c hb b=>qod (wpIn_mono (f ro w Z inj act Ds h c hb b).1 ?_)
  rintro e a' w' ⟨rfl,hp⟩
  cases ex with
  | nor=>exact absurd rfl d
  | exit id=>exact ⟨rfl,hp⟩
  | ret=>exact ⟨rfl,hp⟩
theorem qpx {ρ : Nat→Nat} {fz ph : List Nat} {c : Code} (k : Wk base ρ fz ph st st1) (t : Kp P base c st1 ex st2) : Kp P base c st ex st2:=by
  intro ro w Z inj a Ds h j hb g
  obtain ⟨f,u⟩:=q1s h k
  have b : ∀ e a' w',CP base w (wkZ Z inj st fz) (wkI inj ρ ph) st1 a Ds ex st2 e a' w'→CP base w Z inj st a Ds ex st2 e a' w':=by
    rintro e a' w' ⟨rfl,s,l,m,n,q,p,o,v⟩
    exact ⟨rfl,s,l,m,n,u.trans q (Nat.le_refl _),p,o,v⟩
  obtain ⟨x,r⟩:=t ro w _ _ a Ds f j k.bs g
  exact ⟨wpIn_mono x b,fun d hd=>qoc (r d hd) b⟩
theorem qq0 {ops : Array Oper} {ro : Option Nat} {w0 : World} {Z0 : Nat→Prop} {inj0 : Inj} {c : AS} {k : Act} {Ds0 : List Nat} {Q : Exit→Act→World→Prop} {l : List Oper} {st st' : AS} (x : Zb P base ops l st st')
    (hd : ∀ o∈ops,Zx k.tmps.size o.dst = true) (q : ∀ a' w',Kl base w0 Z0 inj0 c k Ds0 st' a' w'→Q .normal a' w') : ∀ (pre : List Oper) (a : Act) (w : World),ops.toList = pre ++ l→Kl base w0 Z0 inj0 c k Ds0 st a w→Y8 ro w→
    wpOpsIn (Fw ro) 0 P ops Q (List.range' pre.length l.length) a w:=by
  have one : ∀ {o : Oper} {l : List Oper} {st st1 st2 : AS},Jd P base ops o st st1→(∀ (pre : List Oper) (a : Act) (w : World),ops.toList = pre ++ l→Kl base w0 Z0 inj0 c k Ds0 st1 a w→Y8 ro w→wpOpsIn (Fw ro) 0 P ops Q (List.range' pre.length l.length) a w)→
      ∀ (pre : List Oper) (a : Act) (w : World),ops.toList = pre ++ o::l→Kl base w0 Z0 inj0 c k Ds0 st a w→Y8 ro w→wpOpsIn (Fw ro) 0 P ops Q (List.range' pre.length (o::l).length) a w:=by
    intro o l st st1 st2 hs m pre a w p hp d
    have r : ops[pre.length]? = some o:=by rw [← Array.getElem?_toList,p];simp
    rw [List.length_cons,List.range'_succ,wpOpsIn_cons]
    refine qgj r ?_
    refine hp.bind fun Z' inj' f b h g _ j=>?_
    refine hs ro Q w Z' inj' a f _ b (by rw [h];exact hd o (Array.mem_of_getElem? r)) g d fun a' w' hp'=>?_
    have:=m (pre ++ [o]) a' w' (by rw [p];simp) (j _ _ _ hp') (hp'.round d)
    simpa using this
  induction x with
  | nil=>intro pre a w _ hp _;simpa [wpOpsIn] using q _ _ hp
  | cons hs _ m=>exact one (st2:=st) hs (m q)
  | wk hw _ m=>
    intro pre a w p hp d
    refine m q pre a w p ?_ d
    obtain ⟨Z',inj',f,v,t,u,y,s⟩:=hp
    obtain ⟨b,n⟩:=q1s v hw
    exact ⟨_,_,f,b,t.trans n (Nat.le_refl _),u,hw.bs,s⟩
theorem qpr {id : Nat} {ops : Array Oper} (d : Zb P base ops ops.toList st st1) : Kp P base (.region id ops false) st .nor st1:=by
  refine Jx qe fun ro w Z inj a Ds h b hb c=>wpIn_region ?_
  have hd : ∀ o∈ops,Zx a.tmps.size o.dst = true:=by
    intro o f
    simp only [codeOk,List.all_eq_true] at b
    exact b o (by simpa using f)
  have:=qq0 (Q:=CP base w Z inj st a Ds .nor st1) d hd (fun a' w' hp=>⟨rfl,hp⟩) [] a w rfl (Kl.refl h hb) c
  rw [List.range_eq_range']
  simpa using this
theorem qps {id : Nat} {ops : Array Oper} {F : List Fp} (d : P.follows .mixedOrders = true) (f : Jc P base ops F ops.toList st st1) (hd : q8d F ops = true) : Kp P base (.region id ops true) st .nor st1:=
  Jx qe fun ro w Z inj a Ds h c hb b=>qw5 d (qqo hd) f h c hb b fun a' w' hp=>⟨rfl,hp⟩
theorem qro {ops : Array Oper} {o : Oper} {c : Call} {g : Operand} {n : Nat} {vs : List V} {s s1 s2 : List (Nat × V)} {k : List Tmp} {assign body : Code}
    (hg : Qo ops st o = some true) (ho : o.op = .call c) (v : c.callee = .value g) (bc : st.ev g = some (.yld n)) (bl : evL st.ev c.args.toList = some vs)
    (u : st.blk n = some (.loop s k assign body .ready none)) (aq : k.length = vs.length)
    (h1 : Kp P st.nx assign {sl:=q1i s k vs,hp:=st.hp,nx:=st.nx} .nor st1) (az : st1.blk n = some (.loop s1 k assign body .ready none))
    (h2 : Kp P st.nx body (st1.setBlk n (.loop s1 k assign body .busy none)) ex st2) (bn : st2.blk n = some (.loop s2 k assign body .busy none)) :
    Jd P base ops o st ({sl:=st.sl,hp:=repl st2.hp n (.loop s2 k assign body (if ex = .nor then .ready else .done) ex.code),nx:=st2.nx : AS}.putD o.dst (.d (.bool (decide (ex = .nor))))):=by
  intro ro Q w Z inj a Ds K h hd hb cp hK
  unfold Ub
  rw [q39 h hg]
  simp only [if_true]
  refine ⟨fun _ _=>trivial,?_⟩
  have hr:=K2 h bc
  obtain ⟨b,r,hi,hw,es,ep,al,ba,bg,aa,bk,_⟩:=qg1 (ls':=.ready) (pe':=none) (pin:=0) h.heap u
  generalize bb : a.eval g = gv at hr
  cases hr with | @yld _ b' o' hlt hi'=>
  rw [hi] at hi';cases hi'
  have hl:=q8j h bl
  have e2 : (c.args.toList.map a.eval).toArray = c.args.map a.eval:=by apply Array.ext';simp
  rw [e2] at hl
  have ay : (c.args.map a.eval).size = r.params.size:=by rw [← hl.1,al];simp [aq]
  have ai : (execOp a.eval o).run P w = .ok (.round b r.fn ((r.params.zip (c.args.map a.eval)).foldl (fun tmps (t,a)=>tmps.setIfInBounds t a) r.tmps) r.assign r.body) w:=by
    have:=run_yield (P:=P) hw ay
    obtain ⟨dst,op,type,pos,after,guard⟩:=o
    simp only at ho;subst ho
    obtain ⟨co,args,argTypes⟩:=c
    simp only at v;subst v
    simp only [execOp,resolve,Sem.run_bind,bb,Deferred.ofValue,Sem.run_pure,Result.andThen_ok,invoke]
    simpa using this
  rw [show (Fw ro).round = ro from rfl,Oper.semAt_eq ro _ o (by rintro c' h';rw [ho] at h';cases h'),ai,Oper.uponIn_round]
  refine ⟨fun h=>by simp [Fw] at h,?_⟩
  refine roundIn_of_wpIn trivial ?_
  have ac : (r.params.zip (c.args.map a.eval)).foldl (fun tmps (t,a)=>tmps.setIfInBounds t a) r.tmps = (k.zip (c.args.map a.eval).toList).foldl (fun tmps (x : Tmp × Value)=>tmps.setIfInBounds x.1 x.2) r.tmps:=by
    rw [al,← Array.foldl_toList,Array.toList_zip]
  obtain ⟨y,f⟩:=qm5 k vs (c.args.map a.eval).toList s r.tmps (by rw [Array.length_toList];exact hl.1) (fun i d c h1 h2=>hl.2 i d c h1 (by rw [← Array.getElem?_toList];exact h2)) aa.2.2 bk
  rw [ac,ba,bg]
  generalize (k.zip (c.args.map a.eval).toList).foldl (fun tmps (x : Tmp × Value)=>tmps.setIfInBounds x.1 x.2) r.tmps = tm at y f
  have ab : RelS w Z inj {sl:=q1i s k vs,hp:=st.hp,nx:=st.nx} {tmps:=tm,defers:=[]} []:=⟨y,h.heap,rfl,qe,qe⟩
  have z : Y8 (some b) w:=fun l hl=>by cases hl;exact ⟨r,hw⟩
  refine wpIn_mono (h1 (some b) w Z inj _ [] ab (by show codeOk tm.size assign = true;rw [f];exact aa.1) (Nat.le_refl _) z).1 ?_
  rintro e a1 w1 ⟨rfl,Z1,p,ah,g1,g2,g3,g4,g5⟩
  have ae : n < st.nx:=(h.heap.blk n _ u).1
  obtain ⟨b1,r1,i1,au,ax,ap,bp,ce,ca,bq,cm,bd,j⟩:=qg1 (ls':=.busy) (pe':=none) (pin:=st.nx) g1.heap az
  rw [g2.pinj n ae,hi] at i1;cases i1
  refine ⟨_,run_beginRound au ax,?_⟩
  have e5 : ({r1 with state:=.busy} : Loop) = {r1 with state:=.busy,pending:=none}:=by cases r1;simp only at ap;subst ap;rfl
  rw [e5]
  have af : RelS (w1.putObj b (.loop {r1 with state:=.busy,pending:=none})) Z1 p (st1.setBlk n (.loop s1 k assign body .busy none)) a1 ah:=
    ⟨g1.slots.mono (j.zkeep g1.heap) j.zin j.big (fun _ _=>rfl) (Nat.le_refl _),bd,g1.defs,g1.nodup,fun D hD=>j.marks g1.heap (g1.marks D hD)⟩
  have aj : Y8 (some b) (w1.putObj b (.loop {r1 with state:=.busy,pending:=none})):=(z.ext g2).ext j
  refine wpIn_mono (h2 (some b) _ Z1 p a1 ah af (by rw [g3];show codeOk tm.size body = true;rw [f];exact aa.2.1) g4 aj).1 ?_
  rintro e a3 w3 ⟨rfl,Z3,am,cr,k1,k2,k3,k4,k5⟩
  obtain ⟨b3,r3,i3,bf,ct,cn,bs,cf,bv,bt,ch,bj,bo⟩:=qg1 (ls':=if ex = .nor then .ready else .done) (pe':=ex.code) (pin:=st.nx) k1.heap bn
  have be : p n = some (b,0):=(g2.pinj n ae).trans hi
  rw [k2.pinj n ae,be] at i3;cases i3
  have m : K (a.put o.dst (.bool (decide (ex = .nor)))) (w3.putObj b (.loop {r3 with state:=if ex = .nor then .ready else .done,pending:=ex.code})):=by
    have ao : Ext w Z inj st.hp (w3.putObj b (.loop {r3 with state:=if ex = .nor then .ready else .done,pending:=ex.code})) Z3 am (repl st2.hp n (.loop s2 k assign body (if ex = .nor then .ready else .done) ex.code)) st.nx:=
      ((g2.trans j (Nat.le_refl _)).trans k2 (Nat.le_refl _)).trans bo (Nat.le_refl _)
    exact hK _ _ (q3i h hb ao bj k4 (.d (.bool _)) hd)
  have q:=run_endRound (P:=P) ex.code bf
  cases ex with
  | nor=>exact ⟨_,_,q,m⟩
  | ret=>exact ⟨_,_,q,m⟩
  | exit id=>exact ⟨_,_,q,m⟩
end
end Go.Am
namespace Go.Am
open Go
variable {P : Program} {T : Tab}
section
variable {base : Nat} {st st1 st2 : AS} {ex : Ex}
theorem qp9 {ro : Option Nat} {f : FuncId} {xs : Array Value} {w : World} {R : Ending→World→Prop} (h : CallsIn (Fw none) 0 P f xs w R) : CallsIn (Fw ro) 0 P f xs w R:=by
  cases ro <;> exact h
theorem qt5 {w : World} {Ds : List Nat} (h : Ds.Nodup) (a : ∀ D∈Ds,w.heap[D]? = some (.deferred (some []))) : (w.heap.size::Ds).Nodup:=
  List.nodup_cons.2 ⟨fun b=>by have:=Zw (a _ b);omega,h⟩
theorem qpq {g : Operand} {k : Array Tmp} {assign body : Code} {f : FuncId} {q : List V} {v : V} {hp : List (Nat × Blk)} {nx : Nat} {pe : Option Code} {s : List (Nat × V)} {ls : LoopState}
    (hg : st.ev g = some (.fn f q)∨∃ ds,st.ev g = some (.d (.fn f ds))∧q = ds.map .d)
    (y : Jb P f (.yld st.nx::q) ((st.nx,.loop st.sl k.toList assign body .ready none)::st.hp) (st.nx + 1) v hp nx)
    (aj : find hp st.nx = some (.loop s k.toList assign body ls pe)) (bq : ls≠.busy) (aw : pe = ex.code) : Kp P base (.rangeFunc g k assign body) st ex {sl:=st.sl,hp:=repl hp st.nx .dead,nx:=nx}:=by
  refine Jx qe fun ro w Z inj a Ds h z hb bh=>wpIn_rangeFunc fun fn _=>?_
  simp only [codeOk,Bool.and_eq_true,List.all_eq_true,Nat.blt_eq] at z
  have av : ∃ cs : Array Value,a.eval g = .func (.func f) #[] cs∧LRel w Z inj st.nx q cs:=by
    rcases hg with hg | ⟨ds,hg,rfl⟩
    · have hr:=K2 h hg
      generalize a.eval g = gv at hr ⊢
      cases hr with | @fn _ _ cs h1 h2=>
      exact ⟨cs,rfl,h1,h2⟩
    · have hr:=K2 h hg
      generalize a.eval g = gv at hr ⊢
      cases hr with | d hr=>
      cases hr with | @fn _ _ cs h1 h2=>
      refine ⟨cs,rfl,by simpa using h1,fun i d c hd hc=>?_⟩
      simp only [List.getElem?_map,Option.map_eq_some_iff] at hd
      obtain ⟨d',hd,rfl⟩:=hd
      exact .d (h2 i d' c hd hc)
  obtain ⟨cs,bm,bb⟩:=av
  have rest : ∀ (n : World) (l : Nat) (mark : List Deferred) (r : Loop) (Dn : List Nat),(Instr.enterLoop fn a.tmps k assign body (Fw ro).round).run P w = .ok (l,mark) n→
      n.heap[l]? = some (.loop r)→r.state = .ready→r.pending = none→
      RelH n Z (upd inj st.nx (some (l,0))) ((st.nx,.loop st.sl k.toList assign body .ready none)::st.hp) (st.nx + 1)→
      Ext w Z inj st.hp n Z (upd inj st.nx (some (l,0))) ((st.nx,.loop st.sl k.toList assign body .ready none)::st.hp) st.nx→
      mark = Dn.map (fun D=>{target:=.collected D,args:=#[]})→(Dn ++ Ds).Nodup→(∀ D∈Dn,n.heap[D]? = some (.deferred (some []))∧w.heap.size≤D)→
      ∃ (l : Nat) (mark : List Deferred) (w₁ : World) (d : Deferred) (af : World) (f : FuncId) (args : Array Value) (w₂ : World),
      (Instr.enterLoop fn a.tmps k assign body (Fw ro).round).run P w = .ok (l,mark) w₁∧
      (resolve a.eval (rangeCall g l) 0).run P w₁ = .ok d af∧
      (∀ f',Target.leads P af d.target d.args = some f'→(Fw ro).fn f')∧
      (invoke d.target d.args).run P af = .ok (.enter f args) w₂∧
      ((Fw ro).depth.isSome = true→1≤0)∧
      CallsIn (Fw ro) (0 - 1) P f args w₂ (rangePost (Fw ro) 0 P l (CP base w Z inj st a Ds ex {sl:=st.sl,hp:=repl hp st.nx .dead,nx:=nx}) {a with defers:=mark ++ a.defers}):=by
    intro n l mark r Dn aa ch co ce ao ab ag bi ar
    refine ⟨l,mark,n,{target:=.fn (.func f) cs,args:=#[.func (.yield l) #[] #[]]},n,f,#[.func (.yield l) #[] #[]] ++ cs,n,aa,?_,fun _ _=>trivial,?_,fun h=>by simp [Fw] at h,?_⟩
    · simp only [resolve,bm];simp [Deferred.ofValue,Act.eval]
    · simp [invoke,y.1]
    · refine qp9 (CallsIn.mono (y.2 n Z _ _ ao ?_) ?_)
      · refine ⟨by simp [bb.1];omega,fun i d c hd hc=>?_⟩
        cases i with
        | zero=>
          rw [Array.getElem?_append_left qe] at hc
          simp at hd hc;subst hd hc
          exact .yld q0 (Ks _ _ _)
        | succ i=>
          rw [Array.getElem?_append_right qe] at hc
          simp at hd hc
          exact (bb.2 i d c hd hc).mono (fun b hz=>ab.keep b (h.heap.zs b hz) (h.heap.z_im hz)) (fun _ h=>h) ab.big (fun m hm=>ab.pinj m hm) q0
      · rintro e w3 ⟨x,Z',inj',rfl,bp,ak,cn,cq⟩
        obtain ⟨b3,r3,i3,az,bj,ap,ae⟩:=qw9 (pin:=st.nx) bp aj
        obtain ⟨bk,bn⟩:=ae {r3 with state:=.exhausted} rfl
        have br : b3 = l:=by
          have:=ak.pinj st.nx q0
          rw [Ks,i3] at this
          cases this;rfl
        subst br
        refine ⟨r3.pending,_,run_endLoop az (by rw [bj];exact bq),?_⟩
        have hE : Ext w Z inj st.hp (w3.putObj b3 (.loop {r3 with state:=.exhausted})) Z' inj' (repl hp st.nx .dead) st.nx:=(ab.trans ak q0).trans bn (Nat.le_refl _)
        have t : Kl base w Z inj st a Ds {sl:=st.sl,hp:=repl hp st.nx .dead,nx:=nx} {a with defers:=mark ++ a.defers} (w3.putObj b3 (.loop {r3 with state:=.exhausted})):=by
          refine ⟨Z',inj',Dn ++ Ds,⟨?_,bk,?_,bi,?_⟩,hE.pin_le hb,rfl,by show base≤nx;omega,?_⟩
          · exact h.slots.mono (hE.zkeep h.heap) hE.zin hE.big hE.pinj (by show st.nx≤nx;omega)
          · simp [ag,h.defs]
          · intro D u
            rcases List.mem_append.1 u with u | u
            · obtain ⟨h5,h6⟩:=ar D u
              have h7:=ak.marks ao h5
              rw [World.putObj_heap_other (fun e=>by rw [e] at h7;rw [az] at h7;cases h7)]
              exact h7
            · exact hE.marks h.heap (h.marks D u)
          · intro D u
            rcases List.mem_append.1 u with u | u
            · exact .inr (ar D u).2
            · exact .inl u
        rw [ap,aw] at t
        rw [ap,aw]
        cases ex with
        | nor=>exact ⟨rfl,t⟩
        | exit id=>exact wpIn_exit ⟨rfl,t⟩
        | ret=>exact wpIn_ret ⟨rfl,t⟩
  have ad : ∀ (n : World) (l : Nat) (r : Loop),r.state = .ready→r.pending = none→r.tmps = a.tmps→r.params = k→r.assign = assign→r.body = body→Ym n Z (upd inj st.nx (some (l,0))) (st.nx + 1) st.sl a.tmps→
      n.heap[l]? = some (.loop r)→RelB n Z (upd inj st.nx (some (l,0))) (st.nx + 1) st.nx (.loop st.sl k.toList assign body .ready none):=by
    rintro n l r e1 e2 e3 e4 e5 e6 hs hl
    obtain ⟨f1,f2,f3,f4,f5,f6,f7,f8⟩:=r
    simp only at e1 e2 e3 e4 e5 e6
    subst e1 e2 e3 e4 e5 e6
    exact ⟨l,_,_,_,Ks _ _ _,hl,⟨z.1.2,z.2,fun p hp=>z.1.1 p hp⟩,hs⟩
  cases ro with
  | none=>
    have ax : RelH (w.alloc (.deferred (some []))) Z inj st.hp st.nx:=h.heap.grow fun b hb=>Zl w _ hb
    have ai : ∀ o,Ym ((w.alloc (.deferred (some []))).alloc o) Z (upd inj st.nx (some (w.heap.size + 1,0))) (st.nx + 1) st.sl a.tmps:=fun o=>
      h.slots.mono (fun b hz=>by have:=h.heap.zs b hz;rw [Zl _ _ (by simp;omega),Zl _ _ this]) (fun _ h=>h)
        (fun b c e f hb=>by obtain ⟨c1,e1,f1,h1,s1⟩:=q2b w (.deferred (some [])) b c e f hb;obtain ⟨c2,e2,f2,h2,s2⟩:=q2b _ o b c1 e1 f1 h1;exact ⟨c2,e2,f2,h2,s2.trans s1⟩) (fun _ hm=>Y4 _ _ hm) q0
    have j:=Ji (w.alloc (.deferred (some []))) (.loop {state:=.ready,pending:=none,fn,tmps:=a.tmps,params:=k,assign,body,defers:=w.heap.size})
    rw [World.size_alloc] at j
    have hB:=ad _ (w.heap.size + 1) {state:=.ready,pending:=none,fn,tmps:=a.tmps,params:=k,assign,body,defers:=w.heap.size} rfl rfl rfl rfl rfl rfl (ai _) j
    have hn:=ax.new (.loop {state:=.ready,pending:=none,fn,tmps:=a.tmps,params:=k,assign,body,defers:=w.heap.size}) (.loop st.sl k.toList assign body .ready none) 0 (by rw [World.size_alloc];exact hB)
    have he:=Ext.new ax (.loop {state:=.ready,pending:=none,fn,tmps:=a.tmps,params:=k,assign,body,defers:=w.heap.size}) (.loop st.sl k.toList assign body .ready none) 0
    rw [World.size_alloc] at hn he
    refine rest _ (w.heap.size + 1) _ _ [w.heap.size] (run_enterLoop_outer fn a.tmps k assign body) j rfl rfl hn ((Ext.alloc _).trans he (Nat.le_refl _)) rfl (qt5 h.nodup h.marks) ?_
    intro D u
    simp at u;subst u
    exact ⟨by rw [Zl _ _ qe];exact Ji _ _,Nat.le_refl _⟩
  | some l0=>
    obtain ⟨r0,bg⟩:=bh l0 rfl
    have ai : ∀ o,Ym (w.alloc o) Z (upd inj st.nx (some (w.heap.size,0))) (st.nx + 1) st.sl a.tmps:=fun o=>
      h.slots.mono (fun b hz=>Zl _ _ (h.heap.zs b hz)) (fun _ h=>h) (q2b w o) (fun _ hm=>Y4 _ _ hm) q0
    have j:=Ji w (.loop {state:=.ready,pending:=none,fn,tmps:=a.tmps,params:=k,assign,body,defers:=r0.defers})
    have hB:=ad _ w.heap.size {state:=.ready,pending:=none,fn,tmps:=a.tmps,params:=k,assign,body,defers:=r0.defers} rfl rfl rfl rfl rfl rfl (ai _) j
    exact rest _ w.heap.size _ _ [] (run_enterLoop_inner bg fn a.tmps k assign body) j rfl rfl (h.heap.new _ _ 0 hB) (Ext.new h.heap _ _ 0) rfl (by simpa using h.nodup) qe
theorem qpb {f : FuncId} {fn : Func} {c : Code} {g : List V} {hp : List (Nat × Blk)} {nx : Nat} {v : V} (s : Yr P T) (p : P.funcs[f]? = some fn) (hb : fn.body = some c) (a : (fn.name == "runtime.NumGoroutine") = false) (k : codeOk fn.ntmps c = true) (ae : g.length ≤ fn.ntmps)
    (hc : Kp P nx c {sl:=Kv 0 g,hp:=hp,nx:=nx} ex st) (hx : ex = .nor∨ex = .ret) (d : resV T st fn.results.toList = some v) : Jb P f g hp nx v st.hp st.nx:=by
  refine ⟨fun args w=>?_,fun w Z inj xs h j=>?_⟩
  · unfold callFunc
    have o : ¬ fn.name = "runtime.NumGoroutine" := by simpa using a
    simp [p,o,hb]
  · refine callsIn_of_wp_marks p hb trivial ?_
    have n : (xs ++ Array.replicate (fn.ntmps - xs.size) undef).size = fn.ntmps:=by
      have:=j.1
      simp;omega
    have t : RelS w Z inj {sl:=Kv 0 g,hp:=hp,nx:=nx} {tmps:=xs ++ Array.replicate (fn.ntmps - xs.size) undef,defers:=[]} []:=⟨qwc _ j,h,rfl,qe,qe⟩
    refine wpIn_mono (hc none w Z inj _ [] t (by show codeOk (xs ++ Array.replicate (fn.ntmps - xs.size) undef).size c = true;rw [n];exact k) (Nat.le_refl _) (fun l j=>by cases j)).1 ?_
    rintro e a' w' ⟨rfl,Z',inj',m,b,g2,g3,z,g5⟩
    have q:=qkb (P:=P) (fn:=fn) (pin:=nx) (w0:=w) (Z0:=Z) (inj0:=inj) (hp0:=hp) s d
      (R:=fun e w'=>∃ x Z' inj',e = .returned x∧RelH w' Z' inj' st.hp st.nx∧Ext w Z inj hp w' Z' inj' st.hp nx∧RelV w' Z' inj' st.nx v x∧nx≤st.nx)
      (fun x w' Z' inj' k1 y u=>⟨x,Z',inj',rfl,k1,y,u,z⟩) m w' Z' inj' a' b.slots b.heap g2 b.nodup (fun D r=>⟨b.marks D r,(g5 D r).resolve_left qe⟩)
    rcases hx with rfl | rfl
    · show LeavesInM (Fw none) 0 P fn a'.tmps _ a'.defers .returning w'
      rw [b.defs];exact q
    · show LeavesInM (Fw none) 0 P fn a'.tmps _ a'.defers .returning w'
      rw [b.defs];exact q
end
theorem qpa {f : FuncId} {l : List V} {hp hp' hp1 : List (Nat × Blk)} {nx nx' nx1 : Nat} {v d : V} {ρ : Nat→Nat} {fz ph : List Nat} (h : Jb P f l hp nx v hp' nx') (m : Wk nx ρ fz ph {sl:=[(0,v)],hp:=hp',nx:=nx'} {sl:=[(0,d)],hp:=hp1,nx:=nx1}) : Jb P f l hp nx d hp1 nx1:=by
  refine ⟨h.1,fun w Z inj xs q p=>(h.2 w Z inj xs q p).mono ?_⟩
  rintro e w' ⟨x,Z',inj',rfl,g,n,r,s⟩
  have b : RelS w' Z' inj' {sl:=[(0,v)],hp:=hp',nx:=nx'} {tmps:=#[x],defers:=[]} []:=by
    refine ⟨fun t u c=>?_,g,rfl,List.nodup_nil,qe⟩
    rw [Kk] at c
    split at c
    · rename_i e;subst e;cases c;exact ⟨x,rfl,r⟩
    · simp [find] at c
  obtain ⟨a,j⟩:=q1s b m
  obtain ⟨y,k,o⟩:=a.slots 0 d (by simp [find])
  simp at k;subst k
  exact ⟨x,_,_,rfl,a.heap,n.trans j (Nat.le_refl _),o,m.bs⟩
theorem qpc (w : Yr P T) (hm : P.follows .mixedOrders = true) {f : FuncId} {u : List V} {hp : List (Nat × Blk)} {nx : Nat} {v : V} {hp' : List (Nat × Blk)} {nx' : Nat} (h : K0 P T f u hp nx v hp' nx') : Jb P f u hp nx v hp' nx':=by
  refine K0.rec (motive_1:=fun base c st ex st' _=>Kp P base c st ex st') (motive_2:=fun base ops dr l st st' _=>Uw P base ops dr l st st') (motive_3:=fun f u hp nx v hp' nx' _=>Jb P f u hp nx v hp' nx')
    ?_ ?_ ?_ ?_ ?_ ?_ ?_ ?_ ?_ ?_ ?_ ?_ ?_ ?_ ?_ ?_ ?_ ?_ ?_ ?_ ?_ ?_ ?_ ?_ ?_ ?_ h
  · exact qpw
  · exact fun _ _ a d=>qpu a d
  · exact fun _ t a=>qpv a t
  · exact fun k _ a=>qpm k a
  · exact fun k _ a=>qpl k a
  · exact fun _ a=>qpk a
  · exact qpn
  · exact qpt
  · exact fun _ _ a d=>qpo a d
  · exact fun _ t a=>qpp a t
  · exact fun _ a=>qpr a
  · exact fun _ hd a=>qps hm a hd
  · exact fun s _ a=>qpx s a
  · exact fun b _ o ad ae a=>qpq b a o ad ae
  · exact fun {_ _ dr _}=>by cases dr <;> exact .nil
  · exact fun b _ a=>qpi b a
  · exact fun b g o _ a=>qpg w b g o a
  · exact fun b g _ hn hh o y _ a=>qph w b g hn hh o y a
  · exact fun b g k af _ z aa hs y _ a d=>qpf b g k af a z aa hs y d
  · exact fun b g k _ _ a d=>Zb.cons (q11y b g k a) d
  · exact fun b g k j x _ ac hb _ a d=>Zb.cons (qrl b g k j x a ac hb) d
  · exact fun b g q ai n p j _ ag _ ah _ a d h3=>Zb.cons (qro b g q ai n p j a ag d ah) h3
  · exact fun s _ a=>Zb.wk s a
  · exact fun hp _ _ a d=>Jc.piv hp a d
  · exact fun o hb m ab n _ t r a=>qpb w o hb m ab n a t r
  · exact fun _ s a=>qpa a s
end Go.Am
namespace Go.Am
open Go
open Go.ChangeShapes Go.WideShapes Go.ChangeAt Go.RowKit Go.Deep
inductive CT where
  | int (k : IntKind)
  | bool
  | str
  | sl (l : List CT)
def qaz (P : Program) (f : TypeId→Option (List CT)) : Nat→List Field→Option (List CT)
  | _,[]=>some []
  | o,x::r=>match f x.type with
    | some a=>if x.offset = o∧P.cellsOf x.type = a.length then
        match qaz P f (o + a.length) r with
        | some b=>some (a ++ b)
        | none=>none
      else none
    | none=>none
def tyL (P : Program) : Nat→TypeId→Option (List CT)
  | 0,_=>none
  | f + 1,t=>match P.underlying t with
    | some .bool=>some [.bool]
    | some (.int k)=>some [.int k]
    | some .string=>some [.str]
    | some (.slice e)=>match tyL P f e with
      | some l=>if l.length = P.cellsOf e∧l.length≠0 then some [.sl l] else none
      | none=>none
    | some (.struct fs)=>match qaz P (tyL P f) 0 fs.toList with
      | some l=>if l.length = P.cellsOf t then some l else none
      | none=>none
    | _=>none
inductive Ty : CT→DV→Prop
  | int {k : IntKind} {n : Int} : (Lit.int k n).wf = true→Ty (.int k) (.int k n)
  | bool (b : Bool) : Ty .bool (.bool b)
  | str {s : ByteArray} : s.size≤maxLen→Ty .str (.str s)
  | nil (l : List CT) : Ty (.sl l) .nilsl
  | sl {l : List CT} {xs : List (List DV)} : xs.length≤maxLen→(∀ (i : Nat) (x : List DV),xs[i]? = some x→x.length = l.length)→
      (∀ (i : Nat) (x : List DV) (j : Nat) (c : CT) (d : DV),xs[i]? = some x→l[j]? = some c→x[j]? = some d→Ty c d)→Ty (.sl l) (.sl l.length xs)
section
variable {H : Type} {enc : TypeId × Value→H} {P : Program} {w : World} {base : Nat} {held : Bool}
def ZC (w : World) (b : Nat) : Prop:=∃ c e f,w.heap[b]? = some (.cells c e f)
theorem Ty.cell {c : CT} {d : DV} (h : Ty c d) : Y6 d = true:=by cases h <;> rfl
def Reads (w : World) (l : List CT) (cs : List Value) : Prop:=
  cs.length = l.length∧∃ ds : List DV,ds.length = l.length∧∀ (j : Nat) (c : CT) (v : Value),l[j]? = some c→cs[j]? = some v→∃ d,ds[j]? = some d∧Ty c d∧RelD w (ZC w) d v
theorem q5x {c : CT} {v : Value} {d : DV} (g : Ty c d) (f : RelD w (ZC w) d v) : Reads w [c] [v]:=by
  refine ⟨rfl,[d],rfl,fun j h k a b=>?_⟩
  cases j with
  | zero=>simp at a b;subst a b;exact ⟨d,rfl,g,f⟩
  | succ j=>simp at a
theorem qvt {l l' : List CT} {cs a : List Value} (h : Reads w l cs) (p : Reads w l' a) : Reads w (l ++ l') (cs ++ a):=by
  obtain ⟨o,ds,n,t⟩:=h
  obtain ⟨b1,g,q,s⟩:=p
  refine ⟨by simp [o,b1],ds ++ g,by simp [n,q],fun j c v b f=>?_⟩
  by_cases r : j < l.length
  · rw [List.getElem?_append_left r] at b
    rw [List.getElem?_append_left q0] at f
    obtain ⟨d,k,m⟩:=t j c v b f
    exact ⟨d,by rw [List.getElem?_append_left q0];exact k,m⟩
  · rw [List.getElem?_append_right q0] at b
    rw [List.getElem?_append_right q0,o] at f
    obtain ⟨d,k,m⟩:=s _ c v b f
    exact ⟨d,by rw [List.getElem?_append_right q0,n];exact k,m⟩
theorem qo1 {f : TypeId→Option (List CT)} {g : Field→List Value→Prop} (d : ∀ (x : Field) (l : List CT) (cs : List Value),f x.type = some l→g x cs→Reads w l cs) :
    ∀ (j : List Field) (o : Nat) (l : List CT) (cs : List Value),qaz P f o j = some l→o + l.length = cs.length→(∀ x∈j,g x ((cs.drop x.offset).take (P.cellsOf x.type)))→Reads w l (cs.drop o)
  | [],o,l,cs,h,hl,_=>by
    simp [qaz] at h;subst h
    simp at hl
    rw [hl]
    exact ⟨qe,[],rfl,qe⟩
  | x::r,o,l,cs,h,hl,hx=>by
    simp only [qaz] at h
    split at h <;> try simp at h
    rename_i a p
    obtain ⟨⟨n,m⟩,h⟩:=h
    split at h <;> simp at h
    rename_i b hb
    subst h
    have c:=d x a _ p (hx x qe)
    rw [n,m] at c
    have q:=qo1 d r (o + a.length) b cs hb (by simp at hl;omega) (fun y k=>hx y (by simp [k]))
    have:=qvt c q
    rw [← List.drop_drop] at this
    rwa [List.take_append_drop] at this
theorem qdb : ∀ (f : Nat) (t : TypeId) (l : List CT) (fuel : Nat) (cs : List Value) (x : DataW H × List MemPlace),tyL P f t = some l→DataW.trod enc P w base (fun _=>true) held fuel t cs = some x→Reads w l cs
  | 0,t,l,fuel,cs,x,hl,h=>by simp [tyL] at hl
  | f + 1,t,l,fuel,cs,x,hl,h=>by
    simp only [tyL] at hl
    split at hl <;> try simp at hl
    · rename_i ht
      subst hl
      cases fuel with
      | zero=>simp [DataW.trod] at h
      | succ n=>
        unfold DataW.trod at h
        rw [ht] at h
        split at h <;> simp_all
        exact q5x (.bool _) (.bool _)
    · rename_i k ht
      subst hl
      obtain ⟨n,rfl,_,hw⟩:=DataW.trod_int ht h
      exact q5x (.int hw) (.int _ _)
    · rename_i ht
      subst hl
      cases fuel with
      | zero=>simp [DataW.trod] at h
      | succ n=>
        unfold DataW.trod at h
        rw [ht] at h
        split at h <;> simp_all
        exact q5x (.str q0) (.str _)
    · rename_i e ht
      split at hl <;> simp at hl
      rename_i le am
      obtain ⟨⟨u,au⟩,rfl⟩:=hl
      rcases open_slice ht h with ⟨rfl,_⟩ | ⟨a,len,cap,m,n,D,Pl,rfl,_,aq,bg,hm,_,ap⟩
      · exact q5x (.nil _) .nilsl
      · obtain rfl : cap = m:=by simpa using hm.symm
        have elem : ∀ i,i < cap→∃ p,w.cells? base (a.add (i * P.cellsOf e)) (P.cellsOf e) = some p∧Reads w le p:=by
          intro i hi
          obtain ⟨p,h1,h2⟩:=ap i hi
          exact ⟨p,h1,qdb f e le n p _ am h2⟩
        have ax : 0 < P.cellsOf e:=by rw [← u];exact List.length_pos_iff.2 au
        by_cases ao : cap = 0
        · subst ao
          have : len = 0:=by omega
          subst this
          exact q5x (.sl (xs:=[]) qe qe qe) (.slemp _ _)
        · have ac : a.spot = none∧ZC w a.block:=by
            obtain ⟨p,h1,_⟩:=elem 0 q0
            obtain ⟨_,h2,h3⟩:=World.cells?_some h1
            have:=h3 0 q0
            obtain ⟨v,hv⟩:=Z8 (xs:=p) (i:=0) q0
            rw [hv] at this
            simp [World.cell?,Addr.add] at this
            split at this <;> try simp at this
            rename_i c e' f' hc
            exact ⟨this.1,c,e',f',hc⟩
          obtain ⟨b,o,sp⟩:=a
          obtain ⟨ak,hz⟩:=ac
          simp only at ak hz;subst ak
          have ae : ∀ i,i < len→∃ ds : List DV,ds.length = le.length∧∀ (j : Nat) (c : CT),le[j]? = some c→∃ d v,ds[j]? = some d∧Ty c d∧w.cell? ⟨b,o + (i * le.length + j),none⟩ = some v∧RelD w (ZC w) d v:=by
            intro i hi
            obtain ⟨p,h1,h4,ds,h5,h6⟩:=elem i q0
            obtain ⟨_,h2,h3⟩:=World.cells?_some h1
            refine ⟨ds,h5,fun j c hj=>?_⟩
            have bj:=K3 hj
            obtain ⟨v,hv⟩:=Z8 (xs:=p) (i:=j) q0
            obtain ⟨d,z,g2,g3⟩:=h6 j c v hj hv
            have:=h3 j q0
            rw [hv,Jh,Jh,← u,Nat.add_assoc] at this
            exact ⟨d,v,z,g2,this,g3⟩
          obtain ⟨F,hF⟩:=choose_lt ae
          have q : ∀ (i : Nat) (x : List DV),((List.range len).map F)[i]? = some x→i < len∧x = F i:=by
            intro i x s
            simp only [List.getElem?_map,Option.map_eq_some_iff] at s
            obtain ⟨k,hk,rfl⟩:=s
            have hi : i < len:=by simpa using K3 hk
            rw [List.getElem?_range hi] at hk
            cases hk
            exact ⟨hi,rfl⟩
          have r : ((List.range len).map F).length = len:=by simp
          have ab : RelD w (ZC w) (.sl le.length ((List.range len).map F)) (.slice (some ⟨b,o,none⟩) ((List.range len).map F).length cap):=by
            refine .sl (by rw [r];exact aq) (fun _=>hz) ?_ ?_ ?_
            · intro i x s
              obtain ⟨hi,rfl⟩:=q i x s
              exact (hF i hi).1
            · intro i x j d s hd
              obtain ⟨hi,rfl⟩:=q i x s
              obtain ⟨c,hc⟩:=Z8 (xs:=le) (i:=j) (by rw [← (hF i hi).1];exact K3 hd)
              obtain ⟨d',v,z,g2,g3,g4⟩:=(hF i hi).2 j c hc
              rw [hd] at z;cases z
              exact ⟨g2.cell,v,g3⟩
            · intro i x j d v s hd hv
              obtain ⟨hi,rfl⟩:=q i x s
              obtain ⟨c,hc⟩:=Z8 (xs:=le) (i:=j) (by rw [← (hF i hi).1];exact K3 hd)
              obtain ⟨d',v',z,g2,g3,g4⟩:=(hF i hi).2 j c hc
              rw [hd] at z;cases z
              rw [hv] at g3;cases g3
              exact g4
          rw [r] at ab
          refine q5x (.sl (by rw [r];omega) ?_ ?_) ab
          · intro i x s
            obtain ⟨hi,rfl⟩:=q i x s
            exact (hF i hi).1
          · intro i x j c d s hc hd
            obtain ⟨hi,rfl⟩:=q i x s
            obtain ⟨d',v,z,g2,_⟩:=(hF i hi).2 j c hc
            rw [hd] at z;cases z
            exact g2
    · rename_i fs ht
      split at hl <;> simp at hl
      rename_i l' ar
      obtain ⟨u,rfl⟩:=hl
      obtain ⟨xs,n,_,_,bn,bb,hf⟩:=DataW.trod_struct ht h
      have:=qo1 (P:=P) (w:=w) (f:=tyL P f) (g:=fun x cs=>∃ y,DataW.trod enc P w base (fun _=>true) held n x.type cs = some y) (fun x l cs h1 ⟨y,h2⟩=>qdb f x.type l n cs y h1 h2) fs.toList 0 l' cs ar q0 ?_
      · simpa using this
      · intro x s
        obtain ⟨i,hi⟩:=List.getElem?_of_mem s
        have:=hf i x (by simpa using hi)
        obtain ⟨y,hy⟩:=Z8 (xs:=xs) (i:=i) (by have:=K3 hi;simp at this;omega)
        exact ⟨y,by rw [this];exact hy⟩
end
end Go.Am
namespace Go.Am
open Go
open Go.ChangeShapes Go.WideShapes Go.ChangeAt Go.RowKit Go.Deep
theorem q12h {P : Program} {l : List (Nat × TI)} (h : l.map (fun x=>tiOf P x.1) = l.map (fun x=>some x.2)) : Yr P (qnx l):=by
  intro t i b
  have a:=Zp (show find l t = some i from b)
  obtain ⟨k,c⟩:=List.getElem?_of_mem a
  have:=congrArg (fun r=>r[k]?) h
  simp only [List.getElem?_map,c,Option.map_some] at this
  exact Option.some.inj this
def aggT (P : Program) (t : TypeId) : Bool:=match P.underlying t with
  | some (.struct _) | some (.array _ _)=>true
  | _=>false
inductive Ja : List (Bool × List CT)→List DV→Prop
  | nil : Ja [] []
  | one {c : CT} {d : DV} {ps : List (Bool × List CT)} {ds : List DV} : Ty c d→Ja ps ds→Ja ((false,[c])::ps) (d::ds)
  | agg {l : List CT} {xs : List DV} {ps : List (Bool × List CT)} {ds : List DV} : xs.length = l.length→(∀ (j : Nat) (c : CT) (d : DV),l[j]? = some c→xs[j]? = some d→Ty c d)→Ja ps ds→Ja ((true,l)::ps) (.agg xs::ds)
section
variable {H : Type} {enc : TypeId × Value→H} {P : Program} {T : Tab} {W : World} {base : Nat}
theorem qot {t : TypeId} {f : Nat} {l : List CT} {v : Value} {d : DataW H} {p : List MemPlace} (q : aggT P t = false) (o : tyL P f t = some l) (g : Value.okWide P W .any base t v) (h : DataW.Trod enc P W 0 (fun _=>true) true t v d p) :
    ∃ c x,l = [c]∧Ty c x∧RelD W (ZC W) x v:=by
  obtain ⟨fuel,hf⟩:=h
  have m:=qdb f t l fuel _ _ o hf
  have key : v.cells = #[v]→∃ c,l = [c]→∃ x,Ty c x∧RelD W (ZC W) x v:=by
    intro w
    rw [w] at m
    obtain ⟨h1,ds,z,u⟩:=m
    match l,h1 with
    | [c],_=>
      obtain ⟨x,_,r,y⟩:=u 0 c v rfl rfl
      exact ⟨c,fun _=>⟨x,r,y⟩⟩
  have fin : v.cells = #[v]→∃ c x,l = [c]∧Ty c x∧RelD W (ZC W) x v:=by
    intro w
    have j:=m.1
    rw [w] at j m
    match l,j,m with
    | [c],_,m=>
      obtain ⟨_,ds,z,u⟩:=m
      obtain ⟨x,_,r,y⟩:=u 0 c v rfl rfl
      exact ⟨c,x,rfl,r,y⟩
  cases f with
  | zero=>simp [tyL] at o
  | succ f=>
    simp only [tyL] at o
    split at o <;> try simp at o
    · rename_i a;obtain ⟨b,rfl⟩:=okWide_bool a g;exact fin rfl
    · rename_i k a;obtain ⟨n,rfl⟩:=okWide_int a g;exact fin rfl
    · rename_i a;obtain ⟨s,rfl⟩:=okWide_string a g;exact fin rfl
    · rename_i e a;obtain ⟨a0,len,cap,rfl⟩:=okWide_slice a g;exact fin rfl
    · rename_i fs a;simp [aggT,a] at q
theorem qos {t : TypeId} {f : Nat} {l : List CT} {v : Value} {d : DataW H} {p : List MemPlace} (b : aggT P t = true) (y : tyL P f t = some l) (a : Value.okWide P W .any base t v) (h : DataW.Trod enc P W 0 (fun _=>true) true t v d p) :
    ∃ xs : List DV,xs.length = l.length∧(∀ (j : Nat) (c : CT) (d : DV),l[j]? = some c→xs[j]? = some d→Ty c d)∧RelD W (ZC W) (.agg xs) v:=by
  obtain ⟨fuel,hf⟩:=h
  have r : ∃ cs,v = .agg cs:=by
    unfold aggT at b
    unfold Value.okWide at a
    split at b
    · rename_i o;simp only [o] at a;obtain ⟨cs,h,_⟩:=a;exact ⟨cs,h⟩
    · rename_i o;simp only [o] at a;obtain ⟨cs,h,_⟩:=a;exact ⟨cs,h⟩
    · simp at b
  obtain ⟨cs,rfl⟩:=r
  obtain ⟨s,ds,n,q⟩:=qdb f t l fuel _ _ y hf
  simp only [Value.cells] at s q
  refine ⟨ds,n,fun j c d k hd=>?_,.agg (by simpa [n] using s.symm) fun j d c hd k=>?_⟩
  · obtain ⟨v,r⟩:=Z8 (xs:=cs.toList) (i:=j) (by rw [s];exact K3 k)
    obtain ⟨z,g,x,_⟩:=q j c v k r
    rw [hd] at g;cases g;exact x
  · obtain ⟨u,m⟩:=Z8 (xs:=l) (i:=j) (by rw [← n];exact K3 hd)
    obtain ⟨z,g,_,w⟩:=q j u c m (by simpa using k)
    rw [hd] at g;cases g;exact w
theorem qhd {f : Nat} : ∀ (o : List TypeId) (b : List (Bool × List CT)) (m : List Value) (ds : List (DataW H)) (p : List MemPlace),o.map (fun t=>(aggT P t,tyL P f t)) = b.map (fun x=>(x.1,some x.2))→
    (∀ (j : Nat) t v,o[j]? = some t→m[j]? = some v→Value.okWide P W .any base t v)→DataW.TrodAll enc P W 0 (fun _=>true) true o m ds p→
    ∃ xs : List DV,Ja b xs∧xs.length = m.length∧∀ (j : Nat) (x : DV) (v : Value),xs[j]? = some x→m[j]? = some v→RelD W (ZC W) x v
  | [],b,m,ds,p,hp,hok,h=>by
    obtain ⟨rfl,rfl,rfl⟩:=trodAll_nil h
    cases b with
    | nil=>exact ⟨[],.nil,rfl,qe⟩
    | cons _ _=>simp at hp
  | t::o,b,m,ds,p,hp,hok,h=>by
    obtain ⟨v,w,d,r,q,q',rfl,rfl,rfl,h1,h2⟩:=trodAll_cons h
    cases b with
    | nil=>simp at hp
    | cons pr b=>
      obtain ⟨ag,l⟩:=pr
      simp only [List.map_cons,List.cons.injEq,Prod.mk.injEq] at hp
      obtain ⟨⟨n,hl⟩,hp⟩:=hp
      obtain ⟨xs,g1,g2,g3⟩:=qhd o b w r q' hp (fun j t v ht hv=>hok (j + 1) t v (by simpa using ht) (by simpa using hv)) h2
      have a:=hok 0 t v rfl rfl
      cases ag with
      | false=>
        obtain ⟨c,x,rfl,z,s⟩:=qot n hl a h1
        refine ⟨x::xs,.one z g1,by simp [g2],fun j y u g k=>?_⟩
        cases j with
        | zero=>simp at g k;subst g k;exact s
        | succ j=>exact g3 j y u (by simpa using g) (by simpa using k)
      | true=>
        obtain ⟨zs,k0,z,s⟩:=qos n hl a h1
        refine ⟨.agg zs::xs,.agg k0 z g1,by simp [g2],fun j y u g k=>?_⟩
        cases j with
        | zero=>simp at g k;subst g k;exact s
        | succ j=>exact g3 j y u (by simpa using g) (by simpa using k)
theorem q135 {F : FuncId} {l : Array Value} {xs : List DV} (hT : Yr P T) (u : P.follows .mixedOrders = true) (hp : Pure P T F xs (.bool true)) (z : xs.length = l.size) (hr : ∀ (j : Nat) (x : DV) (v : Value),xs[j]? = some x→l[j]? = some v→RelD W (ZC W) x v) :
    Calls P F l W fun e g=>e = .returned (.bool true)∧Grown W g∧Below W.heap.size W g:=by
  obtain ⟨v,hp',nx',r',t,r,p⟩:=hp
  have hg:=qpc hT u t
  have h0 : RelH W (ZC W) (fun _=>none) [] 0:=⟨fun _ _ h=>by simp [find] at h,fun _ _ _ _ _ _ h=>by simp [find] at h,fun _ _ _ h=>by simp [find] at h,
    fun b ⟨c,e,f,h⟩=>Zw h,fun b h=>h⟩
  have w:=hg.2 W (ZC W) (fun _=>none) l h0 ⟨by simpa using z,fun j x v s q=>by
    simp only [List.getElem?_map,Option.map_eq_some_iff] at s
    obtain ⟨y,hy,rfl⟩:=s
    exact .d (hr j y v hy q)⟩
  refine (callsIn_wide (n:=0).1 w).mono ?_
  rintro e g ⟨x,Z',inj',rfl,hh,a,q,hn⟩
  have hD:=(qb0 hh 8 r q).le p
  cases hD
  have m : ∀ k,k < W.heap.size→g.heap[k]? = W.heap[k]?:=fun k m=>a.keep k m (by rintro ⟨n,blk,o,h1,_⟩;simp [find] at h1)
  refine ⟨rfl,⟨⟨a.os,a.output,fun i hi=>?_⟩,a.frz,a.size⟩,⟨a.os,a.tape,a.output,a.size,m⟩⟩
  rw [m i hi]
  cases hw : W.heap[i]? with
  | none=>simp
  | some o=>cases o <;> simp
theorem qhe (a : laidOutB P = true) {l : World} {k : Nat→Bool} : ∀ (b : List TypeId) (f : List Value) (ds : List (DataW H)) (p : List MemPlace),(∀ t∈b,P.readableRec t = true∧t < P.types.size)→DataW.TrodAll enc P W 0 (fun _=>true) true b f ds p→
    Below W.heap.size W l→(∀ x∈p,x.block < W.heap.size∧k x.block = true)→DataW.TrodAll enc P l 0 k true b f ds p
  | [],f,ds,p,_,h,_,_=>by obtain ⟨rfl,rfl,rfl⟩:=trodAll_nil h;exact trodAll_mk0
  | t::b,f,ds,p,ht,h,hb,hp=>by
    obtain ⟨v,j,d,g,q,n,rfl,rfl,rfl,r,o⟩:=trodAll_cons h
    refine trodAll_cons_mk (WideElems.Trod_stays a (ht t qe).1 (ht t qe).2 r (fun x c=>hb.same (hp x (by simp [c])).1) (fun x c=>(hp x (by simp [c])).2))
      (qhe a b j g n (fun u m=>ht u (by simp [m])) o hb (fun x c=>hp x (by simp [c])))
theorem contract {f : Func} {F : FuncId} {s : ChangeSpec} {tb : TypeId} {fuel : Nat} {ps : List (Bool × List CT)} (hT : Yr P T) (hm : P.follows .mixedOrders = true) (z : laidOutB P = true)
    (a : s.vars = []) (c : f.resultTypes = #[tb]) (r : P.underlying tb = some .bool) (k : ∀ t∈f.params.toList,P.readableRec t = true∧t < P.types.size)
    (ah : f.params.toList.map (fun t=>(aggT P t,tyL P fuel t)) = ps.map (fun x=>(x.1,some x.2)))
    (hs : ∀ ds : List (DataW H),ds.length = f.params.size→s.fn H ds = {results:=[.lit (.bool true)],args:=ds})
    (l : ∀ xs,Ja ps xs→Pure P T F xs (.bool true))
    {args : Array Value} {ds gs : List (DataW H)} {before : List MemPlace} (w : ∀ (j : Nat) t v,f.params[j]? = some t→args[j]? = some v→Value.okWide P W .any base t v)
    (hW : DataW.Whole enc P f.params.toList s.vars false W args.toList ds gs before) :
    Calls P F args W fun e W'=>∃ v,e = .returned v∧s.post enc P f false true false false W args v W':=by
  have m:=hW
  obtain ⟨p,q,hA,hV,rfl,ay,aq⟩:=hW
  rw [a] at hV
  obtain ⟨rfl,rfl⟩:=trodVars_none hV
  have o:=m.lt
  simp only [List.append_nil] at m o
  obtain ⟨xs,g1,g2,g3⟩:=qhd (base:=base) f.params.toList ps args.toList ds p ah (fun j t v ht hv=>w j t v (by simpa using ht) (by simpa using hv)) hA
  refine (q135 hT hm (l xs g1) (by simpa using g2) (fun j x v hx hv=>g3 j x v hx (by simpa using hv))).mono ?_
  rintro e W' ⟨rfl,hg,hb⟩
  have y : ds.length = f.params.size:=by
    have : ∀ (u : List TypeId) (vs : List Value) (ds : List (DataW H)) (p : List MemPlace),DataW.TrodAll enc P W 0 (fun _=>true) true u vs ds p→ds.length = u.length:=by
      intro u
      induction u with
      | nil=>intro vs ds p h;obtain ⟨_,rfl,_⟩:=trodAll_nil h;rfl
      | cons t u ih=>intro vs ds p h;obtain ⟨v,an,d,am,q,q',rfl,rfl,rfl,_,h2⟩:=trodAll_cons h;simp [ih _ _ _ h2]
    simpa using this _ _ _ _ hA
  have g:=hs (ds ++ []) (by simpa using y)
  refine ⟨_,rfl,post_of_same (pa:=p) (pv:=[]) m ?_ ?_ ?_ qe (hg.frame _) hg.2.1 (ok_one c rfl (okWide_bool_mk r _))⟩
  · intro b sp hd
    rw [c,g]
    exact trodAll_cons_mk (shut_bool r _) trodAll_mk0
  · intro sp n
    rw [g]
    show DataW.TrodAll enc P W' 0 sp true f.params.toList args.toList (ds ++ []) p
    rw [List.append_nil]
    exact qhe z _ _ _ _ k hA hb fun x hx=>⟨o x hx,n x hx⟩
  · intro sp n
    rw [g,a]
    rfl
end
end Go.Am
namespace Go.Am
open Go
variable {P : Program} {T : Tab}
section
variable {base : Nat} {ops : Array Oper} {dr : Dr} {l : List Oper} {sl sl1 : List (Nat × V)} {hp hp1 : List (Nat × Blk)} {nx nx1 : Nat} {K : AS→Prop} {ty : TypeId} {pos : String} {af : Array Edge} {t : Tmp} {g : Option (Nat × Bool)} {v : V}
theorem qrf {st : AS} {op : Op} (h : touch op = 0) : fp st op = (some [],[]):=by
  unfold touch at h
  split at h <;> first | rfl | (simp at h;done) | (exact absurd h qs)
theorem qt7 {dr : Dr} {k : Nat} {st st1 : AS} {t : TypeId} {p : Operand} (h : okF dr k (fp st (.load t p)) = true) : okO dr k st (.load t p) st1 = true:=by
  cases dr with
  | none=>rfl
  | some F=>simp only [okF] at h;simp only [okO,h,Bool.true_and,q35,touch]
theorem qky {dr : Dr} {k n es : Nat} {st st1 : AS} {op : Op} {xs : List (List DV)} {r : List (Nat × Blk)} (a : st1.hp = (n,.dat es xs)::r) (h : okF dr k (fp st op) = true) : okO dr k st op st1 = true:=by
  cases dr with
  | none=>rfl
  | some F=>
    simp only [okF] at h
    simp only [okO,h,Bool.true_and,q35,a]
    split <;> rfl
theorem J3 {dr : Dr} {k : Nat} {st st1 : AS} {op : Op} (h : touch op = 0) : okO dr k st op st1 = true:=by
  cases dr with
  | none=>rfl
  | some F=>simp only [okO,qrf h,qja,Bool.true_and,q35,h]
theorem fin {ex : Ex} {st : AS} {b : List ResultVar} {v : V} {r a : DV} (c : ex = .nor∨ex = .ret) (f : resV T st b = some v) (d : toD st.hp 8 v = some a) (g : a = r) : (ex = .nor∨ex = .ret)∧∃ v a,resV T st b = some v∧toD st.hp 8 v = some a∧DLe a r:=
  ⟨c,v,a,f,d,g ▸ .refl _⟩
theorem qtc {x y : Operand} {a : TypeId} {i : TI} {k : IntKind} {n : Int} {m es off len : Nat} (f : Qo ops ⟨sl,hp,nx⟩ ⟨some t,.indexAddr a x y,ty,pos,af,g⟩ = some true) (b : T a = some i)
    (o : AS.ev ⟨sl,hp,nx⟩ x = some (.hs m es off len)) (c : AS.ev ⟨sl,hp,nx⟩ y = some (.d (.int k n))) (p : i.kind = .slice) (q : es = i.esize) (j : 0≤n) (hi : n < len)
    (h : OpsK P T base ops dr l ⟨(t,.ref m es (off + n.toNat) 0)::sl,hp,nx⟩ K) : OpsK P T base ops dr (⟨some t,.indexAddr a x y,ty,pos,af,g⟩::l) ⟨sl,hp,nx⟩ K:=
  Y3 f (v:=.ref m es (off + n.toNat) 0) (st1:=⟨sl,hp,nx⟩) (by simp [opFn,o,c,b,q3d,p,q,j,hi]) h (J3 rfl)
theorem ql0 {p : Operand} {b : TypeId} {i : TI} {m es a j : Nat} {xs : List (List DV)} {cs r : List DV} {w : V} (k : Qo ops ⟨sl,hp,nx⟩ ⟨some t,.load b p,ty,pos,af,g⟩ = some true) (c : T b = some i)
    (o : AS.ev ⟨sl,hp,nx⟩ p = some (.ref m es a j)) (hb : find hp m = some (.dat es xs)) (hi : xs[a]? = some cs) (hs : sub cs j i.size = some r) (n : (q1f i.agg r).map .d = some w)
    (h : OpsK P T base ops dr l ⟨(t,w)::sl,hp,nx⟩ K) (f : okF dr l.length (fp ⟨sl,hp,nx⟩ (.load b p)) = true:=by rfl) : OpsK P T base ops dr (⟨some t,.load b p,ty,pos,af,g⟩::l) ⟨sl,hp,nx⟩ K:=
  Y3 k (v:=w) (st1:=⟨sl,hp,nx⟩) (by simp only [opFn,o,c,Jp,AS.blk,hb,Nat.beq_refl,hi,hs,n,Option.map_some]) h (qt7 f)
end
end Go.Am
namespace Go.Am
open Go
variable {P : Program} {T : Tab}
section
variable {base : Nat} {ops : Array Oper} {dr : Dr} {l : List Oper} {sl : List (Nat × V)} {hp : List (Nat × Blk)} {nx : Nat} {K : AS→Prop} {ty : TypeId} {pos : String} {af : Array Edge} {t : Tmp} {g : Option (Nat × Bool)} {v : V}
theorem Qv {a : TypeId} {i : TI} (b : Qo ops ⟨sl,hp,nx⟩ ⟨some t,.alloc a,ty,pos,af,g⟩ = some true) (c : T a = some i)
    (h : OpsK P T base ops dr l ⟨(t,.ref nx i.size 0 0)::sl,(nx,.dat i.size [i.zero])::hp,nx + 1⟩ K) (d : okF dr l.length (fp ⟨sl,hp,nx⟩ (.alloc a)) = true:=by rfl) : OpsK P T base ops dr (⟨some t,.alloc a,ty,pos,af,g⟩::l) ⟨sl,hp,nx⟩ K:=
  Y3 b (v:=.ref nx i.size 0 0) (st1:=⟨sl,(nx,.dat i.size [i.zero])::hp,nx + 1⟩) (by simp only [opFn,c,Option.map_some];rfl) h (qky rfl d)
theorem qt8 {x y : Operand} {a b : TypeId} {i j : TI} {n es len : Nat} {xs ys : List (List DV)} {c : V} (r : Qo ops ⟨sl,hp,nx⟩ ⟨some t,.call {callee:=.builtin .append,args:=#[x,y],argTypes:=#[a,b]},ty,pos,af,g⟩ = some true)
    (k : T a = some i) (d : T b = some j) (u : AS.ev ⟨sl,hp,nx⟩ x = some (.hs n es 0 len)) (m : AS.ev ⟨sl,hp,nx⟩ y = some c) (hb : find hp n = some (.dat es xs)) (s : len = xs.length) (o : Yo ⟨sl,hp,nx⟩ c = some ys)
    (z : i.kind = .slice) (f : j.kind = .slice) (he : es = i.esize) (w : Zo i.esize c = true) (p : (len + ys.length) * (i.ebytes * 4)≤4294967296)
    (h : OpsK P T base ops dr l ⟨(t,.hs nx es 0 (len + ys.length))::sl,(nx,.dat es (xs ++ ys))::repl hp n .dead,nx + 1⟩ K) (q : okF dr l.length (fp ⟨sl,hp,nx⟩ (.call {callee:=.builtin .append,args:=#[x,y],argTypes:=#[a,b]})) = true:=by rfl) : OpsK P T base ops dr (⟨some t,.call {callee:=.builtin .append,args:=#[x,y],argTypes:=#[a,b]},ty,pos,af,g⟩::l) ⟨sl,hp,nx⟩ K:=by
  refine Y3 r (v:=.hs nx es 0 (len + ys.length)) (st1:=⟨sl,(nx,.dat es (xs ++ ys))::repl hp n .dead,nx + 1⟩) ?_ h (qky rfl q)
  subst s
  have e : ((xs.drop 0).take xs.length ++ ys) = xs ++ ys:=by simp
  simp only [opFn,evL,u,m,Kw]
  simp only [List.getElem?_toArray,List.getElem?_cons_zero,List.getElem?_cons_succ,k,d]
  rw [if_pos ⟨z,f,w⟩]
  simp only [Ys,AS.blk,hb,o]
  rw [if_pos ⟨q0,trivial,p,he⟩,e]
  rfl
theorem qfq {x : Operand} (a : Qo ops ⟨sl,hp,nx⟩ ⟨some t,.move x,ty,pos,af,g⟩ = some true) (b : AS.ev ⟨sl,hp,nx⟩ x = some v)
    (h : OpsK P T base ops dr l ⟨(t,v)::sl,hp,nx⟩ K) : OpsK P T base ops dr (⟨some t,.move x,ty,pos,af,g⟩::l) ⟨sl,hp,nx⟩ K:=
  Y3 a (v:=v) (st1:=⟨sl,hp,nx⟩) (by simp only [opFn,b,Option.map_some]) h (J3 rfl)
theorem qt9 {x : Operand} (a : Qo ops ⟨sl,hp,nx⟩ ⟨some t,.assign x,ty,pos,af,g⟩ = some true) (b : AS.ev ⟨sl,hp,nx⟩ x = some v)
    (h : OpsK P T base ops dr l ⟨(t,v)::sl,hp,nx⟩ K) : OpsK P T base ops dr (⟨some t,.assign x,ty,pos,af,g⟩::l) ⟨sl,hp,nx⟩ K:=
  Y3 a (v:=v) (st1:=⟨sl,hp,nx⟩) (by simp only [opFn,b,Option.map_some]) h (J3 rfl)
theorem q8 {op : Op} {j : Nat} {w : Bool} (a : Qo ops ⟨sl,hp,nx⟩ ⟨some t,op,ty,pos,af,some (j,w)⟩ = some false) (h : OpsK P T base ops dr l ⟨(t,.d (.tup []))::sl,hp,nx⟩ K) : OpsK P T base ops dr (⟨some t,op,ty,pos,af,some (j,w)⟩::l) ⟨sl,hp,nx⟩ K:=
  qtp a h
theorem qth {x : Operand} {a : TypeId} {i : TI} {es : Nat} {xs : List (List DV)} {m : Nat} (k : Qo ops ⟨sl,hp,nx⟩ ⟨some t,.call {callee:=.builtin .len,args:=#[x],argTypes:=#[a]},ty,pos,af,g⟩ = some true) (c : T a = some i) (j : i.kind = .slice) (f : AS.ev ⟨sl,hp,nx⟩ x = some (.d (.sl es xs))) (b : xs.length = m)
    (h : OpsK P T base ops dr l ⟨(t,.d (.int .i64 m))::sl,hp,nx⟩ K) : OpsK P T base ops dr (⟨some t,.call {callee:=.builtin .len,args:=#[x],argTypes:=#[a]},ty,pos,af,g⟩::l) ⟨sl,hp,nx⟩ K:=by
  subst b
  exact Y3 k (v:=.d (.int .i64 xs.length)) (st1:=⟨sl,hp,nx⟩) (by simp only [opFn,evL,f,Kw];simp only [List.getElem?_toArray,List.getElem?_cons_zero,c,j]) h (J3 rfl)
end
end Go.Am
