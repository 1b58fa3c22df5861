/- Am24 Am25 Am26 Am27 Am28 Am29 Am30 -/
import Derived.Test.YtbknppciefodiaaGreatK5
import Derived.ProofKit
import Derived.OpenShut
import Derived.Deep.Slices
namespace Go.Am
open Go
variable {P : Program}
section
variable {base : Nat} {ops : Array Oper}
theorem qd7 {l : Array Bool} {i : Nat} : l.getD i false = true↔l[i]? = some true:=by
  rw [Array.getD_eq_getD_getElem?]
  cases l[i]? <;> simp
theorem qae {l : Array Bool} {i : Nat} : l.getD i true = false↔l[i]? = some false:=by
  rw [Array.getD_eq_getD_getElem?]
  cases l[i]? <;> simp
theorem qsp {w : World} {Z : Nat→Prop} {inj : Inj} {hp hp2 : List (Nat × Blk)} {nx : Nat} (h : RelH w Z inj hp nx) (hs : ∀ m,find hp2 m = find hp m) : RelH w Z inj hp2 nx:=by
  refine ⟨fun n b hb=>h.blk n b (by rw [← hs];exact hb),fun n m b c p q h1 h2=>h.sep n m b c p q (by rw [← hs];exact h1) (by rw [← hs];exact h2),fun n b p h1=>h.out n b p (by rw [← hs];exact h1),h.zs,h.zc⟩
theorem qo2 {w w' : World} {Z Z' : Nat→Prop} {inj inj' : Inj} {hp hp' hp2 : List (Nat × Blk)} {pin : Nat} (h : Ext w Z inj hp w' Z' inj' hp' pin) (hs : ∀ m,find hp2 m = find hp' m) : Ext w Z inj hp w' Z' inj' hp2 pin:=
  {h with imm:=fun b hb=>h.imm b (by
      obtain ⟨n,c,o,h1,h2,h3⟩:=hb
      exact ⟨n,c,o,by rw [← hs];exact h1,h2,h3⟩)}
abbrev fpO (F : List Fp) (ops : Array Oper) (i : Nat) : Fp:=fpAt F (ops.size - (i + 1))
def CutS (ops : Array Oper) (listed : Array Bool) (t : Tmp) (m : Nat) : Prop:=∀ (i : Nat) (o : Oper),ops[i]? = some o→o.dst = some t→(listed[i]? = some true↔i < m)
def CutB (F : List Fp) (ops : Array Oper) (listed : Array Bool) (q m : Nat) : Prop:=∀ (i : Nat) (o : Oper),ops[i]? = some o→q∈(fpO F ops i).2→(listed[i]? = some true↔i < m)
structure Mid (F : List Fp) (ops : Array Oper) (S : Nat→AS) (lo hi : Nat) (listed : Array Bool) (st : AS) : Prop where
  nx : st.nx = (S hi).nx
  sl : ∀ t m,lo≤m→m≤hi→CutS ops listed t m→st.get t = (S m).get t
  hp : ∀ q m,lo≤m→m≤hi→CutB F ops listed q m→find st.hp q = find (S m).hp q
abbrev Steps (P : Program) (F : List Fp) (ops : Array Oper) (S : Nat→AS) (lo hi : Nat) : Prop:=∀ (i : Nat) (o : Oper),lo≤i→i < hi→ops[i]? = some o→J2 P ops o (fpO F ops i) (S i) (S (i + 1))
theorem qcd {F : List Fp} {S : Nat→AS} {lo hi : Nat} (hhi : hi≤ops.size) (hS : Steps P F ops S lo hi) {t : Tmp} {j : Nat} (hj0 : lo≤j) : ∀ m,j≤m→m≤hi→(∀ (i : Nat) (o : Oper),j≤i→i < m→ops[i]? = some o→o.dst≠some t)→(S m).get t = (S j).get t
  | 0,h,_,_=>by have : j = 0:=q6;subst this;rfl
  | m + 1,h,hm,hno=>by
    by_cases hj : j = m + 1
    · subst hj;rfl
    · obtain ⟨o,ho⟩:=Kp (xs:=ops) (i:=m) q6
      rw [(hS m o q6 q6 ho).sl t (hno m o q6 q6 ho)]
      exact qcd hhi hS hj0 m q6 q6 fun i o h1 h2=>hno i o h1 q6
theorem qcc {F : List Fp} {S : Nat→AS} {lo hi : Nat} (hhi : hi≤ops.size) (hS : Steps P F ops S lo hi) {q j : Nat} (hj0 : lo≤j) : ∀ m,j≤m→m≤hi→(∀ (i : Nat) (o : Oper),j≤i→i < m→ops[i]? = some o→q ∉ (fpO F ops i).2)→find (S m).hp q = find (S j).hp q
  | 0,h,_,_=>by have : j = 0:=q6;subst this;rfl
  | m + 1,h,hm,hno=>by
    by_cases hj : j = m + 1
    · subst hj;rfl
    · obtain ⟨o,ho⟩:=Kp (xs:=ops) (i:=m) q6
      rw [(hS m o q6 q6 ho).hp q (hno m o q6 q6 ho)]
      exact qcc hhi hS hj0 m q6 q6 fun i o h1 h2=>hno i o h1 q6
theorem Ux {F : List Fp} {S : Nat→AS} {lo hi : Nat} (hhi : hi≤ops.size) (hS : Steps P F ops S lo hi) {j : Nat} (hj0 : lo≤j) : ∀ m,j≤m→m≤hi→(S j).nx≤(S m).nx
  | 0,h,_=>by have : j = 0:=q6;subst this;exact Nat.le_refl _
  | m + 1,h,hm=>by
    by_cases hj : j = m + 1
    · subst hj;exact Nat.le_refl _
    · obtain ⟨o,ho⟩:=Kp (xs:=ops) (i:=m) q6
      exact Nat.le_trans (Ux hhi hS hj0 m q6 q6) (hS m o q6 q6 ho).nx
theorem qi0 {F : List Fp} {S : Nat→AS} {lo hi : Nat} (hhi : hi≤ops.size) (hS : Steps P F ops S lo hi) (h0 : ∀ q,(S lo).nx≤q→find (S lo).hp q = none) : ∀ m,lo≤m→m≤hi→∀ q,(S m).nx≤q→find (S m).hp q = none
  | 0,hl,_,q,hq=>by have : lo = 0:=q6;subst this;exact h0 q hq
  | m + 1,hl,hm,q,hq=>by
    by_cases he : lo = m + 1
    · subst he;exact h0 q hq
    obtain ⟨o,ho⟩:=Kp (xs:=ops) (i:=m) q6
    have hs:=hS m o q6 q6 ho
    exact hs.keys q hq (qi0 hhi hS h0 m q6 q6 q (Nat.le_trans hs.nx hq))
def Keep (ops : Array Oper) (S : Nat→AS) (lo hi : Nat) (base : Nat) (w0 : World) (Z0 : Nat→Prop) (inj0 : Inj) (hp0 : List (Nat × Blk)) (a0 : Act) (Ds0 : List Nat) (listed : Array Bool) (st : AS) (a : Act) (w : World) : Prop:=
  ∃ Z inj Ds,RelS w Z inj st a Ds∧Ext w0 Z0 inj0 hp0 w Z inj st.hp base∧a.tmps.size = a0.tmps.size∧(∀ D∈Ds,D∈Ds0∨w0.heap.size≤D)∧
    ∀ (i : Nat) (o : Oper),lo≤i→i < hi→ops[i]? = some o→listed[i]?≠some true→∀ m,(S i).nx≤m→m < (S (i + 1)).nx→inj m = none
theorem qgd {l : Array Bool} {i : Nat} {n : Nat} (hi : l[i]? = some false) (hn : l.toList.count false = n + 1) : (l.setIfInBounds i true).toList.count false = n:=by
  have hlt : i < l.toList.length:=by simpa using Yg hi
  rw [Array.toList_setIfInBounds,List.count_set hlt]
  have : l.toList[i] = false:=by
    have:=hi
    rw [← Array.getElem?_toList,List.getElem?_eq_getElem hlt] at this
    simpa using this
  simp [this,hn]
theorem qjm {F : List Fp} (hD : q6t F ops) {listed : Array Bool} (hsz : listed.size = ops.size) : ∀ (n i : Nat),i = n→listed[i]? = some false→Region.ready .any ops listed≠[]:=by
  intro n
  induction n using Nat.strongRecOn with
  | _ n ihn=>
    intro i hin hi
    subst hin
    obtain ⟨o,ho⟩:=Kp (xs:=ops) (i:=i) (by rw [← hsz];exact Yg hi)
    by_cases hall : ∀ e∈o.after,Region.binds .any e = true→listed.getD e.on false = true
    · intro hnil
      have : i∈Region.ready .any ops listed:=mem_ready.2 ⟨qae.2 hi,o,ho,hall⟩
      rw [hnil] at this;cases this
    · simp only [Classical.not_forall] at hall
      obtain ⟨e,he,hb,hno⟩:=hall
      have hlt:=hD.edges i o ho e he hb
      obtain ⟨b,hbb⟩:=Kp (xs:=listed) (i:=e.on) (by have:=Yg hi;omega)
      cases b with
      | true=>exact absurd (qd7.2 hbb) hno
      | false=>exact ihn e.on hlt e.on rfl hbb
theorem qf9 {listed : Array Bool} {i : Nat} {o : Oper} (hadm : Adm ops (fun i=>listed[i]? = some true)) (ho : ops[i]? = some o) (h1 : listed[i]? = some false) (hedge : ∀ e∈o.after,Region.binds .any e = true→listed[e.on]? = some true) :
    (∀ (j : Nat),(listed.setIfInBounds i true)[j]? = some true↔(j = i∨listed[j]? = some true))∧Adm ops (fun j=>(listed.setIfInBounds i true)[j]? = some true):=by
  have hset : ∀ (j : Nat),(listed.setIfInBounds i true)[j]? = some true↔(j = i∨listed[j]? = some true):=by
    intro j
    by_cases hji : j = i
    · subst hji;simp [Yg h1]
    · rw [Array.getElem?_setIfInBounds_ne (Ne.symm hji)];simp [hji]
  refine ⟨hset,?_⟩
  intro j oj hj hoj e he hb
  rw [hset] at hj ⊢
  rcases hj with rfl | hj
  · rw [ho] at hoj;cases hoj
    exact .inr (hedge e he hb)
  · exact .inr (hadm j oj hj hoj e he hb)
theorem qno {F : List Fp} {S : Nat→AS} {lo hi : Nat} (hlh : lo≤hi) (hhi : hi≤ops.size) (hD : q6t F ops) (hS : Steps P F ops S lo hi) (hgate : ∀ (i j : Nat) (oj : Oper),i < hi→hi≤j→ops[j]? = some oj→Behind ops oj i) (h0 : ∀ q,(S lo).nx≤q→find (S lo).hp q = none)
    {w0 : World} {Z0 : Nat→Prop} {inj0 : Inj} {hp0 : List (Nat × Blk)} {a0 : Act} {Ds0 : List Nat} {ro : Option Nat} {Q : Exit→Act→World→Prop} (hb0 : base≤(S lo).nx)
    (hd : ∀ (i : Nat) (o : Oper),ops[i]? = some o→Zl a0.tmps.size o.dst = true)
    (hQ : ∀ (fuel : Nat) (listed : Array Bool) (a' : Act) (w' : World),listed.size = ops.size→listed.toList.count false = fuel→Adm ops (fun i=>listed[i]? = some true)→(∀ (i : Nat),listed[i]? = some true↔i < hi)→
      (∃ Z inj Ds,RelS w' Z inj (S hi) a' Ds∧Ext w0 Z0 inj0 hp0 w' Z inj (S hi).hp base∧a'.tmps.size = a0.tmps.size∧base≤(S hi).nx∧(∀ D∈Ds,D∈Ds0∨w0.heap.size≤D))→Y3 ro w'→wpAnyIn (Fw ro) 0 P .any ops Q fuel listed a' w') : ∀ (fuel : Nat) (listed : Array Bool) (a : Act) (w : World) (st : AS),
      listed.size = ops.size→listed.toList.count false = fuel→Adm ops (fun i=>listed[i]? = some true)→(∀ (i : Nat),i < lo→listed[i]? = some true)→(∀ (i : Nat),hi≤i→listed[i]?≠some true)→Keep ops S lo hi base w0 Z0 inj0 hp0 a0 Ds0 listed st a w→Y3 ro w→Mid F ops S lo hi listed st→
      wpAnyIn (Fw ro) 0 P .any ops Q fuel listed a w:=by
  have fin : ∀ (fuel : Nat) (listed : Array Bool) (a : Act) (w : World) (st : AS),
      listed.size = ops.size→listed.toList.count false = fuel→Adm ops (fun i=>listed[i]? = some true)→(∀ (i : Nat),i < lo→listed[i]? = some true)→(∀ (i : Nat),hi≤i→listed[i]?≠some true)→Keep ops S lo hi base w0 Z0 inj0 hp0 a0 Ds0 listed st a w→Y3 ro w→Mid F ops S lo hi listed st→
      (∀ (i : Nat),lo≤i→i < hi→listed[i]? = some true)→wpAnyIn (Fw ro) 0 P .any ops Q fuel listed a w:=by
    intro fuel listed a w st hsz hc hadm hlow hup hp hro hph hall
    have hiff : ∀ (i : Nat),listed[i]? = some true↔i < hi:=fun i=>⟨fun h=>by
      rcases Nat.lt_or_ge i hi with h1 | h1
      · exact h1
      · exact absurd h (hup i h1),fun h=>by
      rcases Nat.lt_or_ge i lo with h1 | h1
      · exact hlow i h1
      · exact hall i h1 h⟩
    refine hQ fuel listed a w hsz hc hadm hiff ?_ hro
    obtain ⟨Z,inj,Ds,h1,h2,h3,h4,_⟩:=hp
    have hhp : ∀ q,find (S hi).hp q = find st.hp q:=fun q=>(hph.hp q hi hlh (Nat.le_refl _) fun i o ho _=>hiff i).symm
    refine ⟨Z,inj,Ds,⟨fun t v ht=>?_,?_,h1.defs,h1.nodup,h1.marks⟩,qo2 h2 hhp,h3,Nat.le_trans hb0 (Ux hhi hS (Nat.le_refl _) _ hlh (Nat.le_refl _)),h4⟩
    · rw [← hph.nx]
      refine h1.slots t v ?_
      have:=hph.sl t hi hlh (Nat.le_refl _) fun i o ho _=>hiff i
      exact this.trans ht
    · rw [← hph.nx];exact qsp h1.heap hhp
  intro fuel
  induction fuel with
  | zero=>
    intro listed a w st hsz hc hadm hlow hup hp hro hph
    refine fin 0 listed a w st hsz hc hadm hlow hup hp hro hph fun i _ hi=>?_
    have h:=List.count_eq_zero.1 hc
    obtain ⟨b,hb⟩:=Kp (xs:=listed) (i:=i) q6
    cases b with
    | true=>exact hb
    | false=>exact absurd (by simpa using Array.mem_of_getElem? hb) h
  | succ fuel ih=>
    intro listed a w st hsz hc hadm hlow hup hp hro hph
    by_cases hall : ∀ (i : Nat),lo≤i→i < hi→listed[i]? = some true
    · exact fin _ listed a w st hsz hc hadm hlow hup hp hro hph hall
    have hopen : ∃ k : Nat,(lo≤k∧k < hi)∧listed[k]? = some false:=by
      simp only [Classical.not_forall] at hall
      obtain ⟨k,h1,h2,h3⟩:=hall
      obtain ⟨b,hb⟩:=Kp (xs:=listed) (i:=k) q6
      cases b with
      | true=>exact absurd hb h3
      | false=>exact ⟨k,⟨h1,h2⟩,hb⟩
    obtain ⟨k0,⟨hk1,hk2⟩,hk3⟩:=hopen
    refine ⟨fun hnil=>?_,fun i hi'=>?_⟩
    · exact absurd hnil (qjm hD hsz k0 k0 rfl hk3)
    · obtain ⟨h1,o,ho,hall2⟩:=mem_ready.1 hi'
      rw [qae] at h1
      have hedge : ∀ e∈o.after,Region.binds .any e = true→(fun i=>listed[i]? = some true) e.on:=fun e he hb=>qd7.1 (hall2 e he hb)
      have hbeh : ∀ j,Behind ops o j→listed[j]? = some true:=fun j hb=>hb _ hadm hedge
      have hilo : lo≤i:=Nat.le_of_not_lt fun h=>by have:=hlow i h;rw [h1] at this;cases this
      have hihi : i < hi:=Nat.lt_of_not_le fun h=>by
        have:=hbeh k0 (hgate k0 i o hk2 h ho)
        rw [hk3] at this;cases this
      have hlater : ∀ (j : Nat) (oj : Oper),ops[j]? = some oj→Behind ops oj i→listed[j]?≠some true:=by
        intro j oj hoj hb hj
        have:=hb (fun i=>listed[i]? = some true) hadm (fun e he hbd=>hadm j oj hj hoj e he hbd)
        rw [h1] at this;cases this
      obtain ⟨hset,hadm'⟩:=qf9 hadm ho h1 hedge
      have hsz' : (listed.setIfInBounds i true).size = ops.size:=by simp [hsz]
      have hc':=qgd h1 hc
      have hin : i < ops.size:=Yg ho
      have hnl : listed[i]?≠some true:=by rw [h1];simp
      have hpair : ∀ (j : Nat) (oj : Oper),ops[j]? = some oj→j≠i→(listed[j]? = some true↔j < i)∨(q6s (fpO F ops i) (fpO F ops j)∧(∀ t∈reads ops o,oj.dst≠some t)∧∀ t,o.dst = some t→oj.dst≠some t):=by
        intro j oj hoj hji
        rcases Nat.lt_or_gt_of_ne hji with h | h
        · rcases hD.pairs j i oj o h hoj ho with hb | ⟨ha,h2,h3,h4⟩
          · exact .inl ⟨fun _=>h,fun _=>hbeh j hb⟩
          · exact .inr ⟨⟨fun m h5 h6=>ha.ww m h6 h5,ha.wr,ha.rw⟩,h3,fun t h5 h6=>h4 t h6 h5⟩
        · rcases hD.pairs i j o oj h ho hoj with hb | ⟨ha,h2,h3,h4⟩
          · exact .inl ⟨fun hl=>absurd hl (hlater j oj hoj hb),fun hl=>q6⟩
          · exact .inr ⟨ha,h2,h4⟩
      have hagW : ∀ m∈(fpO F ops i).2,find st.hp m = find (S i).hp m:=fun m hm=>by
        refine hph.hp m i hilo q6 fun j oj hoj hmj=>?_
        by_cases hji : j = i
        · subst hji;exact ⟨fun hl=>absurd hl hnl,fun hl=>absurd hl (Nat.lt_irrefl _)⟩
        · rcases hpair j oj hoj hji with h | ⟨ha,_⟩
          · exact h
          · exact absurd hmj (ha.ww m hm)
      have hag : Jq ops o (fpO F ops i) (S i) st:=by
        refine ⟨⟨hagW,?_⟩,fun t ht=>?_⟩
        · have key : ∀ m,(∀ (j : Nat) (oj : Oper),ops[j]? = some oj→j≠i→q6s (fpO F ops i) (fpO F ops j)→m ∉ (fpO F ops j).2)→find st.hp m = find (S i).hp m:=fun m hm=>by
            by_cases hmi : m∈(fpO F ops i).2
            · exact hagW m hmi
            refine hph.hp m i hilo q6 fun j oj hoj hmj=>?_
            by_cases hji : j = i
            · subst hji;exact absurd hmj hmi
            · rcases hpair j oj hoj hji with h | ⟨ha,_⟩
              · exact h
              · exact absurd hmj (hm j oj hoj hji ha)
          cases hR : (fpO F ops i).1 with
          | none=>exact fun m=>key m fun j oj _ _ ha hmj=>by have:=ha.rw m hmj;rw [hR] at this;exact this
          | some r=>exact fun m hmr=>key m fun j oj _ _ ha hmj=>by have:=ha.rw m hmj;rw [hR] at this;exact this hmr
        · refine hph.sl t i hilo q6 fun j oj hoj hdj=>?_
          by_cases hji : j = i
          · subst hji;exact ⟨fun hl=>absurd hl hnl,fun hl=>absurd hl (Nat.lt_irrefl _)⟩
          · rcases hpair j oj hoj hji with h | ⟨_,hr,_⟩
            · exact h
            · exact absurd hdj (hr t ht)
      have hstep:=hS i o hilo hihi ho
      have hlow2 : (S (i + 1)).nx≤st.nx:=by rw [hph.nx];exact Ux hhi hS q6 _ q6 (Nat.le_refl _)
      have hfree : ∀ m,(S i).nx≤m→m < (S (i + 1)).nx→find st.hp m = none:=fun m h2 h3=>by
        rw [hagW m (hstep.fresh m h2 h3)]
        exact qi0 hhi hS h0 i hilo q6 m h2
      obtain ⟨st3,hnx3,hgood,hs1,hs2,hh1,hh2⟩:=hstep.other st hlow2 hag hfree
      refine qev ho ?_
      obtain ⟨Z,inj,Ds,k1,k2,k3,k4,k5⟩:=hp
      have hbi : base≤(S i).nx:=Nat.le_trans hb0 (Ux hhi hS (Nat.le_refl _) _ hilo q6)
      refine hgood base ro Q w Z inj a Ds _ k1 (by rw [k3];exact hd i o ho) hbi (by have:=hstep.nx;omega) hro (k5 i o hilo hihi ho hnl) fun a' w' hp'=>?_
      obtain ⟨Z',inj',Ds',g1,g2,g3,g4,g5⟩:=hp'
      refine ih _ a' w' st3 hsz' hc' hadm' (fun j hj=>(hset j).2 (.inr (hlow j hj))) (fun j hj hl=>?_) ⟨Z',inj',Ds',g1,k2.trans g2 (Nat.le_refl _),g3.trans k3,fun D hD=>?_,fun j oj hj1 hj2 hoj hlj m h2 h3=>?_⟩ (hro.ext g2) ⟨hnx3.trans hph.nx,fun t m hml hm hcut=>?_,fun q m hml hm hcut=>?_⟩
      · rcases (hset j).1 hl with rfl | hl
        · omega
        · exact hup j hj hl
      · rcases g4 D hD with h | h
        · exact k4 D h
        · exact .inr (Nat.le_trans k2.size h)
      · have hji : j≠i:=by rintro rfl;exact hlj ((hset j).2 (.inl rfl))
        have hlj' : listed[j]?≠some true:=fun e=>hlj ((hset j).2 (.inr e))
        rw [g5 m (by
          have:=Ux hhi hS (j:=j + 1) q6 hi q6 (Nat.le_refl _)
          have:=hph.nx;omega) (by
          rcases Nat.lt_or_gt_of_ne hji with h | h
          · left;have:=Ux hhi hS (j:=j + 1) q6 i q6 q6;omega
          · right;have:=Ux hhi hS (j:=i + 1) q6 j q6 q6;omega)]
        exact k5 j oj hj1 hj2 hoj hlj' m h2 h3
      · by_cases hdt : o.dst = some t
        · have him : i < m:=(hcut i o ho hdt).1 ((hset i).2 (.inl rfl))
          rw [hs2 t hdt]
          refine (qcd hhi hS q6 m q6 hm fun j oj hj1 hj2 hoj hdj=>?_).symm
          have hl:=(hset j).1 ((hcut j oj hoj hdj).2 hj2)
          rcases hl with hl | hl
          · omega
          · rcases hpair j oj hoj q6 with h | ⟨_,_,hw⟩
            · have:=h.1 hl;omega
            · exact hw t hdt hdj
        · rw [hs1 t hdt]
          refine hph.sl t m hml hm fun j oj hoj hdj=>?_
          have hji : j≠i:=by rintro rfl;rw [ho] at hoj;cases hoj;exact hdt hdj
          rw [← hcut j oj hoj hdj,hset]
          simp [hji]
      · by_cases hq : q∈(fpO F ops i).2
        · have him : i < m:=(hcut i o ho hq).1 ((hset i).2 (.inl rfl))
          rw [hh1 q hq]
          refine (qcc hhi hS q6 m q6 hm fun j oj hj1 hj2 hoj hqj=>?_).symm
          have hl:=(hset j).1 ((hcut j oj hoj hqj).2 hj2)
          rcases hl with hl | hl
          · omega
          · rcases hpair j oj hoj q6 with h | ⟨ha,_⟩
            · have:=h.1 hl;omega
            · exact ha.ww q hq hqj
        · rw [hh2 q hq]
          refine hph.hp q m hml hm fun j oj hoj hqj=>?_
          have hji : j≠i:=by rintro rfl;exact hq hqj
          rw [← hcut j oj hoj hqj,hset]
          simp [hji]
theorem qsr {w : World} {Z : Nat→Prop} {inj : Inj} {st : AS} {a : Act} {Ds : List Nat} {N : Nat} (h : RelS w Z inj st a Ds) (hN : st.nx≤N) : RelS w Z (fun m=>if m < st.nx then inj m else none) {st with nx:=N} a Ds:=by
  have hi : ∀ n,n < st.nx→(fun m=>if m < st.nx then inj m else none) n = inj n:=fun n hn=>by simp [hn]
  have hkb : Zb w w:=fun _ c e f h=>⟨c,e,f,h,rfl⟩
  refine ⟨h.slots.mono (fun _ _=>rfl) (fun _ h=>h) hkb hi hN,⟨fun n b hb=>?_,fun n m b c p q h1 h2 h3 h4 h5 h6=>?_,fun n b p h1 h2 h3=>?_,h.heap.zs,h.heap.zc⟩,h.defs,h.nodup,h.marks⟩
  · obtain ⟨k1,k2⟩:=h.heap.blk n b hb
    exact ⟨Nat.lt_of_lt_of_le k1 hN,k2.mono (fun _ _=>rfl) (fun _ h=>h) hkb hi hN k1 (fun _ _ _=>rfl)⟩
  · rw [if_pos (h.heap.blk n b h1).1] at h5
    rw [if_pos (h.heap.blk m c h2).1] at h6
    exact h.heap.sep n m b c p q h1 h2 h3 h4 h5 h6
  · rw [if_pos (h.heap.blk n b h1).1] at h3
    exact h.heap.out n b p h1 h2 h3
theorem qn0 {w0 : World} {Z0 : Nat→Prop} {inj0 : Inj} {st0 : AS} {a0 : Act} {Ds0 : List Nat} {l : List Oper} {st st' : AS} (h : Yw P base ops l st st') : l = []→∀ a w,Ki base w0 Z0 inj0 st0 a0 Ds0 st a w→Ki base w0 Z0 inj0 st0 a0 Ds0 st' a w:=by
  induction h with
  | nil=>exact fun _ a w hp=>hp
  | cons _ _ _=>intro h;cases h
  | wk hw _ ih=>
    intro hl a w hp
    refine ih hl a w ?_
    obtain ⟨Z',inj',Ds',h1,h2,h3,h4,h5⟩:=hp
    obtain ⟨hrel,hext⟩:=q16 h1 hw
    exact ⟨_,_,Ds',hrel,h2.trans hext (Nat.le_refl _),h3,hw.bs,h5⟩
theorem qmz {w0 : World} {Z0 : Nat→Prop} {inj0 : Inj} {st0 : AS} {a0 : Act} {Ds0 : List Nat} {ro : Option Nat} {Q : Exit→Act→World→Prop} {K : Act→World→Prop} {l : List Oper} {st st' : AS} (h : Yw P base ops l st st') : ∀ o,l = [o]→Zl a0.tmps.size o.dst = true→∀ a w,Ki base w0 Z0 inj0 st0 a0 Ds0 st a w→Y3 ro w→
    (∀ a' w',Ki base w0 Z0 inj0 st0 a0 Ds0 st' a' w'→Y3 ro w'→K a' w')→Jp P (Fw ro) ops Q o K a w:=by
  induction h with
  | nil=>intro o h;cases h
  | cons hs hl _=>
    intro o h hd a w hp hro hK
    simp only [List.cons.injEq] at h
    obtain ⟨rfl,rfl⟩:=h
    refine hp.bind fun Z' inj' Ds' hrel hsize hbase _ hcomp=>?_
    exact hs ro Q w Z' inj' a Ds' _ hrel (by rw [hsize];exact hd) hbase hro fun a' w' hp'=>hK a' w' (qn0 hl rfl _ _ (hcomp _ _ _ hp')) (by obtain ⟨_,_,_,_,g2,_⟩:=hp';exact hro.ext g2)
  | wk hw _ ih=>
    intro o h hd a w hp hro hK
    refine ih o h hd a w ?_ hro hK
    obtain ⟨Z',inj',Ds',h1,h2,h3,h4,h5⟩:=hp
    obtain ⟨hrel,hext⟩:=q16 h1 hw
    exact ⟨_,_,Ds',hrel,h2.trans hext (Nat.le_refl _),h3,hw.bs,h5⟩
theorem qm4 {o p : Oper} {i j : Nat} (h1 : Behind ops o i) (hp : ops[i]? = some p) (h2 : Behind ops p j) : Behind ops o j:=fun S hS he=>h2 S hS fun e hm hb=>hS i p (h1 S hS he) hp e hm hb
theorem qnn {F : List Fp} (hD : q6t F ops) {w0 : World} {Z0 : Nat→Prop} {inj0 : Inj} {st0 : AS} {a0 : Act} {Ds0 : List Nat} {ro : Option Nat} {Q : Exit→Act→World→Prop} (hd : ∀ (i : Nat) (o : Oper),ops[i]? = some o→Zl a0.tmps.size o.dst = true) :
    ∀ (n : Nat) (l : List Oper) (lo : Nat) (st st' : AS),l.length = n→ops.toList.drop lo = l→lo≤ops.size→Zz P base ops F l st st'→(∀ a' w',Ki base w0 Z0 inj0 st0 a0 Ds0 st' a' w'→Q .normal a' w')→∀ (fuel : Nat) (listed : Array Bool) (a : Act) (w : World),
      listed.size = ops.size→listed.toList.count false = fuel→Adm ops (fun i=>listed[i]? = some true)→(∀ (i : Nat),listed[i]? = some true↔i < lo)→Ki base w0 Z0 inj0 st0 a0 Ds0 st a w→Y3 ro w→wpAnyIn (Fw ro) 0 P .any ops Q fuel listed a w:=by
  intro n
  induction n using Nat.strongRecOn with
  | _ n ihn=>
  intro l lo st st' hln hll hlo hc hQ fuel listed a w hsz hcf hadm hiff hp hro
  obtain ⟨k,S,hk,e0,hS,hend⟩:=qfw hc
  have hlen : l.length + lo = ops.size:=by rw [← hll];simp;omega
  have hget : ∀ (i : Nat),l[i]? = ops[lo + i]?:=fun i=>by rw [← hll,List.getElem?_drop,Array.getElem?_toList]
  subst e0
  have hS' : Steps P F ops (fun i=>S (i - lo)) lo (lo + k):=fun i o h1 h2 ho=>by
    have:=hS (i - lo) o q6 (by rw [hget,show lo + (i - lo) = i by omega];exact ho)
    rw [show l.length - (i - lo + 1) = ops.size - (i + 1) by omega] at this
    show J2 P ops o (fpO F ops i) (S (i - lo)) (S (i + 1 - lo))
    rw [show i + 1 - lo = i - lo + 1 by omega]
    exact this
  have hgate : ∀ (i j : Nat) (oj : Oper),i < lo + k→lo + k≤j→ops[j]? = some oj→Behind ops oj i:=fun i j oj hi hj hoj=>by
    rcases hend with ⟨h1,_⟩ | ⟨o,st1,h1,h2,_,_⟩
    · have:=Yg hoj;omega
    · rw [hget] at h1
      rw [show l.length - (k + 1) = ops.size - (lo + k + 1) by omega] at h2
      have hi' : i < ops.size:=by have:=Yg h1;omega
      obtain ⟨oi,hoi⟩:=Kp (xs:=ops) (i:=i) hi'
      have hb:=hD.pivs i (lo + k) oi o hi hoi h1 (.inr h2)
      by_cases hjk : j = lo + k
      · subst hjk;rw [h1] at hoj;cases hoj;exact hb
      · exact qm4 (hD.pivs (lo + k) j o oj q6 h1 hoj (.inl h2)) h1 hb
  obtain ⟨Z,inj,Ds,h1,h2,h3,h4,h5⟩:=hp
  have hN : (S 0).nx≤(S k).nx:=by
    have:=Ux q6 hS' (Nat.le_refl _) (lo + k) q6 (Nat.le_refl _)
    simpa using this
  have h0 : ∀ q,(S 0).nx≤q→find (S 0).hp q = none:=fun q hq=>by
    cases hf : find (S 0).hp q with
    | none=>rfl
    | some b=>have:=(h1.heap.blk q b hf).1;omega
  have hext : Ext w0 Z0 inj0 st0.hp w Z (fun m=>if m < (S 0).nx then inj m else none) (S 0).hp base:=by
    refine {h2 with imm:=fun b hb'=>h2.imm b ?_,pinj:=fun n hn=>(if_pos (show n < (S 0).nx by omega)).trans (h2.pinj n hn)}
    obtain ⟨n,c,o,g1,g2,g3⟩:=hb'
    refine ⟨n,c,o,g1,g2,?_⟩
    have:=(h1.heap.blk n c g1).1
    simpa [this] using g3
  have hno : ∀ (i : Nat),lo≤i→listed[i]?≠some true:=fun i hi h=>by have:=(hiff i).1 h;omega
  refine qno (lo:=lo) (hi:=lo + k) (S:=fun i=>S (i - lo)) (hp0:=st0.hp) (Ds0:=Ds0) q6 q6 hD hS' hgate (by simpa using h0) (by simpa using h4) hd ?_ fuel listed a w {S 0 with nx:=(S k).nx} hsz hcf hadm (fun i hi=>(hiff i).2 hi) (fun i hi=>hno i q6) ⟨Z,_,Ds,qsr h1 hN,hext,h3,h5,fun i o hi1 hi2 ho _ m g2 g3=>?_⟩ hro ⟨qd,fun t m hml hm hcut=>?_,fun q m hml hm hcut=>?_⟩
  · intro fuel' listed' a' w' hsz' hcf' hadm' hiff' hp' hro'
    have hp' : Ki base w0 Z0 inj0 st0 a0 Ds0 (S k) a' w':=by
      obtain ⟨Z',inj',Ds',g1,g2,g3,g4,g5⟩:=hp'
      simp only [Nat.add_sub_cancel_left] at g1 g2 g4
      exact ⟨Z',inj',Ds',g1,g2,g3,g4,g5⟩
    rcases hend with ⟨e1,e2⟩ | ⟨o,st1,e1,e2,e3,e4⟩
    ·
      subst e2
      have hz : fuel' = 0:=by
        rw [← hcf',List.count_eq_zero]
        intro hm
        obtain ⟨i,hi⟩:=List.getElem?_of_mem hm
        have hi2 : listed'[i]? = some false:=by simpa using hi
        have:=(hiff' i).2 (by have:=Yg hi2;omega)
        rw [hi2] at this;cases this
      subst hz
      refine ⟨?_,hQ _ _ hp'⟩
      rw [List.eq_nil_iff_forall_not_mem]
      intro j hj
      obtain ⟨g1,o,ho,_⟩:=mem_ready.1 hj
      rw [qae,(hiff' j).2 (by have:=Yg ho;omega)] at g1
      cases g1
    ·
      have hop : ops[lo + k]? = some o:=by rw [← hget];exact e1
      rw [show l.length - (k + 1) = ops.size - (lo + k + 1) by omega] at e2
      have hfalse : listed'[lo + k]? = some false:=by
        obtain ⟨b,hb⟩:=Kp (xs:=listed') (i:=lo + k) (by rw [hsz'];exact Yg hop)
        cases b with
        | true=>have:=(hiff' _).1 hb;omega
        | false=>exact hb
      cases fuel' with
      | zero=>
        have:=List.count_eq_zero.1 hcf'
        exact absurd (by simpa using Array.mem_of_getElem? hfalse) this
      | succ fuel'=>
        refine ⟨fun hnil=>absurd hnil (qjm hD hsz' _ _ rfl hfalse),fun i hi=>?_⟩
        obtain ⟨g1,oi,hoi,gall⟩:=mem_ready.1 hi
        rw [qae] at g1
        have hedge : ∀ e∈oi.after,Region.binds .any e = true→listed'[e.on]? = some true:=fun e he hb=>qd7.1 (gall e he hb)
        have hik : i = lo + k:=by
          rcases Nat.lt_trichotomy i (lo + k) with h | h | h
          · have:=(hiff' i).2 h;rw [g1] at this;cases this
          · exact h
          · have:=hD.pivs (lo + k) i o oi h hop hoi (.inl e2) _ hadm' hedge
            rw [hfalse] at this;cases this
        subst hik
        rw [hop] at hoi;cases hoi
        obtain ⟨hset,hadm2⟩:=qf9 hadm' hop g1 hedge
        refine qev hop ?_
        refine qmz e3 o rfl (hd _ _ hop) a' w' hp' hro' fun a2 w2 hp2 hro2=>?_
        refine ihn (l.drop (k + 1)).length (by have:=Yg hop;simp;omega) _ (lo + k + 1) st1 st' rfl (by rw [← hll,List.drop_drop,Nat.add_assoc]) (Yg hop) e4 hQ _ _ a2 w2 (by simp [hsz']) (qgd g1 hcf') hadm2 (fun j=>?_) hp2 hro2
        rw [hset,hiff'];omega
  · have this : (S 0).nx≤(S (i - lo)).nx:=by simpa using Ux q6 hS' (Nat.le_refl lo) i hi1 q6
    have g2' : (S (i - lo)).nx≤m:=g2
    exact if_neg q6
  · have:=qcd q6 hS' (t:=t) (Nat.le_refl lo) m hml hm fun i o hi1 hi ho hd'=>hno i hi1 ((hcut i o ho hd').2 hi)
    simp at this ⊢
    exact this.symm
  · have:=qcc q6 hS' (q:=q) (Nat.le_refl lo) m hml hm fun i o hi1 hi ho hq'=>hno i hi1 ((hcut i o ho hq').2 hi)
    simp at this ⊢
    exact this.symm
theorem qsk {F : List Fp} {id : Nat} {w : World} {Z : Nat→Prop} {inj : Inj} {st st' : AS} {a : Act} {Ds : List Nat} {ro : Option Nat} {Q : Exit→Act→World→Prop} (hm : P.follows .mixedOrders = true) (hD : q6t F ops) (hc : Zz P base ops F ops.toList st st')
    (h : RelS w Z inj st a Ds) (hok : codeOk a.tmps.size (.region id ops true) = true) (hb : base≤st.nx) (hro : Y3 ro w) (hQ : ∀ a' w',Ki base w Z inj st a Ds st' a' w'→Q .normal a' w') : (Code.region id ops true).wpIn (Fw ro) 0 P Q a w:=by
  refine wpIn_region_any hm ?_
  have hs : RelS {w with drawn:=w.drawn + 1} Z inj st a Ds:=⟨h.slots.mono (fun _ _=>rfl) (fun _ h=>h) (fun b c e f hb=>⟨c,e,f,hb,rfl⟩) (fun _ _=>rfl) (Nat.le_refl _),h.heap.same rfl,h.defs,h.nodup,h.marks⟩
  have hdst : ∀ (i : Nat) (o : Oper),ops[i]? = some o→Zl a.tmps.size o.dst = true:=by
    intro i o ho
    simp only [codeOk,List.all_eq_true] at hok
    exact hok o (by simpa using Array.mem_of_getElem? ho)
  have hno : ∀ (i : Nat),(Array.replicate ops.size false)[i]?≠some true:=by
    intro i hi
    rw [Array.getElem?_replicate] at hi
    split at hi <;> simp at hi
  exact qnn hD hdst ops.toList.length ops.toList 0 st st' rfl qd (Nat.zero_le _) hc hQ ops.size _ a _ qd qd (fun j o hj _=>absurd hj (hno j)) (fun i=>⟨fun hi=>absurd hi (hno i),fun hi=>q6⟩) ⟨Z,inj,Ds,hs,.same rfl rfl rfl rfl,rfl,hb,fun _ h=>.inl h⟩ (fun l hl=>hro l hl)
end
end Go.Am
namespace Go.Am
open Go
variable {P : Program} {T : Tab}
section
variable {w w' : World} {Z Z' : Nat→Prop} {inj inj' : Inj} {hp hp' : List (Nat × Blk)} {nx nx' pin : Nat}
theorem RelH.grow (h : RelH w Z inj hp nx) (hk : ∀ b,b < w.heap.size→w'.heap[b]? = w.heap[b]?) : RelH w' Z inj hp nx:=by
  have hb : Zb w w':=fun b c e f hh=>⟨c,e,f,(hk b (Zk hh)).trans hh,rfl⟩
  refine ⟨fun n b hn=>?_,h.sep,h.out,?_,?_⟩
  · obtain ⟨h1,h2⟩:=h.blk n b hn
    exact ⟨h1,h2.mono (fun b hz=>hk b (h.zs b hz)) (fun _ h=>h) hb (fun _ _=>rfl) (Nat.le_refl _) h1 fun p hp hl=>hk _ (h.im_lt ⟨n,b,p.2,hn,hl,hp⟩)⟩
  · intro b hz
    obtain ⟨c,e,f,hc⟩:=h.zc b hz
    have:=hk b (h.zs b hz)
    exact Zk (this.trans hc)
  · intro b hz
    obtain ⟨c,e,f,hc⟩:=h.zc b hz
    exact ⟨c,e,f,(hk b (h.zs b hz)).trans hc⟩
theorem Ext.alloc (o : Obj) (ho : Unfr o:=by first | exact rfl | exact trivial) : Ext w Z inj hp (w.alloc o) Z inj hp pin:=
  ⟨qd,fun b hb _=>Zc w o hb,fun _ h=>.inl h,q1p w o,qhx w o,fun _ h=>h,fun _ h=>.inl h,fun _ _=>rfl,rfl,rfl,rfl,qha w ho⟩
theorem qjp (h : RelH w Z inj hp nx) {n : Nat} {b0 blk : Blk} (hn : find hp n = some b0) (hl : live b0 = true) {b off : Nat} (hi : inj n = some (b,off)) {r r' : Loop} (hb : w.heap[b]? = some (.loop r)) (hd : r'.defers = r.defers)
    (hnew : RelB (w.putObj b (.loop r')) Z inj nx n blk) (hlv : live blk = true→True) : RelH (w.putObj b (.loop r')) Z inj (repl hp n blk) nx∧Ext w Z inj hp (w.putObj b (.loop r')) Z inj (repl hp n blk) pin:=by
  have hother : ∀ k,k≠b→(w.putObj b (.loop r')).heap[k]? = w.heap[k]?:=fun k hk=>World.putObj_heap_other hk
  have hzb : ¬ Z b:=fun hz=>by
    obtain ⟨c,e,f,hc⟩:=h.zc b hz
    rw [hb] at hc;cases hc
  have hkb : Zb w (w.putObj b (.loop r')):=fun k c e f hk=>by
    by_cases hkb : k = b
    · subst hkb;rw [hb] at hk;cases hk
    · exact ⟨c,e,f,(hother k hkb).trans hk,rfl⟩
  have hz : ∀ k,Z k→(w.putObj b (.loop r')).heap[k]? = w.heap[k]?:=fun k hk=>hother k (fun e=>hzb (e ▸ hk))
  have hfind : ∀ m c,find (repl hp n blk) m = some c→(m = n∧c = blk)∨(m≠n∧find hp m = some c):=by
    intro m c hm
    rw [Yl] at hm
    split at hm
    · rename_i e;subst e;rw [hn] at hm;simp at hm;exact .inl ⟨rfl,hm.symm⟩
    · rename_i e;exact .inr ⟨fun h=>e h.symm,hm⟩
  have himm : ∀ k,im (repl hp n blk) inj k→im hp inj k:=by
    rintro k ⟨m,c,o,h1,h2,h3⟩
    rcases hfind m c h1 with ⟨rfl,rfl⟩ | ⟨_,h4⟩
    · exact ⟨m,b0,o,hn,hl,h3⟩
    · exact ⟨m,c,o,h4,h2,h3⟩
  refine ⟨⟨?_,?_,?_,?_,?_⟩,⟨qd,?_,fun k hk=>.inl (himm k hk),hkb,?_,fun _ h=>h,fun _ h=>.inl h,fun _ _=>rfl,rfl,rfl,rfl,qd6 (fun _ _ _=>by rw [hb];simp) (fun _ _ _=>qd)⟩⟩
  · intro m c hm
    rcases hfind m c hm with ⟨rfl,rfl⟩ | ⟨hne,h4⟩
    · exact ⟨(h.blk _ _ hn).1,hnew⟩
    · obtain ⟨h5,h6⟩:=h.blk m c h4
      exact ⟨h5,h6.mono hz (fun _ h=>h) hkb (fun _ _=>rfl) (Nat.le_refl _) h5 fun p hp hlv=>hother _ fun e=>h.sep m n c b0 p (b,off) h4 hn hlv hl hp hi hne e⟩
  · intro m m' c c' p q h1 h2 h3 h4 h5 h6 hne
    rcases hfind m c h1 with ⟨rfl,rfl⟩ | ⟨e1,k1⟩ <;> rcases hfind m' c' h2 with ⟨rfl,rfl⟩ | ⟨e2,k2⟩
    · exact absurd rfl hne
    · exact h.sep _ _ _ _ p q hn k2 hl h4 h5 h6 hne
    · exact h.sep _ _ _ _ p q k1 hn h3 hl h5 h6 hne
    · exact h.sep _ _ _ _ p q k1 k2 h3 h4 h5 h6 hne
  · intro m c p h1 h2 h3
    rcases hfind m c h1 with ⟨rfl,rfl⟩ | ⟨e1,k1⟩
    · exact h.out _ _ p hn hl h3
    · exact h.out _ _ p k1 h2 h3
  · intro k hk;simpa using h.zs k hk
  · intro k hk
    obtain ⟨c,e,f,hc⟩:=h.zc k hk
    exact ⟨c,e,f,(hz k hk).trans hc⟩
  · intro k _ hk
    exact hother k fun e=>hk ⟨n,b0,off,hn,hl,e ▸ hi⟩
  · intro k x hk
    by_cases hkb : k = b
    · subst hkb
      rw [hb] at hk;cases hk
      exact ⟨r',World.putObj_heap_same (Zk hb),hd⟩
    · exact ⟨x,(hother k hkb).trans hk,rfl⟩
theorem qei (h : RelH w Z inj hp nx) {n : Nat} {s : List (Nat × V)} {ps : List Tmp} {as bo : Code} {ls ls' : LoopState} {pe pe' : Option Code} (hn : find hp n = some (.loop s ps as bo ls pe)) : ∃ b r,inj n = some (b,0)∧w.heap[b]? = some (.loop r)∧
    r.state = ls∧r.pending = pe∧r.params = ps.toArray∧r.assign = as∧r.body = bo∧(codeOk r.tmps.size as = true∧codeOk r.tmps.size bo = true∧∀ p∈ps,p < r.tmps.size)∧Yc w Z inj nx s r.tmps∧
    RelH (w.putObj b (.loop {r with state:=ls',pending:=pe'})) Z inj (repl hp n (.loop s ps as bo ls' pe')) nx∧Ext w Z inj hp (w.putObj b (.loop {r with state:=ls',pending:=pe'})) Z inj (repl hp n (.loop s ps as bo ls' pe')) pin:=by
  obtain ⟨hnx,b,tmps,D,fn,h1,h2,h3,h4⟩:=h.blk n _ hn
  refine ⟨b,_,h1,h2,rfl,rfl,rfl,rfl,rfl,h3,h4,?_⟩
  refine qjp h hn rfl h1 h2 rfl ?_ (fun _=>trivial)
  refine ⟨b,tmps,D,fn,h1,World.putObj_heap_same (Zk h2),h3,?_⟩
  have hzb : ¬ Z b:=fun hz=>by
    obtain ⟨c,e,f,hc⟩:=h.zc b hz
    rw [h2] at hc;cases hc
  refine h4.mono (fun k hk=>World.putObj_heap_other (fun e=>hzb (e ▸ hk))) (fun _ h=>h) ?_ (fun _ _=>rfl) (Nat.le_refl _)
  intro k c e f hk
  by_cases hkb : k = b
  · subst hkb;rw [h2] at hk;cases hk
  · exact ⟨c,e,f,(World.putObj_heap_other hkb).trans hk,rfl⟩
theorem qsq (h : RelH w Z inj hp nx) {n : Nat} {s : List (Nat × V)} {ps : List Tmp} {as bo : Code} {ls : LoopState} {pe : Option Code} (hn : find hp n = some (.loop s ps as bo ls pe)) : ∃ b r,inj n = some (b,0)∧w.heap[b]? = some (.loop r)∧
    r.state = ls∧r.pending = pe∧∀ r' : Loop,r'.defers = r.defers→RelH (w.putObj b (.loop r')) Z inj (repl hp n .dead) nx∧Ext w Z inj hp (w.putObj b (.loop r')) Z inj (repl hp n .dead) pin:=by
  obtain ⟨hnx,b,tmps,D,fn,h1,h2,h3,h4⟩:=h.blk n _ hn
  exact ⟨b,_,h1,h2,rfl,rfl,fun r' hr=>qjp h hn rfl h1 h2 hr trivial (fun _=>trivial)⟩
theorem qgy : ∀ (vs : List V) (k t : Nat) (v : V),find (Ks k vs) t = some v→k≤t∧vs[t - k]? = some v
  | [],k,t,v,h=>by simp [Ks,find] at h
  | x::r,k,t,v,h=>by
    simp only [Ks,Kh] at h
    split at h
    · rename_i e;subst e;cases h;simp
    · rename_i e
      obtain ⟨h1,h2⟩:=qgy r (k + 1) t v h
      refine ⟨q6,?_⟩
      obtain ⟨m,hm⟩ : ∃ m,t - k = m + 1:=⟨t - k - 1,q6⟩
      have : t - (k + 1) = m:=by omega
      rw [this] at h2
      rw [hm];simpa using h2
theorem qst {vs : List V} {xs : Array Value} (n : Nat) (h : LRel w Z inj nx vs xs) : Yc w Z inj nx (Ks 0 vs) (xs ++ Array.replicate (n - xs.size) undef):=by
  intro t v ht
  obtain ⟨_,h2⟩:=qgy vs 0 t v ht
  simp at h2
  have hlt : t < xs.size:=by rw [← h.1];exact K4 h2
  obtain ⟨x,hx⟩:=Kp hlt
  exact ⟨x,by rw [Array.getElem?_append_left hlt];exact hx,h.2 t v x h2 hx⟩
theorem qjr : ∀ (ps : List Tmp) (vs : List V) (xs : List Value) (s : List (Nat × V)) (tmps : Array Value),vs.length = xs.length→(∀ (i : Nat) (d : V) (c : Value),vs[i]? = some d→xs[i]? = some c→RelV w Z inj nx d c)→(∀ p∈ps,p < tmps.size)→
    Yc w Z inj nx s tmps→Yc w Z inj nx (q11 s ps vs) ((ps.zip xs).foldl (fun tmps (x : Tmp × Value)=>tmps.setIfInBounds x.1 x.2) tmps)∧((ps.zip xs).foldl (fun tmps (x : Tmp × Value)=>tmps.setIfInBounds x.1 x.2) tmps).size = tmps.size
  | [],vs,xs,s,tmps,hl,hr,hp,h=>by simpa [q11] using h
  | p::ps,[],[],s,tmps,hl,hr,hp,h=>by simpa [q11] using h
  | p::ps,v::vs,x::xs,s,tmps,hl,hr,hp,h=>by
    have hv:=hr 0 v x rfl rfl
    have h1:=h.put hv (hp p qd)
    obtain ⟨a,b⟩:=qjr ps vs xs _ _ (by simpa using hl) (fun i d c hd hc=>hr (i + 1) d c (by simpa using hd) (by simpa using hc)) (fun q hq=>by simpa using hp q (by simp [hq])) h1
    refine ⟨by simpa [q11] using a,by simpa using b⟩
  | p::ps,[],x::xs,s,tmps,hl,hr,hp,h=>by simp at hl
  | p::ps,v::vs,[],s,tmps,hl,hr,hp,h=>by simp at hl
theorem qi1 {fn : Func} {st : AS} {v : V} (hT : Yj P T) {w0 : World} {Z0 : Nat→Prop} {inj0 : Inj} {hp0 : List (Nat × Blk)} {R : Ending→World→Prop} (hres : resV T st fn.results.toList = some v)
    (hR : ∀ x w' Z' inj',RelH w' Z' inj' st.hp st.nx→Ext w0 Z0 inj0 hp0 w' Z' inj' st.hp pin→RelV w' Z' inj' st.nx v x→R (.returned x) w') : ∀ (Ds : List Nat) (w : World) (Z : Nat→Prop) (inj : Inj) (a : Act),
      Yc w Z inj st.nx st.sl a.tmps→RelH w Z inj st.hp st.nx→Ext w0 Z0 inj0 hp0 w Z inj st.hp pin→Ds.Nodup→(∀ D∈Ds,w.heap[D]? = some (.deferred (some []))∧w0.heap.size≤D)→
      LeavesInM (Fw none) 0 P fn a.tmps R (Ds.map fun D=>{target:=.collected D,args:=#[]}) .returning w
  | [],w,Z,inj,a,hs,hh,he,_,_=>by
    obtain ⟨x,hx,hv⟩:=qsx (a:=a) hT hh hs hres
    exact ⟨x,hx,hR x w Z inj hh he hv⟩
  | D::Ds,w,Z,inj,a,hs,hh,he,hnd,hm=>by
    obtain ⟨hD,hlt⟩:=hm D qd
    have hnd':=List.nodup_cons.1 hnd
    refine ⟨qd,.inl ⟨D,_,rfl,run_takeDeferred hD,?_⟩⟩
    have hother : ∀ k,k≠D→(w.putObj D (.deferred none)).heap[k]? = w.heap[k]?:=fun k hk=>World.putObj_heap_other hk
    have hzD : ¬ Z D:=fun hz=>by obtain ⟨c,e,f,hc⟩:=hh.zc D hz;rw [hD] at hc;cases hc
    have himD : ¬ im st.hp inj D:=fun hi=>by rcases hh.im_obj hi with ⟨_,_,e⟩ | ⟨_,e⟩ | ⟨_,_,e⟩ <;> rw [hD] at e <;> cases e
    have hz : ∀ k,Z k→(w.putObj D (.deferred none)).heap[k]? = w.heap[k]?:=fun k hk=>hother k fun e=>hzD (e ▸ hk)
    have hkb : Zb w (w.putObj D (.deferred none)):=fun k c e f hk=>by
      by_cases hkD : k = D
      · subst hkD;rw [hD] at hk;cases hk
      · exact ⟨c,e,f,(hother k hkD).trans hk,rfl⟩
    refine qi1 hT hres hR Ds _ Z inj a (hs.mono hz (fun _ h=>h) hkb (fun _ _=>rfl) (Nat.le_refl _)) ⟨?_,hh.sep,hh.out,fun k hk=>by simpa using hh.zs k hk,?_⟩ ?_ hnd'.2 ?_
    · intro n b hn
      obtain ⟨h1,h2⟩:=hh.blk n b hn
      exact ⟨h1,h2.mono hz (fun _ h=>h) hkb (fun _ _=>rfl) (Nat.le_refl _) h1 fun p hp hl=>hother _ fun e=>himD ⟨n,b,p.2,hn,hl,by rw [← e];exact hp⟩⟩
    · intro k hk
      obtain ⟨c,e,f,hc⟩:=hh.zc k hk
      exact ⟨c,e,f,(hz k hk).trans hc⟩
    · refine ⟨by simpa using he.size,fun b hb hi=>(hother b q6).trans (he.keep b hb hi),he.imm,?_,?_,he.zin,he.zout,he.pinj,he.tape,he.os,he.output,fun x=>(qd6 (fun _ _ _=>by rw [hD];simp) (fun _ _ _=>qd) x).trans (he.frz x)⟩
      · intro b c e f hb
        obtain ⟨c1,e1,f1,h1,s1⟩:=he.big b c e f hb
        obtain ⟨c2,e2,f2,h2,s2⟩:=hkb b c1 e1 f1 h1
        exact ⟨c2,e2,f2,h2,s2.trans s1⟩
      · intro b r hb
        obtain ⟨r1,h1,s1⟩:=he.loops b r hb
        exact ⟨r1,(hother b (by have:=Zk hb;omega)).trans h1,s1⟩
    · intro D' hD'
      obtain ⟨h1,h2⟩:=hm D' (by simp [hD'])
      exact ⟨(hother D' (fun e=>hnd'.1 (e ▸ hD'))).trans h1,h2⟩
end
end Go.Am
namespace Go.Am
open Go
variable {P : Program} {T : Tab}
def wpL (F : Fence) (P : Program) (c : Code) (Q : Exit→Act→World→Prop) (a : Act) (w : World) : Prop:=
  ∀ (b : Frame) (k : List Item) (cs : List Frame),b.roundOf = F.round→F.fn b.fn→F.room (cs.length + 1 + 0)→
    ∃ e a' w',Q e a' w'∧ArrivesIn (Machine.fenced P F) P (lone (b.atR a (.code c::.inLoop c::k)) cs w) b k cs e a' w'
theorem qli {F : Fence} {c : Code} {Q : Exit→Act→World→Prop} {a : Act} {w : World} (h : c.wpIn F 0 P (Exit.then (wpL F P c Q) Q) a w) : wpL F P c Q a w:=by
  intro b k cs hro hb hr
  obtain ⟨e,a₁,w₁,hq,harr⟩:=h b (.inLoop c::k) cs hro hb hr
  cases e with
  | normal=>
    obtain ⟨e₂,a₂,w₂,hq₂,harr₂⟩:=hq b k cs hro hb hr
    exact ⟨e₂,a₂,w₂,hq₂,.of_steps (StepsIn.trans harr (.one (fenced_calm hb hr rfl) stepR_inLoop)) harr₂⟩
  | exit id=>exact ⟨_,a₁,w₁,hq,.pass (x:=.inLoop c) rfl (fun _ _=>.inl qd) harr⟩
  | goto l=>exact ⟨_,a₁,w₁,hq,.pass (x:=.inLoop c) rfl (fun _ _=>.inl qd) harr⟩
  | ret=>exact ⟨_,a₁,w₁,hq,.pass (x:=.inLoop c) rfl (fun _ _=>.inl qd) harr⟩
  | panic ch=>exact ⟨_,a₁,w₁,hq,.pass (x:=.inLoop c) rfl (fun _ _=>.inl qd) harr⟩
  | outgrown=>exact ⟨_,a₁,w₁,hq,.pass (x:=.inLoop c) rfl (fun _ _=>.inl qd) harr⟩
theorem qz6 {F : Fence} {c : Code} {Q : Exit→Act→World→Prop} {a : Act} {w : World} (h : wpL F P c Q a w) : (Code.loop c).wpIn F 0 P Q a w:=by
  intro b k cs hro hb hr
  obtain ⟨e,a',w',hq,harr⟩:=h b k cs hro hb hr
  exact ⟨e,a',w',hq,.of_steps (.one (fenced_calm hb hr rfl) stepR_loop) harr⟩
theorem qlh {F : Fence} {c : Code} {Q Q' : Exit→Act→World→Prop} {a : Act} {w : World} (h : wpL F P c Q a w) (hq : ∀ e a w,Q e a w→Q' e a w) : wpL F P c Q' a w:=
  fun b k cs h1 h2 h3=>let ⟨e,a',w',q,r⟩:=h b k cs h1 h2 h3;⟨e,a',w',hq _ _ _ q,r⟩
def CP (base : Nat) (w : World) (Z : Nat→Prop) (inj : Inj) (st : AS) (a : Act) (Ds : List Nat) (ex : Ex) (st' : AS) (e : Exit) (a' : Act) (w' : World) : Prop:=e = toE ex∧Ki base w Z inj st a Ds st' a' w'
def Kl (P : Program) (base : Nat) (c : Code) (st : AS) (ex : Ex) (st' : AS) : Prop:=
  ∀ (ro : Option Nat) (w : World) (Z : Nat→Prop) (inj : Inj) (a : Act) (Ds : List Nat),RelS w Z inj st a Ds→codeOk a.tmps.size c = true→base≤st.nx→Y3 ro w→
    c.wpIn (Fw ro) 0 P (CP base w Z inj st a Ds ex st') a w∧∀ d,c = .loop d→wpL (Fw ro) P d (CP base w Z inj st a Ds ex st') a w
section
variable {base : Nat} {st st1 st2 : AS} {ex : Ex}
theorem Jf {c : Code} (hc : ∀ d,c≠.loop d) (h : ∀ (ro : Option Nat) (w : World) (Z : Nat→Prop) (inj : Inj) (a : Act) (Ds : List Nat),RelS w Z inj st a Ds→codeOk a.tmps.size c = true→base≤st.nx→Y3 ro w→
    c.wpIn (Fw ro) 0 P (CP base w Z inj st a Ds ex st1) a w) : Kl P base c st ex st1:=
  fun ro w Z inj a Ds h1 h2 h3 h4=>⟨h ro w Z inj a Ds h1 h2 h3 h4,fun d hd=>absurd hd (hc d)⟩
theorem Ki.round {w : World} {Z : Nat→Prop} {inj : Inj} {a : Act} {Ds : List Nat} {a' : Act} {w' : World} {ro : Option Nat} (h : Ki base w Z inj st a Ds st1 a' w') (hro : Y3 ro w) : Y3 ro w':=by
  obtain ⟨_,_,_,_,e,_⟩:=h;exact hro.ext e
theorem qmx : Kl P base .skip st .nor st:=
  Jf qd fun ro w Z inj a Ds h _ hb _=>wpIn_skip ⟨rfl,Ki.refl h hb⟩
theorem qmo {id : Nat} : Kl P base (.exit id) st (.exit id) st:=
  Jf qd fun ro w Z inj a Ds h _ hb _=>wpIn_exit ⟨rfl,Ki.refl h hb⟩
theorem qmu : Kl P base .ret st .ret st:=
  Jf qd fun ro w Z inj a Ds h _ hb _=>wpIn_ret ⟨rfl,Ki.refl h hb⟩
theorem qmv {a b : Code} (h1 : Kl P base a st .nor st1) (h2 : Kl P base b st1 ex st2) : Kl P base (.seq a b) st ex st2:=by
  refine Jf qd fun ro w Z inj act Ds h hok hb hro=>wpIn_seq (wpIn_mono (h1 ro w Z inj act Ds h ?_ hb hro).1 ?_)
  · simp only [codeOk,Bool.and_eq_true] at hok;exact hok.1
  · rintro e a' w' ⟨rfl,hp⟩
    refine hp.bind fun Z' inj' Ds' hrel hsize hbase _ hcomp=>?_
    refine wpIn_mono (h2 ro w' Z' inj' a' Ds' hrel ?_ hbase (hp.round hro)).1 ?_
    · simp only [codeOk,Bool.and_eq_true] at hok;rw [hsize];exact hok.2
    · rintro e a2 w2 ⟨rfl,hp2⟩
      exact ⟨rfl,hcomp _ _ _ hp2⟩
theorem qmw {a b : Code} (h1 : Kl P base a st ex st1) (hx : ex≠.nor) : Kl P base (.seq a b) st ex st1:=by
  refine Jf qd fun ro w Z inj act Ds h hok hb hro=>wpIn_seq (wpIn_mono (h1 ro w Z inj act Ds h ?_ hb hro).1 ?_)
  · simp only [codeOk,Bool.and_eq_true] at hok;exact hok.1
  · rintro e a' w' ⟨rfl,hp⟩
    cases ex with
    | nor=>exact absurd rfl hx
    | exit id=>exact ⟨rfl,hp⟩
    | ret=>exact ⟨rfl,hp⟩
theorem qmn {c : Operand} {a b : Code} (hc : st.ev c = some (.d (.bool true))) (h1 : Kl P base a st ex st1) : Kl P base (.cond c a b) st ex st1:=by
  refine Jf qd fun ro w Z inj act Ds h hok hb hro=>wpIn_cond_true ?_ (h1 ro w Z inj act Ds h ?_ hb hro).1
  · have:=K3 h hc
    generalize act.eval c = x at this
    cases this with | d this=>cases this;rfl
  · simp only [codeOk,Bool.and_eq_true] at hok;exact hok.1
theorem qmm {c : Operand} {a b : Code} (hc : st.ev c = some (.d (.bool false))) (h1 : Kl P base b st ex st1) : Kl P base (.cond c a b) st ex st1:=by
  refine Jf qd fun ro w Z inj act Ds h hok hb hro=>wpIn_cond_false ?_ (h1 ro w Z inj act Ds h ?_ hb hro).1
  · have:=K3 h hc
    generalize act.eval c = x at this
    cases this with | d this=>cases this;rfl
  · simp only [codeOk,Bool.and_eq_true] at hok;exact hok.2
theorem qml {id : Nat} {a : Code} (h1 : Kl P base a st ex st1) : Kl P base (.block id a) st (ex.block id) st1:=by
  refine Jf qd fun ro w Z inj act Ds h hok hb hro=>wpIn_block (wpIn_mono (h1 ro w Z inj act Ds h hok hb hro).1 ?_)
  rintro e a' w' ⟨rfl,hp⟩
  cases ex with
  | nor=>exact ⟨rfl,hp⟩
  | ret=>exact ⟨rfl,hp⟩
  | exit i=>
    by_cases hi : i = id
    · simp only [toE,Exit.inBlock,hi,if_true,Ex.block];exact ⟨rfl,hp⟩
    · simp only [toE,Exit.inBlock,hi,if_false,Ex.block];exact ⟨rfl,hp⟩
theorem qfv {a : Code} (h : ∀ (ro : Option Nat) (w : World) (Z : Nat→Prop) (inj : Inj) (act : Act) (Ds : List Nat),RelS w Z inj st act Ds→codeOk act.tmps.size (.loop a) = true→base≤st.nx→Y3 ro w→
    wpL (Fw ro) P a (CP base w Z inj st act Ds ex st1) act w) : Kl P base (.loop a) st ex st1:=
  fun ro w Z inj act Ds h1 h2 h3 h4=>⟨qz6 (h ro w Z inj act Ds h1 h2 h3 h4),fun d hd=>by cases hd;exact h ro w Z inj act Ds h1 h2 h3 h4⟩
theorem qmp {a : Code} (h1 : Kl P base a st .nor st1) (h2 : Kl P base (.loop a) st1 ex st2) : Kl P base (.loop a) st ex st2:=by
  refine qfv fun ro w Z inj act Ds h hok hb hro=>qli (wpIn_mono (h1 ro w Z inj act Ds h hok hb hro).1 ?_)
  rintro e a' w' ⟨rfl,hp⟩
  refine hp.bind fun Z' inj' Ds' hrel hsize hbase _ hcomp=>?_
  refine qlh ((h2 ro w' Z' inj' a' Ds' hrel (by rw [hsize];exact hok) hbase (hp.round hro)).2 a rfl) ?_
  rintro e a2 w2 ⟨rfl,hp2⟩
  exact ⟨rfl,hcomp _ _ _ hp2⟩
theorem qmq {a : Code} (h1 : Kl P base a st ex st1) (hx : ex≠.nor) : Kl P base (.loop a) st ex st1:=by
  refine qfv fun ro w Z inj act Ds h hok hb hro=>qli (wpIn_mono (h1 ro w Z inj act Ds h hok hb hro).1 ?_)
  rintro e a' w' ⟨rfl,hp⟩
  cases ex with
  | nor=>exact absurd rfl hx
  | exit id=>exact ⟨rfl,hp⟩
  | ret=>exact ⟨rfl,hp⟩
theorem qmy {ρ : Nat→Nat} {fz ph : List Nat} {c : Code} (hw : Wk base ρ fz ph st st1) (h2 : Kl P base c st1 ex st2) : Kl P base c st ex st2:=by
  intro ro w Z inj a Ds h hok hb hro
  obtain ⟨hrel,he⟩:=q16 h hw
  have hcomp : ∀ e a' w',CP base w (wkZ Z inj st fz) (wkI inj ρ ph) st1 a Ds ex st2 e a' w'→CP base w Z inj st a Ds ex st2 e a' w':=by
    rintro e a' w' ⟨rfl,Z2,i2,D2,k1,k2,k3,k4,k5⟩
    exact ⟨rfl,Z2,i2,D2,k1,he.trans k2 (Nat.le_refl _),k3,k4,k5⟩
  obtain ⟨g1,g2⟩:=h2 ro w _ _ a Ds hrel hok hw.bs hro
  exact ⟨wpIn_mono g1 hcomp,fun d hd=>qlh (g2 d hd) hcomp⟩
theorem qn1 {ops : Array Oper} {ro : Option Nat} {w0 : World} {Z0 : Nat→Prop} {inj0 : Inj} {st0 : AS} {a0 : Act} {Ds0 : List Nat} {Q : Exit→Act→World→Prop} {l : List Oper} {st st' : AS} (hc : Yw P base ops l st st')
    (hd : ∀ o∈ops,Zl a0.tmps.size o.dst = true) (hQ : ∀ a' w',Ki base w0 Z0 inj0 st0 a0 Ds0 st' a' w'→Q .normal a' w') : ∀ (pre : List Oper) (a : Act) (w : World),ops.toList = pre ++ l→Ki base w0 Z0 inj0 st0 a0 Ds0 st a w→Y3 ro w→
    wpOpsIn (Fw ro) 0 P ops Q (List.range' pre.length l.length) a w:=by
  have one : ∀ {o : Oper} {l : List Oper} {st st1 st2 : AS},J0 P base ops o st st1→(∀ (pre : List Oper) (a : Act) (w : World),ops.toList = pre ++ l→Ki base w0 Z0 inj0 st0 a0 Ds0 st1 a w→Y3 ro w→wpOpsIn (Fw ro) 0 P ops Q (List.range' pre.length l.length) a w)→
      ∀ (pre : List Oper) (a : Act) (w : World),ops.toList = pre ++ o::l→Ki base w0 Z0 inj0 st0 a0 Ds0 st a w→Y3 ro w→wpOpsIn (Fw ro) 0 P ops Q (List.range' pre.length (o::l).length) a w:=by
    intro o l st st1 st2 hs ih pre a w he hp hro
    have ho : ops[pre.length]? = some o:=by rw [← Array.getElem?_toList,he];simp
    rw [List.length_cons,List.range'_succ,wpOpsIn_cons]
    refine qev ho ?_
    refine hp.bind fun Z' inj' Ds' hrel hsize hbase _ hcomp=>?_
    refine hs ro Q w Z' inj' a Ds' _ hrel (by rw [hsize];exact hd o (Array.mem_of_getElem? ho)) hbase hro fun a' w' hp'=>?_
    have:=ih (pre ++ [o]) a' w' (by rw [he];simp) (hcomp _ _ _ hp') (hp'.round hro)
    simpa using this
  induction hc with
  | nil=>intro pre a w _ hp _;simpa [wpOpsIn] using hQ _ _ hp
  | cons hs _ ih=>exact one (st2:=st) hs (ih hQ)
  | wk hw _ ih=>
    intro pre a w he hp hro
    refine ih hQ pre a w he ?_ hro
    obtain ⟨Z',inj',Ds',h1,h2,h3,h4,h5⟩:=hp
    obtain ⟨hrel,hext⟩:=q16 h1 hw
    exact ⟨_,_,Ds',hrel,h2.trans hext (Nat.le_refl _),h3,hw.bs,h5⟩
theorem qms {id : Nat} {ops : Array Oper} (hc : Yw P base ops ops.toList st st1) : Kl P base (.region id ops false) st .nor st1:=by
  refine Jf qd fun ro w Z inj a Ds h hok hb hro=>wpIn_region ?_
  have hd : ∀ o∈ops,Zl a.tmps.size o.dst = true:=by
    intro o ho
    simp only [codeOk,List.all_eq_true] at hok
    exact hok o (by simpa using ho)
  have:=qn1 (Q:=CP base w Z inj st a Ds .nor st1) hc hd (fun a' w' hp=>⟨rfl,hp⟩) [] a w rfl (Ki.refl h hb) hro
  rw [List.range_eq_range']
  simpa using this
theorem qmt {id : Nat} {ops : Array Oper} {F : List Fp} (hm : P.follows .mixedOrders = true) (hc : Zz P base ops F ops.toList st st1) (hd : q74 F ops = true) : Kl P base (.region id ops true) st .nor st1:=
  Jf qd fun ro w Z inj a Ds h hok hb hro=>qsk hm (qnm hd) hc h hok hb hro fun a' w' hp=>⟨rfl,hp⟩
theorem qol {ops : Array Oper} {o : Oper} {c : Call} {g : Operand} {n : Nat} {vs : List V} {s s1 s2 : List (Nat × V)} {ps : List Tmp} {assign body : Code}
    (hg : Qi ops st o = some true) (ho : o.op = .call c) (hcal : c.callee = .value g) (hev : st.ev g = some (.yld n)) (hvs : evL st.ev c.args.toList = some vs)
    (hblk : st.blk n = some (.loop s ps assign body .ready none)) (hlen : ps.length = vs.length)
    (h1 : Kl P st.nx assign {sl:=q11 s ps vs,hp:=st.hp,nx:=st.nx} .nor st1) (hb1 : st1.blk n = some (.loop s1 ps assign body .ready none))
    (h2 : Kl P st.nx body (st1.setBlk n (.loop s1 ps assign body .busy none)) ex st2) (hb2 : st2.blk n = some (.loop s2 ps assign body .busy none)) :
    J0 P base ops o st ({sl:=st.sl,hp:=repl st2.hp n (.loop s2 ps assign body (if ex = .nor then .ready else .done) ex.code),nx:=st2.nx : AS}.putD o.dst (.d (.bool (decide (ex = .nor))))):=by
  intro ro Q w Z inj a Ds K h hd hb hro hK
  unfold Jp
  rw [q2o h hg]
  simp only [if_true]
  refine ⟨fun _ _=>trivial,?_⟩
  have hr:=K3 h hev
  obtain ⟨b,r,hi,hw,es,ep,eps,eas,ebo,hok,hsl,_⟩:=qei (ls':=.ready) (pe':=none) (pin:=0) h.heap hblk
  generalize hge : a.eval g = gv at hr
  cases hr with | @yld _ b' o' hlt hi'=>
  rw [hi] at hi';cases hi'
  have hl:=q7a h hvs
  have e2 : (c.args.toList.map a.eval).toArray = c.args.map a.eval:=by apply Array.ext';simp
  rw [e2] at hl
  have hsz : (c.args.map a.eval).size = r.params.size:=by rw [← hl.1,eps];simp [hlen]
  have hrun : (execOp a.eval o).run P w = .ok (.round b r.fn ((r.params.zip (c.args.map a.eval)).foldl (fun tmps (t,a)=>tmps.setIfInBounds t a) r.tmps) r.assign r.body) w:=by
    have:=run_yield (P:=P) hw hsz
    obtain ⟨dst,op,type,pos,after,guard⟩:=o
    simp only at ho;subst ho
    obtain ⟨cal,args,argTypes⟩:=c
    simp only at hcal;subst hcal
    simp only [execOp,resolve,Sem.run_bind,hge,Deferred.ofValue,Sem.run_pure,Result.andThen_ok,invoke]
    simpa using this
  rw [show (Fw ro).round = ro from rfl,Oper.semAt_eq ro _ o (by rintro c' h';rw [ho] at h';cases h'),hrun,Oper.uponIn_round]
  refine ⟨fun h=>by simp [Fw] at h,?_⟩
  refine roundIn_of_wpIn trivial ?_
  have hfold : (r.params.zip (c.args.map a.eval)).foldl (fun tmps (t,a)=>tmps.setIfInBounds t a) r.tmps = (ps.zip (c.args.map a.eval).toList).foldl (fun tmps (x : Tmp × Value)=>tmps.setIfInBounds x.1 x.2) r.tmps:=by
    rw [eps,← Array.foldl_toList,Array.toList_zip]
  obtain ⟨hset,hsize⟩:=qjr ps vs (c.args.map a.eval).toList s r.tmps (by rw [Array.length_toList];exact hl.1) (fun i d c h1 h2=>hl.2 i d c h1 (by rw [← Array.getElem?_toList];exact h2)) hok.2.2 hsl
  rw [hfold,eas,ebo]
  generalize (ps.zip (c.args.map a.eval).toList).foldl (fun tmps (x : Tmp × Value)=>tmps.setIfInBounds x.1 x.2) r.tmps = tm at hset hsize
  have hrel0 : RelS w Z inj {sl:=q11 s ps vs,hp:=st.hp,nx:=st.nx} {tmps:=tm,defers:=[]} []:=⟨hset,h.heap,rfl,qd,qd⟩
  have hro1 : Y3 (some b) w:=fun l hl=>by cases hl;exact ⟨r,hw⟩
  refine wpIn_mono (h1 (some b) w Z inj _ [] hrel0 (by show codeOk tm.size assign = true;rw [hsize];exact hok.1) (Nat.le_refl _) hro1).1 ?_
  rintro e a1 w1 ⟨rfl,Z1,inj1,Ds1,g1,g2,g3,g4,g5⟩
  have hn1 : n < st.nx:=(h.heap.blk n _ hblk).1
  obtain ⟨b1,r1,i1,w1h,es1,ep1,eps1,eas1,ebo1,hok1,hsl1,hh1,he1⟩:=qei (ls':=.busy) (pe':=none) (pin:=st.nx) g1.heap hb1
  rw [g2.pinj n hn1,hi] at i1;cases i1
  refine ⟨_,run_beginRound w1h es1,?_⟩
  have e5 : ({r1 with state:=.busy} : Loop) = {r1 with state:=.busy,pending:=none}:=by cases r1;simp only at ep1;subst ep1;rfl
  rw [e5]
  have hrel1 : RelS (w1.putObj b (.loop {r1 with state:=.busy,pending:=none})) Z1 inj1 (st1.setBlk n (.loop s1 ps assign body .busy none)) a1 Ds1:=
    ⟨g1.slots.mono (he1.zkeep g1.heap) he1.zin he1.big (fun _ _=>rfl) (Nat.le_refl _),hh1,g1.defs,g1.nodup,fun D hD=>he1.marks g1.heap (g1.marks D hD)⟩
  have hro2 : Y3 (some b) (w1.putObj b (.loop {r1 with state:=.busy,pending:=none})):=(hro1.ext g2).ext he1
  refine wpIn_mono (h2 (some b) _ Z1 inj1 a1 Ds1 hrel1 (by rw [g3];show codeOk tm.size body = true;rw [hsize];exact hok.2.1) g4 hro2).1 ?_
  rintro e a3 w3 ⟨rfl,Z3,inj3,Ds3,k1,k2,k3,k4,k5⟩
  obtain ⟨b3,r3,i3,w3h,es3,ep3,eps3,eas3,ebo3,hok3,hsl3,hh3,he3⟩:=qei (ls':=if ex = .nor then .ready else .done) (pe':=ex.code) (pin:=st.nx) k1.heap hb2
  have hi1 : inj1 n = some (b,0):=(g2.pinj n hn1).trans hi
  rw [k2.pinj n hn1,hi1] at i3;cases i3
  have hfin : K (a.put o.dst (.bool (decide (ex = .nor)))) (w3.putObj b (.loop {r3 with state:=if ex = .nor then .ready else .done,pending:=ex.code})):=by
    have hext : Ext w Z inj st.hp (w3.putObj b (.loop {r3 with state:=if ex = .nor then .ready else .done,pending:=ex.code})) Z3 inj3 (repl st2.hp n (.loop s2 ps assign body (if ex = .nor then .ready else .done) ex.code)) st.nx:=
      ((g2.trans he1 (Nat.le_refl _)).trans k2 (Nat.le_refl _)).trans he3 (Nat.le_refl _)
    exact hK _ _ (q2r h hb hext hh3 k4 (.d (.bool _)) hd)
  have hend:=run_endRound (P:=P) ex.code w3h
  cases ex with
  | nor=>exact ⟨_,_,hend,hfin⟩
  | ret=>exact ⟨_,_,hend,hfin⟩
  | exit id=>exact ⟨_,_,hend,hfin⟩
end
end Go.Am
namespace Go.Am
open Go
variable {P : Program} {T : Tab}
section
variable {base : Nat} {st st1 st2 : AS} {ex : Ex}
theorem qma {ro : Option Nat} {f : FuncId} {xs : Array Value} {w : World} {R : Ending→World→Prop} (h : CallsIn (Fw none) 0 P f xs w R) : CallsIn (Fw ro) 0 P f xs w R:=by
  cases ro <;> exact h
theorem qpv {w : World} {Ds : List Nat} (h : Ds.Nodup) (hm : ∀ D∈Ds,w.heap[D]? = some (.deferred (some []))) : (w.heap.size::Ds).Nodup:=
  List.nodup_cons.2 ⟨fun hc=>by have:=Zk (hm _ hc);omega,h⟩
theorem qmr {g : Operand} {ps : Array Tmp} {assign body : Code} {f : FuncId} {caps : List V} {v : V} {hp : List (Nat × Blk)} {nx : Nat} {pe : Option Code} {s : List (Nat × V)} {ls : LoopState}
    (hg : st.ev g = some (.fn f caps)∨∃ ds,st.ev g = some (.d (.fn f ds))∧caps = ds.map .d)
    (hgood : Zy P f (.yld st.nx::caps) ((st.nx,.loop st.sl ps.toList assign body .ready none)::st.hp) (st.nx + 1) v hp nx)
    (hfind : find hp st.nx = some (.loop s ps.toList assign body ls pe)) (hls : ls≠.busy) (hpe : pe = ex.code) : Kl P base (.rangeFunc g ps assign body) st ex {sl:=st.sl,hp:=repl hp st.nx .dead,nx:=nx}:=by
  refine Jf qd fun ro w Z inj a Ds h hok hb hro=>wpIn_rangeFunc fun fn _=>?_
  simp only [codeOk,Bool.and_eq_true,List.all_eq_true,Nat.blt_eq] at hok
  have hval : ∃ cs : Array Value,a.eval g = .func (.func f) #[] cs∧LRel w Z inj st.nx caps cs:=by
    rcases hg with hg | ⟨ds,hg,rfl⟩
    · have hr:=K3 h hg
      generalize a.eval g = gv at hr ⊢
      cases hr with | @fn _ _ cs h1 h2=>
      exact ⟨cs,rfl,h1,h2⟩
    · have hr:=K3 h hg
      generalize a.eval g = gv at hr ⊢
      cases hr with | d hr=>
      cases hr with | @fn _ _ cs h1 h2=>
      refine ⟨cs,rfl,by simpa using h1,fun i d c hd hc=>?_⟩
      simp only [List.getElem?_map,Option.map_eq_some_iff] at hd
      obtain ⟨d',hd,rfl⟩:=hd
      exact .d (h2 i d' c hd hc)
  obtain ⟨cs,hge,hcs⟩:=hval
  have rest : ∀ (w1 : World) (l : Nat) (mark : List Deferred) (r : Loop) (Dn : List Nat),(Instr.enterLoop fn a.tmps ps assign body (Fw ro).round).run P w = .ok (l,mark) w1→
      w1.heap[l]? = some (.loop r)→r.state = .ready→r.pending = none→
      RelH w1 Z (upd inj st.nx (some (l,0))) ((st.nx,.loop st.sl ps.toList assign body .ready none)::st.hp) (st.nx + 1)→
      Ext w Z inj st.hp w1 Z (upd inj st.nx (some (l,0))) ((st.nx,.loop st.sl ps.toList assign body .ready none)::st.hp) st.nx→
      mark = Dn.map (fun D=>{target:=.collected D,args:=#[]})→(Dn ++ Ds).Nodup→(∀ D∈Dn,w1.heap[D]? = some (.deferred (some []))∧w.heap.size≤D)→
      ∃ (l : Nat) (mark : List Deferred) (w₁ : World) (d : Deferred) (w₁' : World) (f : FuncId) (args : Array Value) (w₂ : World),
      (Instr.enterLoop fn a.tmps ps assign body (Fw ro).round).run P w = .ok (l,mark) w₁∧
      (resolve a.eval (rangeCall g l) 0).run P w₁ = .ok d w₁'∧
      (∀ f',Target.leads P w₁' d.target d.args = some f'→(Fw ro).fn f')∧
      (invoke d.target d.args).run P w₁' = .ok (.enter f args) w₂∧
      ((Fw ro).depth.isSome = true→1≤0)∧
      CallsIn (Fw ro) (0 - 1) P f args w₂ (rangePost (Fw ro) 0 P l (CP base w Z inj st a Ds ex {sl:=st.sl,hp:=repl hp st.nx .dead,nx:=nx}) {a with defers:=mark ++ a.defers}):=by
    intro w1 l mark r Dn henter hl1 hst hpen hH1 hE1 hmark hnd hDn
    refine ⟨l,mark,w1,{target:=.fn (.func f) cs,args:=#[.func (.yield l) #[] #[]]},w1,f,#[.func (.yield l) #[] #[]] ++ cs,w1,henter,?_,fun _ _=>trivial,?_,fun h=>by simp [Fw] at h,?_⟩
    · simp only [resolve,hge];simp [Deferred.ofValue,Act.eval]
    · simp [invoke,hgood.1]
    · refine qma (CallsIn.mono (hgood.2 w1 Z _ _ hH1 ?_) ?_)
      · refine ⟨by simp [hcs.1];omega,fun i d c hd hc=>?_⟩
        cases i with
        | zero=>
          rw [Array.getElem?_append_left qd] at hc
          simp at hd hc;subst hd hc
          exact .yld q6 (Kn _ _ _)
        | succ i=>
          rw [Array.getElem?_append_right qd] at hc
          simp at hd hc
          exact (hcs.2 i d c hd hc).mono (fun b hz=>hE1.keep b (h.heap.zs b hz) (h.heap.z_im hz)) (fun _ h=>h) hE1.big (fun m hm=>hE1.pinj m hm) q6
      · rintro e w3 ⟨x,Z',inj',rfl,hh3,he3,hv3,hn3⟩
        obtain ⟨b3,r3,i3,w3h,es3,ep3,hdead⟩:=qsq (pin:=st.nx) hh3 hfind
        obtain ⟨hh4,he4⟩:=hdead {r3 with state:=.exhausted} rfl
        have hlb : b3 = l:=by
          have:=he3.pinj st.nx q6
          rw [Kn,i3] at this
          cases this;rfl
        subst hlb
        refine ⟨r3.pending,_,run_endLoop w3h (by rw [es3];exact hls),?_⟩
        have hE : Ext w Z inj st.hp (w3.putObj b3 (.loop {r3 with state:=.exhausted})) Z' inj' (repl hp st.nx .dead) st.nx:=(hE1.trans he3 q6).trans he4 (Nat.le_refl _)
        have hfin : Ki base w Z inj st a Ds {sl:=st.sl,hp:=repl hp st.nx .dead,nx:=nx} {a with defers:=mark ++ a.defers} (w3.putObj b3 (.loop {r3 with state:=.exhausted})):=by
          refine ⟨Z',inj',Dn ++ Ds,⟨?_,hh4,?_,hnd,?_⟩,hE.pin_le hb,rfl,by show base≤nx;omega,?_⟩
          · exact h.slots.mono (hE.zkeep h.heap) hE.zin hE.big hE.pinj (by show st.nx≤nx;omega)
          · simp [hmark,h.defs]
          · intro D hD
            rcases List.mem_append.1 hD with hD | hD
            · obtain ⟨h5,h6⟩:=hDn D hD
              have h7:=he3.marks hH1 h5
              rw [World.putObj_heap_other (fun e=>by rw [e] at h7;rw [w3h] at h7;cases h7)]
              exact h7
            · exact hE.marks h.heap (h.marks D hD)
          · intro D hD
            rcases List.mem_append.1 hD with hD | hD
            · exact .inr (hDn D hD).2
            · exact .inl hD
        rw [ep3,hpe] at hfin
        rw [ep3,hpe]
        cases ex with
        | nor=>exact ⟨rfl,hfin⟩
        | exit id=>exact wpIn_exit ⟨rfl,hfin⟩
        | ret=>exact wpIn_ret ⟨rfl,hfin⟩
  have relb : ∀ (w1 : World) (l : Nat) (r : Loop),r.state = .ready→r.pending = none→r.tmps = a.tmps→r.params = ps→r.assign = assign→r.body = body→Yc w1 Z (upd inj st.nx (some (l,0))) (st.nx + 1) st.sl a.tmps→
      w1.heap[l]? = some (.loop r)→RelB w1 Z (upd inj st.nx (some (l,0))) (st.nx + 1) st.nx (.loop st.sl ps.toList assign body .ready none):=by
    rintro w1 l r e1 e2 e3 e4 e5 e6 hs hl
    obtain ⟨f1,f2,f3,f4,f5,f6,f7,f8⟩:=r
    simp only at e1 e2 e3 e4 e5 e6
    subst e1 e2 e3 e4 e5 e6
    exact ⟨l,_,_,_,Kn _ _ _,hl,⟨hok.1.2,hok.2,fun p hp=>hok.1.1 p hp⟩,hs⟩
  cases ro with
  | none=>
    have hW0 : RelH (w.alloc (.deferred (some []))) Z inj st.hp st.nx:=h.heap.grow fun b hb=>Zc w _ hb
    have hsl : ∀ o,Yc ((w.alloc (.deferred (some []))).alloc o) Z (upd inj st.nx (some (w.heap.size + 1,0))) (st.nx + 1) st.sl a.tmps:=fun o=>
      h.slots.mono (fun b hz=>by have:=h.heap.zs b hz;rw [Zc _ _ (by simp;omega),Zc _ _ this]) (fun _ h=>h)
        (fun b c e f hb=>by obtain ⟨c1,e1,f1,h1,s1⟩:=q1p w (.deferred (some [])) b c e f hb;obtain ⟨c2,e2,f2,h2,s2⟩:=q1p _ o b c1 e1 f1 h1;exact ⟨c2,e2,f2,h2,s2.trans s1⟩) (fun _ hm=>Ky _ _ hm) q6
    have hnew:=J4 (w.alloc (.deferred (some []))) (.loop {state:=.ready,pending:=none,fn,tmps:=a.tmps,params:=ps,assign,body,defers:=w.heap.size})
    rw [World.size_alloc] at hnew
    have hB:=relb _ (w.heap.size + 1) {state:=.ready,pending:=none,fn,tmps:=a.tmps,params:=ps,assign,body,defers:=w.heap.size} rfl rfl rfl rfl rfl rfl (hsl _) hnew
    have hn:=hW0.new (.loop {state:=.ready,pending:=none,fn,tmps:=a.tmps,params:=ps,assign,body,defers:=w.heap.size}) (.loop st.sl ps.toList assign body .ready none) 0 (by rw [World.size_alloc];exact hB)
    have he:=Ext.new hW0 (.loop {state:=.ready,pending:=none,fn,tmps:=a.tmps,params:=ps,assign,body,defers:=w.heap.size}) (.loop st.sl ps.toList assign body .ready none) 0
    rw [World.size_alloc] at hn he
    refine rest _ (w.heap.size + 1) _ _ [w.heap.size] (run_enterLoop_outer fn a.tmps ps assign body) hnew rfl rfl hn ((Ext.alloc _).trans he (Nat.le_refl _)) rfl (qpv h.nodup h.marks) ?_
    intro D hD
    simp at hD;subst hD
    exact ⟨by rw [Zc _ _ qd];exact J4 _ _,Nat.le_refl _⟩
  | some l0=>
    obtain ⟨r0,hr0⟩:=hro l0 rfl
    have hsl : ∀ o,Yc (w.alloc o) Z (upd inj st.nx (some (w.heap.size,0))) (st.nx + 1) st.sl a.tmps:=fun o=>
      h.slots.mono (fun b hz=>Zc _ _ (h.heap.zs b hz)) (fun _ h=>h) (q1p w o) (fun _ hm=>Ky _ _ hm) q6
    have hnew:=J4 w (.loop {state:=.ready,pending:=none,fn,tmps:=a.tmps,params:=ps,assign,body,defers:=r0.defers})
    have hB:=relb _ w.heap.size {state:=.ready,pending:=none,fn,tmps:=a.tmps,params:=ps,assign,body,defers:=r0.defers} rfl rfl rfl rfl rfl rfl (hsl _) hnew
    exact rest _ w.heap.size _ _ [] (run_enterLoop_inner hr0 fn a.tmps ps assign body) hnew rfl rfl (h.heap.new _ _ 0 hB) (Ext.new h.heap _ _ 0) rfl (by simpa using h.nodup) qd
theorem qmc {f : FuncId} {fn : Func} {c : Code} {vs : List V} {hp : List (Nat × Blk)} {nx : Nat} {v : V} (hT : Yj P T) (hf : P.funcs[f]? = some fn) (hb : fn.body = some c) (hname : (fn.name == "runtime.NumGoroutine") = false) (hok : codeOk fn.ntmps c = true) (hvs : vs.length ≤ fn.ntmps)
    (hc : Kl P nx c {sl:=Ks 0 vs,hp:=hp,nx:=nx} ex st) (hx : ex = .nor∨ex = .ret) (hres : resV T st fn.results.toList = some v) : Zy P f vs hp nx v st.hp st.nx:=by
  refine ⟨fun args w=>?_,fun w Z inj xs h hl=>?_⟩
  · unfold callFunc
    have hn' : ¬ fn.name = "runtime.NumGoroutine" := by simpa using hname
    simp [hf,hn',hb]
  · refine callsIn_of_wp_marks hf hb trivial ?_
    have hsz : (xs ++ Array.replicate (fn.ntmps - xs.size) undef).size = fn.ntmps:=by
      have:=hl.1
      simp;omega
    have h0 : RelS w Z inj {sl:=Ks 0 vs,hp:=hp,nx:=nx} {tmps:=xs ++ Array.replicate (fn.ntmps - xs.size) undef,defers:=[]} []:=⟨qst _ hl,h,rfl,qd,qd⟩
    refine wpIn_mono (hc none w Z inj _ [] h0 (by show codeOk (xs ++ Array.replicate (fn.ntmps - xs.size) undef).size c = true;rw [hsz];exact hok) (Nat.le_refl _) (fun l hl=>by cases hl)).1 ?_
    rintro e a' w' ⟨rfl,Z',inj',Ds',g1,g2,g3,g4,g5⟩
    have hL:=qi1 (P:=P) (fn:=fn) (pin:=nx) (w0:=w) (Z0:=Z) (inj0:=inj) (hp0:=hp) hT hres
      (R:=fun e w'=>∃ x Z' inj',e = .returned x∧RelH w' Z' inj' st.hp st.nx∧Ext w Z inj hp w' Z' inj' st.hp nx∧RelV w' Z' inj' st.nx v x∧nx≤st.nx)
      (fun x w' Z' inj' k1 k2 k3=>⟨x,Z',inj',rfl,k1,k2,k3,g4⟩) Ds' w' Z' inj' a' g1.slots g1.heap g2 g1.nodup (fun D hD=>⟨g1.marks D hD,(g5 D hD).resolve_left qd⟩)
    rcases hx with rfl | rfl
    · show LeavesInM (Fw none) 0 P fn a'.tmps _ a'.defers .returning w'
      rw [g1.defs];exact hL
    · show LeavesInM (Fw none) 0 P fn a'.tmps _ a'.defers .returning w'
      rw [g1.defs];exact hL
end
theorem qmb {f : FuncId} {vs : List V} {hp hp' hp1 : List (Nat × Blk)} {nx nx' nx1 : Nat} {v v1 : V} {ρ : Nat→Nat} {fz ph : List Nat} (h : Zy P f vs hp nx v hp' nx') (hw : Wk nx ρ fz ph {sl:=[(0,v)],hp:=hp',nx:=nx'} {sl:=[(0,v1)],hp:=hp1,nx:=nx1}) : Zy P f vs hp nx v1 hp1 nx1:=by
  refine ⟨h.1,fun w Z inj xs hh hl=>(h.2 w Z inj xs hh hl).mono ?_⟩
  rintro e w' ⟨x,Z',inj',rfl,hh',he,hv,hn⟩
  have hrel : RelS w' Z' inj' {sl:=[(0,v)],hp:=hp',nx:=nx'} {tmps:=#[x],defers:=[]} []:=by
    refine ⟨fun t u ht=>?_,hh',rfl,List.nodup_nil,qd⟩
    rw [Kh] at ht
    split at ht
    · rename_i e;subst e;cases ht;exact ⟨x,rfl,hv⟩
    · simp [find] at ht
  obtain ⟨hr3,he3⟩:=q16 hrel hw
  obtain ⟨y,hy,hr⟩:=hr3.slots 0 v1 (by simp [find])
  simp at hy;subst hy
  exact ⟨x,_,_,rfl,hr3.heap,he.trans he3 (Nat.le_refl _),hr,hw.bs⟩
theorem qmd (hT : Yj P T) (hm : P.follows .mixedOrders = true) {f : FuncId} {vs : List V} {hp : List (Nat × Blk)} {nx : Nat} {v : V} {hp' : List (Nat × Blk)} {nx' : Nat} (h : K0 P T f vs hp nx v hp' nx') : Zy P f vs hp nx v hp' nx':=by
  refine K0.rec (motive_1:=fun base c st ex st' _=>Kl P base c st ex st') (motive_2:=fun base ops dr l st st' _=>Ud P base ops dr l st st') (motive_3:=fun f vs hp nx v hp' nx' _=>Zy P f vs hp nx v hp' nx')
    ?_ ?_ ?_ ?_ ?_ ?_ ?_ ?_ ?_ ?_ ?_ ?_ ?_ ?_ ?_ ?_ ?_ ?_ ?_ ?_ ?_ ?_ ?_ ?_ ?_ ?_ h
  · exact qmx
  · exact fun _ _ h1 h2=>qmv h1 h2
  · exact fun _ hx h1=>qmw h1 hx
  · exact fun hc _ h1=>qmn hc h1
  · exact fun hc _ h1=>qmm hc h1
  · exact fun _ h1=>qml h1
  · exact qmo
  · exact qmu
  · exact fun _ _ h1 h2=>qmp h1 h2
  · exact fun _ hx h1=>qmq h1 hx
  · exact fun _ h1=>qms h1
  · exact fun _ hd h1=>qmt hm h1 hd
  · exact fun hw _ h1=>qmy hw h1
  · exact fun hg _ hf hls hpe h1=>qmr hg h1 hf hls hpe
  · exact fun {_ _ dr _}=>by cases dr <;> exact .nil
  · exact fun hg _ h1=>qmj hg h1
  · exact fun hg ho hf _ h1=>qmh hT hg ho hf h1
  · exact fun hg ho _ hn hh hf hF _ h1=>qmi hT hg ho hn hh hf hF h1
  · exact fun hg ho hc hfz _ hto hle hs hF _ h1 h2=>qmg hg ho hc hfz h1 hto hle hs hF h2
  · exact fun hg ho hc _ _ h1 h2=>Yw.cons (qya hg ho hc h1) h2
  · exact fun hg ho hc hlen hw1 _ hw3 hb _ h1 h2=>Yw.cons (qoi hg ho hc hlen hw1 h1 hw3 hb) h2
  · exact fun hg ho hcal hev hvs hblk hlen _ hb1 _ hb2 _ h1 h2 h3=>Yw.cons (qol hg ho hcal hev hvs hblk hlen h1 hb1 h2 hb2) h3
  · exact fun hw _ h1=>Yw.wk hw h1
  · exact fun hp _ _ h1 h2=>Zz.piv hp h1 h2
  · exact fun hf hb hname hok hvs _ hx hres h1=>qmc hT hf hb hname hok hvs h1 hx hres
  · exact fun _ hw h1=>qmb h1 hw
end Go.Am
namespace Go.Am
open Go
open Go.ChangeShapes Go.WideShapes Go.ChangeAt Go.RowKit Go.Deep
inductive CT where
  | int (k : IntKind)
  | bool
  | str
  | sl (l : List CT)
def q9q (P : Program) (f : TypeId→Option (List CT)) : Nat→List Field→Option (List CT)
  | _,[]=>some []
  | o,x::r=>match f x.type with
    | some a=>if x.offset = o∧P.cellsOf x.type = a.length then
        match q9q P f (o + a.length) r with
        | some b=>some (a ++ b)
        | none=>none
      else none
    | none=>none
def tyL (P : Program) : Nat→TypeId→Option (List CT)
  | 0,_=>none
  | f + 1,t=>match P.underlying t with
    | some .bool=>some [.bool]
    | some (.int k)=>some [.int k]
    | some .string=>some [.str]
    | some (.slice e)=>match tyL P f e with
      | some l=>if l.length = P.cellsOf e∧l.length≠0 then some [.sl l] else none
      | none=>none
    | some (.struct fs)=>match q9q P (tyL P f) 0 fs.toList with
      | some l=>if l.length = P.cellsOf t then some l else none
      | none=>none
    | _=>none
inductive Ty : CT→DV→Prop
  | int {k : IntKind} {n : Int} : (Lit.int k n).wf = true→Ty (.int k) (.int k n)
  | bool (b : Bool) : Ty .bool (.bool b)
  | str {s : ByteArray} : s.size≤maxLen→Ty .str (.str s)
  | nil (l : List CT) : Ty (.sl l) .nilsl
  | sl {l : List CT} {xs : List (List DV)} : xs.length≤maxLen→(∀ (i : Nat) (x : List DV),xs[i]? = some x→x.length = l.length)→
      (∀ (i : Nat) (x : List DV) (j : Nat) (c : CT) (d : DV),xs[i]? = some x→l[j]? = some c→x[j]? = some d→Ty c d)→Ty (.sl l) (.sl l.length xs)
section
variable {H : Type} {enc : TypeId × Value→H} {P : Program} {w : World} {base : Nat} {held : Bool}
def ZC (w : World) (b : Nat) : Prop:=∃ c e f,w.heap[b]? = some (.cells c e f)
theorem Ty.cell {c : CT} {d : DV} (h : Ty c d) : Y5 d = true:=by cases h <;> rfl
def Reads (w : World) (l : List CT) (cs : List Value) : Prop:=
  cs.length = l.length∧∃ ds : List DV,ds.length = l.length∧∀ (j : Nat) (c : CT) (v : Value),l[j]? = some c→cs[j]? = some v→∃ d,ds[j]? = some d∧Ty c d∧RelD w (ZC w) d v
theorem q56 {c : CT} {v : Value} {d : DV} (ht : Ty c d) (hr : RelD w (ZC w) d v) : Reads w [c] [v]:=by
  refine ⟨rfl,[d],rfl,fun j c' v' h1 h2=>?_⟩
  cases j with
  | zero=>simp at h1 h2;subst h1 h2;exact ⟨d,rfl,ht,hr⟩
  | succ j=>simp at h1
theorem qse {l l' : List CT} {cs cs' : List Value} (h : Reads w l cs) (h' : Reads w l' cs') : Reads w (l ++ l') (cs ++ cs'):=by
  obtain ⟨a1,ds,a2,a3⟩:=h
  obtain ⟨b1,ds',b2,b3⟩:=h'
  refine ⟨by simp [a1,b1],ds ++ ds',by simp [a2,b2],fun j c v hc hv=>?_⟩
  by_cases hj : j < l.length
  · rw [List.getElem?_append_left hj] at hc
    rw [List.getElem?_append_left q6] at hv
    obtain ⟨d,e1,e2⟩:=a3 j c v hc hv
    exact ⟨d,by rw [List.getElem?_append_left q6];exact e1,e2⟩
  · rw [List.getElem?_append_right q6] at hc
    rw [List.getElem?_append_right q6,a1] at hv
    obtain ⟨d,e1,e2⟩:=b3 _ c v hc hv
    exact ⟨d,by rw [List.getElem?_append_right q6,a2];exact e1,e2⟩
theorem ql8 {f : TypeId→Option (List CT)} {g : Field→List Value→Prop} (hg : ∀ (x : Field) (l : List CT) (cs : List Value),f x.type = some l→g x cs→Reads w l cs) :
    ∀ (fs : List Field) (o : Nat) (l : List CT) (cs : List Value),q9q P f o fs = some l→o + l.length = cs.length→(∀ x∈fs,g x ((cs.drop x.offset).take (P.cellsOf x.type)))→Reads w l (cs.drop o)
  | [],o,l,cs,h,hl,_=>by
    simp [q9q] at h;subst h
    simp at hl
    rw [hl]
    exact ⟨qd,[],rfl,qd⟩
  | x::r,o,l,cs,h,hl,hx=>by
    simp only [q9q] at h
    split at h <;> try simp at h
    rename_i a ha
    obtain ⟨⟨h1,h2⟩,h⟩:=h
    split at h <;> simp at h
    rename_i b hb
    subst h
    have e1:=hg x a _ ha (hx x qd)
    rw [h1,h2] at e1
    have e2:=ql8 hg r (o + a.length) b cs hb (by simp at hl;omega) (fun y hy=>hx y (by simp [hy]))
    have:=qse e1 e2
    rw [← List.drop_drop] at this
    rwa [List.take_append_drop] at this
theorem qbu : ∀ (f : Nat) (t : TypeId) (l : List CT) (fuel : Nat) (cs : List Value) (x : DataW H × List MemPlace),tyL P f t = some l→DataW.trod enc P w base (fun _=>true) held fuel t cs = some x→Reads w l cs
  | 0,t,l,fuel,cs,x,hl,h=>by simp [tyL] at hl
  | f + 1,t,l,fuel,cs,x,hl,h=>by
    simp only [tyL] at hl
    split at hl <;> try simp at hl
    · rename_i ht
      subst hl
      cases fuel with
      | zero=>simp [DataW.trod] at h
      | succ n=>
        unfold DataW.trod at h
        rw [ht] at h
        split at h <;> simp_all
        exact q56 (.bool _) (.bool _)
    · rename_i k ht
      subst hl
      obtain ⟨n,rfl,_,hw⟩:=DataW.trod_int ht h
      exact q56 (.int hw) (.int _ _)
    · rename_i ht
      subst hl
      cases fuel with
      | zero=>simp [DataW.trod] at h
      | succ n=>
        unfold DataW.trod at h
        rw [ht] at h
        split at h <;> simp_all
        exact q56 (.str q6) (.str _)
    · rename_i e ht
      split at hl <;> simp at hl
      rename_i le hle
      obtain ⟨⟨hlen,hne⟩,rfl⟩:=hl
      rcases open_slice ht h with ⟨rfl,_⟩ | ⟨a,len,cap,m,n,D,Pl,rfl,_,hlc,hcm,hm,_,hel⟩
      · exact q56 (.nil _) .nilsl
      · obtain rfl : cap = m:=by simpa using hm.symm
        have elem : ∀ i,i < cap→∃ cs',w.cells? base (a.add (i * P.cellsOf e)) (P.cellsOf e) = some cs'∧Reads w le cs':=by
          intro i hi
          obtain ⟨cs',h1,h2⟩:=hel i hi
          exact ⟨cs',h1,qbu f e le n cs' _ hle h2⟩
        have hpos : 0 < P.cellsOf e:=by rw [← hlen];exact List.length_pos_iff.2 hne
        by_cases hc0 : cap = 0
        · subst hc0
          have : len = 0:=by omega
          subst this
          exact q56 (.sl (xs:=[]) qd qd qd) (.slemp _ _)
        · have hspot : a.spot = none∧ZC w a.block:=by
            obtain ⟨cs',h1,_⟩:=elem 0 q6
            obtain ⟨_,h2,h3⟩:=World.cells?_some h1
            have:=h3 0 q6
            obtain ⟨v,hv⟩:=Yt (xs:=cs') (i:=0) q6
            rw [hv] at this
            simp [World.cell?,Addr.add] at this
            split at this <;> try simp at this
            rename_i c e' f' hc
            exact ⟨this.1,c,e',f',hc⟩
          obtain ⟨b,o,sp⟩:=a
          obtain ⟨hsp,hz⟩:=hspot
          simp only at hsp hz;subst hsp
          have elem2 : ∀ i,i < len→∃ ds : List DV,ds.length = le.length∧∀ (j : Nat) (c : CT),le[j]? = some c→∃ d v,ds[j]? = some d∧Ty c d∧w.cell? ⟨b,o + (i * le.length + j),none⟩ = some v∧RelD w (ZC w) d v:=by
            intro i hi
            obtain ⟨cs',h1,h4,ds,h5,h6⟩:=elem i q6
            obtain ⟨_,h2,h3⟩:=World.cells?_some h1
            refine ⟨ds,h5,fun j c hj=>?_⟩
            have hjl:=K4 hj
            obtain ⟨v,hv⟩:=Yt (xs:=cs') (i:=j) q6
            obtain ⟨d,g1,g2,g3⟩:=h6 j c v hj hv
            have:=h3 j q6
            rw [hv,J3,J3,← hlen,Nat.add_assoc] at this
            exact ⟨d,v,g1,g2,this,g3⟩
          obtain ⟨F,hF⟩:=choose_lt elem2
          have hget : ∀ (i : Nat) (x : List DV),((List.range len).map F)[i]? = some x→i < len∧x = F i:=by
            intro i x hx
            simp only [List.getElem?_map,Option.map_eq_some_iff] at hx
            obtain ⟨k,hk,rfl⟩:=hx
            have hi : i < len:=by simpa using K4 hk
            rw [List.getElem?_range hi] at hk
            cases hk
            exact ⟨hi,rfl⟩
          have hlen2 : ((List.range len).map F).length = len:=by simp
          have hrel : RelD w (ZC w) (.sl le.length ((List.range len).map F)) (.slice (some ⟨b,o,none⟩) ((List.range len).map F).length cap):=by
            refine .sl (by rw [hlen2];exact hlc) (fun _=>hz) ?_ ?_ ?_
            · intro i x hx
              obtain ⟨hi,rfl⟩:=hget i x hx
              exact (hF i hi).1
            · intro i x j d hx hd
              obtain ⟨hi,rfl⟩:=hget i x hx
              obtain ⟨c,hc⟩:=Yt (xs:=le) (i:=j) (by rw [← (hF i hi).1];exact K4 hd)
              obtain ⟨d',v,g1,g2,g3,g4⟩:=(hF i hi).2 j c hc
              rw [hd] at g1;cases g1
              exact ⟨g2.cell,v,g3⟩
            · intro i x j d v hx hd hv
              obtain ⟨hi,rfl⟩:=hget i x hx
              obtain ⟨c,hc⟩:=Yt (xs:=le) (i:=j) (by rw [← (hF i hi).1];exact K4 hd)
              obtain ⟨d',v',g1,g2,g3,g4⟩:=(hF i hi).2 j c hc
              rw [hd] at g1;cases g1
              rw [hv] at g3;cases g3
              exact g4
          rw [hlen2] at hrel
          refine q56 (.sl (by rw [hlen2];omega) ?_ ?_) hrel
          · intro i x hx
            obtain ⟨hi,rfl⟩:=hget i x hx
            exact (hF i hi).1
          · intro i x j c d hx hc hd
            obtain ⟨hi,rfl⟩:=hget i x hx
            obtain ⟨d',v,g1,g2,_⟩:=(hF i hi).2 j c hc
            rw [hd] at g1;cases g1
            exact g2
    · rename_i fs ht
      split at hl <;> simp at hl
      rename_i l' hl'
      obtain ⟨hlen,rfl⟩:=hl
      obtain ⟨xs,n,_,_,hcl,hxl,hf⟩:=DataW.trod_struct ht h
      have:=ql8 (P:=P) (w:=w) (f:=tyL P f) (g:=fun x cs=>∃ y,DataW.trod enc P w base (fun _=>true) held n x.type cs = some y) (fun x l cs h1 ⟨y,h2⟩=>qbu f x.type l n cs y h1 h2) fs.toList 0 l' cs hl' q6 ?_
      · simpa using this
      · intro x hx
        obtain ⟨i,hi⟩:=List.getElem?_of_mem hx
        have:=hf i x (by simpa using hi)
        obtain ⟨y,hy⟩:=Yt (xs:=xs) (i:=i) (by have:=K4 hi;simp at this;omega)
        exact ⟨y,by rw [this];exact hy⟩
end
end Go.Am
namespace Go.Am
open Go
open Go.ChangeShapes Go.WideShapes Go.ChangeAt Go.RowKit Go.Deep
theorem qyl {P : Program} {l : List (Nat × TI)} (h : l.map (fun x=>tiOf P x.1) = l.map (fun x=>some x.2)) : Yj P (ql4 l):=by
  intro t i ht
  have hm:=Zh (show find l t = some i from ht)
  obtain ⟨k,hk⟩:=List.getElem?_of_mem hm
  have:=congrArg (fun r=>r[k]?) h
  simp only [List.getElem?_map,hk,Option.map_some] at this
  exact Option.some.inj this
def aggT (P : Program) (t : TypeId) : Bool:=match P.underlying t with
  | some (.struct _) | some (.array _ _)=>true
  | _=>false
inductive Zx : List (Bool × List CT)→List DV→Prop
  | nil : Zx [] []
  | one {c : CT} {d : DV} {ps : List (Bool × List CT)} {ds : List DV} : Ty c d→Zx ps ds→Zx ((false,[c])::ps) (d::ds)
  | agg {l : List CT} {xs : List DV} {ps : List (Bool × List CT)} {ds : List DV} : xs.length = l.length→(∀ (j : Nat) (c : CT) (d : DV),l[j]? = some c→xs[j]? = some d→Ty c d)→Zx ps ds→Zx ((true,l)::ps) (.agg xs::ds)
section
variable {H : Type} {enc : TypeId × Value→H} {P : Program} {T : Tab} {W : World} {base : Nat}
theorem qlv {t : TypeId} {f : Nat} {l : List CT} {v : Value} {d : DataW H} {p : List MemPlace} (hag : aggT P t = false) (hl : tyL P f t = some l) (hok : Value.okWide P W .any base t v) (h : DataW.Trod enc P W 0 (fun _=>true) true t v d p) :
    ∃ c x,l = [c]∧Ty c x∧RelD W (ZC W) x v:=by
  obtain ⟨fuel,hf⟩:=h
  have hr:=qbu f t l fuel _ _ hl hf
  have key : v.cells = #[v]→∃ c,l = [c]→∃ x,Ty c x∧RelD W (ZC W) x v:=by
    intro hv
    rw [hv] at hr
    obtain ⟨h1,ds,h2,h3⟩:=hr
    match l,h1 with
    | [c],_=>
      obtain ⟨x,_,h5,h6⟩:=h3 0 c v rfl rfl
      exact ⟨c,fun _=>⟨x,h5,h6⟩⟩
  have fin : v.cells = #[v]→∃ c x,l = [c]∧Ty c x∧RelD W (ZC W) x v:=by
    intro hv
    have hlen:=hr.1
    rw [hv] at hlen hr
    match l,hlen,hr with
    | [c],_,hr=>
      obtain ⟨_,ds,h2,h3⟩:=hr
      obtain ⟨x,_,h5,h6⟩:=h3 0 c v rfl rfl
      exact ⟨c,x,rfl,h5,h6⟩
  cases f with
  | zero=>simp [tyL] at hl
  | succ f=>
    simp only [tyL] at hl
    split at hl <;> try simp at hl
    · rename_i ht;obtain ⟨b,rfl⟩:=okWide_bool ht hok;exact fin rfl
    · rename_i k ht;obtain ⟨n,rfl⟩:=okWide_int ht hok;exact fin rfl
    · rename_i ht;obtain ⟨s,rfl⟩:=okWide_string ht hok;exact fin rfl
    · rename_i e ht;obtain ⟨a0,len,cap,rfl⟩:=okWide_slice ht hok;exact fin rfl
    · rename_i fs ht;simp [aggT,ht] at hag
theorem qlu {t : TypeId} {f : Nat} {l : List CT} {v : Value} {d : DataW H} {p : List MemPlace} (hag : aggT P t = true) (hl : tyL P f t = some l) (hok : Value.okWide P W .any base t v) (h : DataW.Trod enc P W 0 (fun _=>true) true t v d p) :
    ∃ xs : List DV,xs.length = l.length∧(∀ (j : Nat) (c : CT) (d : DV),l[j]? = some c→xs[j]? = some d→Ty c d)∧RelD W (ZC W) (.agg xs) v:=by
  obtain ⟨fuel,hf⟩:=h
  have hv : ∃ cs,v = .agg cs:=by
    unfold aggT at hag
    unfold Value.okWide at hok
    split at hag
    · rename_i ht;simp only [ht] at hok;obtain ⟨cs,h,_⟩:=hok;exact ⟨cs,h⟩
    · rename_i ht;simp only [ht] at hok;obtain ⟨cs,h,_⟩:=hok;exact ⟨cs,h⟩
    · simp at hag
  obtain ⟨cs,rfl⟩:=hv
  obtain ⟨h1,ds,h2,h3⟩:=qbu f t l fuel _ _ hl hf
  simp only [Value.cells] at h1 h3
  refine ⟨ds,h2,fun j c d hc hd=>?_,.agg (by simpa [h2] using h1.symm) fun j d c hd hc=>?_⟩
  · obtain ⟨v,hv⟩:=Yt (xs:=cs.toList) (i:=j) (by rw [h1];exact K4 hc)
    obtain ⟨d',g1,g2,_⟩:=h3 j c v hc hv
    rw [hd] at g1;cases g1;exact g2
  · obtain ⟨ct,hct⟩:=Yt (xs:=l) (i:=j) (by rw [← h2];exact K4 hd)
    obtain ⟨d',g1,_,g3⟩:=h3 j ct c hct (by simpa using hc)
    rw [hd] at g1;cases g1;exact g3
theorem qfh {f : Nat} : ∀ (ts : List TypeId) (ps : List (Bool × List CT)) (vs : List Value) (ds : List (DataW H)) (p : List MemPlace),ts.map (fun t=>(aggT P t,tyL P f t)) = ps.map (fun x=>(x.1,some x.2))→
    (∀ (j : Nat) t v,ts[j]? = some t→vs[j]? = some v→Value.okWide P W .any base t v)→DataW.TrodAll enc P W 0 (fun _=>true) true ts vs ds p→
    ∃ xs : List DV,Zx ps xs∧xs.length = vs.length∧∀ (j : Nat) (x : DV) (v : Value),xs[j]? = some x→vs[j]? = some v→RelD W (ZC W) x v
  | [],ps,vs,ds,p,hp,hok,h=>by
    obtain ⟨rfl,rfl,rfl⟩:=trodAll_nil h
    cases ps with
    | nil=>exact ⟨[],.nil,rfl,qd⟩
    | cons _ _=>simp at hp
  | t::ts,ps,vs,ds,p,hp,hok,h=>by
    obtain ⟨v,vs',d,ds',q,q',rfl,rfl,rfl,h1,h2⟩:=trodAll_cons h
    cases ps with
    | nil=>simp at hp
    | cons pr ps=>
      obtain ⟨ag,l⟩:=pr
      simp only [List.map_cons,List.cons.injEq,Prod.mk.injEq] at hp
      obtain ⟨⟨hag,hl⟩,hp⟩:=hp
      obtain ⟨xs,g1,g2,g3⟩:=qfh ts ps vs' ds' q' hp (fun j t v ht hv=>hok (j + 1) t v (by simpa using ht) (by simpa using hv)) h2
      have hok0:=hok 0 t v rfl rfl
      cases ag with
      | false=>
        obtain ⟨c,x,rfl,k1,k2⟩:=qlv hag hl hok0 h1
        refine ⟨x::xs,.one k1 g1,by simp [g2],fun j y u hy hu=>?_⟩
        cases j with
        | zero=>simp at hy hu;subst hy hu;exact k2
        | succ j=>exact g3 j y u (by simpa using hy) (by simpa using hu)
      | true=>
        obtain ⟨zs,k0,k1,k2⟩:=qlu hag hl hok0 h1
        refine ⟨.agg zs::xs,.agg k0 k1 g1,by simp [g2],fun j y u hy hu=>?_⟩
        cases j with
        | zero=>simp at hy hu;subst hy hu;exact k2
        | succ j=>exact g3 j y u (by simpa using hy) (by simpa using hu)
theorem qz0 {F : FuncId} {vs : Array Value} {xs : List DV} (hT : Yj P T) (hm : P.follows .mixedOrders = true) (hp : Pure P T F xs (.bool true)) (hl : xs.length = vs.size) (hr : ∀ (j : Nat) (x : DV) (v : Value),xs[j]? = some x→vs[j]? = some v→RelD W (ZC W) x v) :
    Calls P F vs W fun e W'=>e = .returned (.bool true)∧Grown W W'∧Below W.heap.size W W':=by
  obtain ⟨v,hp',nx',r',he,hto,hle⟩:=hp
  have hg:=qmd hT hm he
  have h0 : RelH W (ZC W) (fun _=>none) [] 0:=⟨fun _ _ h=>by simp [find] at h,fun _ _ _ _ _ _ h=>by simp [find] at h,fun _ _ _ h=>by simp [find] at h,
    fun b ⟨c,e,f,h⟩=>Zk h,fun b h=>h⟩
  have hc:=hg.2 W (ZC W) (fun _=>none) vs h0 ⟨by simpa using hl,fun j x v hx hv=>by
    simp only [List.getElem?_map,Option.map_eq_some_iff] at hx
    obtain ⟨y,hy,rfl⟩:=hx
    exact .d (hr j y v hy hv)⟩
  refine (callsIn_wide (n:=0).1 hc).mono ?_
  rintro e W' ⟨x,Z',inj',rfl,hh,hext,hv,hn⟩
  have hD:=(q9r hh 8 hto hv).le hle
  cases hD
  have hk : ∀ k,k < W.heap.size→W'.heap[k]? = W.heap[k]?:=fun k hk=>hext.keep k hk (by rintro ⟨n,blk,o,h1,_⟩;simp [find] at h1)
  refine ⟨rfl,⟨⟨hext.os,hext.output,fun i hi=>?_⟩,hext.frz,hext.size⟩,⟨hext.os,hext.tape,hext.output,hext.size,hk⟩⟩
  rw [hk i hi]
  cases hw : W.heap[i]? with
  | none=>simp
  | some o=>cases o <;> simp
theorem qfi (hlay : laidOutB P = true) {W' : World} {sp : Nat→Bool} : ∀ (ts : List TypeId) (vs : List Value) (ds : List (DataW H)) (p : List MemPlace),(∀ t∈ts,P.readableRec t = true∧t < P.types.size)→DataW.TrodAll enc P W 0 (fun _=>true) true ts vs ds p→
    Below W.heap.size W W'→(∀ x∈p,x.block < W.heap.size∧sp x.block = true)→DataW.TrodAll enc P W' 0 sp true ts vs ds p
  | [],vs,ds,p,_,h,_,_=>by obtain ⟨rfl,rfl,rfl⟩:=trodAll_nil h;exact trodAll_mk0
  | t::ts,vs,ds,p,ht,h,hb,hp=>by
    obtain ⟨v,vs',d,ds',q,q',rfl,rfl,rfl,h1,h2⟩:=trodAll_cons h
    refine trodAll_cons_mk (WideElems.Trod_stays hlay (ht t qd).1 (ht t qd).2 h1 (fun x hx=>hb.same (hp x (by simp [hx])).1) (fun x hx=>(hp x (by simp [hx])).2))
      (qfi hlay ts vs' ds' q' (fun u hu=>ht u (by simp [hu])) h2 hb (fun x hx=>hp x (by simp [hx])))
theorem contract {f : Func} {F : FuncId} {s : ChangeSpec} {tb : TypeId} {fuel : Nat} {ps : List (Bool × List CT)} (hT : Yj P T) (hm : P.follows .mixedOrders = true) (hlay : laidOutB P = true)
    (hvars : s.vars = []) (hres : f.resultTypes = #[tb]) (hub : P.underlying tb = some .bool) (hread : ∀ t∈f.params.toList,P.readableRec t = true∧t < P.types.size)
    (hps : f.params.toList.map (fun t=>(aggT P t,tyL P fuel t)) = ps.map (fun x=>(x.1,some x.2)))
    (hs : ∀ ds : List (DataW H),ds.length = f.params.size→s.fn H ds = {results:=[.lit (.bool true)],args:=ds})
    (hpure : ∀ xs,Zx ps xs→Pure P T F xs (.bool true))
    {args : Array Value} {ds gs : List (DataW H)} {before : List MemPlace} (hval : ∀ (j : Nat) t v,f.params[j]? = some t→args[j]? = some v→Value.okWide P W .any base t v)
    (hW : DataW.Whole enc P f.params.toList s.vars false W args.toList ds gs before) :
    Calls P F args W fun e W'=>∃ v,e = .returned v∧s.post enc P f false true false false W args v W':=by
  have hW':=hW
  obtain ⟨p,q,hA,hV,rfl,hfz,hnd⟩:=hW
  rw [hvars] at hV
  obtain ⟨rfl,rfl⟩:=trodVars_none hV
  have hlt:=hW'.lt
  simp only [List.append_nil] at hW' hlt
  obtain ⟨xs,g1,g2,g3⟩:=qfh (base:=base) f.params.toList ps args.toList ds p hps (fun j t v ht hv=>hval j t v (by simpa using ht) (by simpa using hv)) hA
  refine (qz0 hT hm (hpure xs g1) (by simpa using g2) (fun j x v hx hv=>g3 j x v hx (by simpa using hv))).mono ?_
  rintro e W' ⟨rfl,hg,hb⟩
  have hlen : ds.length = f.params.size:=by
    have : ∀ (ts : List TypeId) (vs : List Value) (ds : List (DataW H)) (p : List MemPlace),DataW.TrodAll enc P W 0 (fun _=>true) true ts vs ds p→ds.length = ts.length:=by
      intro ts
      induction ts with
      | nil=>intro vs ds p h;obtain ⟨_,rfl,_⟩:=trodAll_nil h;rfl
      | cons t ts ih=>intro vs ds p h;obtain ⟨v,vs',d,ds',q,q',rfl,rfl,rfl,_,h2⟩:=trodAll_cons h;simp [ih _ _ _ h2]
    simpa using this _ _ _ _ hA
  have hfn:=hs (ds ++ []) (by simpa using hlen)
  refine ⟨_,rfl,post_of_same (pa:=p) (pv:=[]) hW' ?_ ?_ ?_ qd (hg.frame _) hg.2.1 (ok_one hres rfl (okWide_bool_mk hub _))⟩
  · intro b sp hd
    rw [hres,hfn]
    exact trodAll_cons_mk (shut_bool hub _) trodAll_mk0
  · intro sp hsp
    rw [hfn]
    show DataW.TrodAll enc P W' 0 sp true f.params.toList args.toList (ds ++ []) p
    rw [List.append_nil]
    exact qfi hlay _ _ _ _ hread hA hb fun x hx=>⟨hlt x hx,hsp x hx⟩
  · intro sp hsp
    rw [hfn,hvars]
    rfl
end
end Go.Am
namespace Go.Am
open Go
variable {P : Program} {T : Tab}
section
variable {base : Nat} {ops : Array Oper} {dr : Dr} {l : List Oper} {sl sl1 : List (Nat × V)} {hp hp1 : List (Nat × Blk)} {nx nx1 : Nat} {K : AS→Prop} {ty : TypeId} {pos : String} {af : Array Edge} {t : Tmp} {g : Option (Nat × Bool)} {v : V}
theorem qod {st : AS} {op : Op} (h : touch op = 0) : fp st op = (some [],[]):=by
  unfold touch at h
  split at h <;> first | rfl | (simp at h;done) | (exact absurd h qy)
theorem qpx {dr : Dr} {k : Nat} {st st1 : AS} {t : TypeId} {p : Operand} (h : okF dr k (fp st (.load t p)) = true) : okO dr k st (.load t p) st1 = true:=by
  cases dr with
  | none=>rfl
  | some F=>simp only [okF] at h;simp only [okO,h,Bool.true_and,q2l,touch]
theorem qim {dr : Dr} {k n es : Nat} {st st1 : AS} {op : Op} {xs : List (List DV)} {r : List (Nat × Blk)} (hh : st1.hp = (n,.dat es xs)::r) (h : okF dr k (fp st op) = true) : okO dr k st op st1 = true:=by
  cases dr with
  | none=>rfl
  | some F=>
    simp only [okF] at h
    simp only [okO,h,Bool.true_and,q2l,hh]
    split <;> rfl
theorem Zq {dr : Dr} {k : Nat} {st st1 : AS} {op : Op} (h : touch op = 0) : okO dr k st op st1 = true:=by
  cases dr with
  | none=>rfl
  | some F=>simp only [okO,qod h,qh5,Bool.true_and,q2l,h]
theorem fin {ex : Ex} {st : AS} {rs : List ResultVar} {v : V} {r r' : DV} (hx : ex = .nor∨ex = .ret) (hv : resV T st rs = some v) (ht : toD st.hp 8 v = some r') (he : r' = r) : (ex = .nor∨ex = .ret)∧∃ v r',resV T st rs = some v∧toD st.hp 8 v = some r'∧DLe r' r:=
  ⟨hx,v,r',hv,ht,he ▸ .refl _⟩
theorem qq2 {x y : Operand} {xt : TypeId} {i : TI} {k : IntKind} {n : Int} {m es off len : Nat} (hg : Qi ops ⟨sl,hp,nx⟩ ⟨some t,.indexAddr xt x y,ty,pos,af,g⟩ = some true) (hT : T xt = some i)
    (hx : AS.ev ⟨sl,hp,nx⟩ x = some (.hs m es off len)) (hy : AS.ev ⟨sl,hp,nx⟩ y = some (.d (.int k n))) (hk : i.kind = .slice) (he : es = i.esize) (h0 : 0≤n) (hi : n < len)
    (h : OpsK P T base ops dr l ⟨(t,.ref m es (off + n.toNat) 0)::sl,hp,nx⟩ K) : OpsK P T base ops dr (⟨some t,.indexAddr xt x y,ty,pos,af,g⟩::l) ⟨sl,hp,nx⟩ K:=
  Y6 hg (v:=.ref m es (off + n.toNat) 0) (st1:=⟨sl,hp,nx⟩) (by simp [opFn,hx,hy,hT,q2p,hk,he,h0,hi]) h (Zq rfl)
theorem qip {p : Operand} {xt : TypeId} {i : TI} {m es a j : Nat} {xs : List (List DV)} {cs r : List DV} {w : V} (hg : Qi ops ⟨sl,hp,nx⟩ ⟨some t,.load xt p,ty,pos,af,g⟩ = some true) (hT : T xt = some i)
    (hx : AS.ev ⟨sl,hp,nx⟩ p = some (.ref m es a j)) (hb : find hp m = some (.dat es xs)) (hi : xs[a]? = some cs) (hs : sub cs j i.size = some r) (hw : (Uz i.agg r).map .d = some w)
    (h : OpsK P T base ops dr l ⟨(t,w)::sl,hp,nx⟩ K) (hF : okF dr l.length (fp ⟨sl,hp,nx⟩ (.load xt p)) = true:=by rfl) : OpsK P T base ops dr (⟨some t,.load xt p,ty,pos,af,g⟩::l) ⟨sl,hp,nx⟩ K:=
  Y6 hg (v:=w) (st1:=⟨sl,hp,nx⟩) (by simp only [opFn,hx,hT,J8,AS.blk,hb,Nat.beq_refl,hi,hs,hw,Option.map_some]) h (qpx hF)
end
end Go.Am
