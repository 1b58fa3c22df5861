/- A REGION THAT DRAWS ITS ORDER: the walk over every order. -/
import Derived.Test.YtcpogfjlehoabaaAm23
namespace Go.Am
open Go
variable {P : Program}
section
variable {base : Nat} {ops : Array Oper}

theorem getD_false {l : Array Bool} {i : Nat} : l.getD i false = true ↔ l[i]? = some true := by
  rw [Array.getD_eq_getD_getElem?]
  cases l[i]? <;> simp
theorem getD_true {l : Array Bool} {i : Nat} : l.getD i true = false ↔ l[i]? = some false := by
  rw [Array.getD_eq_getD_getElem?]
  cases l[i]? <;> simp

structure Same (st st2 : AS) : Prop where
  hp : st2.hp = st.hp
  nx : st2.nx = st.nx
  sl : ∀ t, st2.get t = st.get t

theorem PostAt.same {w : World} {Z : Nat → Prop} {inj : Inj} {st0 : AS} {a0 : Act} {Ds : List Nat} {st st2 : AS} {a : Act} {w' : World} (h : PostAt base w Z inj st0 a0 Ds st a w') (hs : Same st st2) : PostAt base w Z inj st0 a0 Ds st2 a w' := by
  obtain ⟨Z', inj', Ds', h1, h2, h3, h4, h5⟩ := h
  refine ⟨Z', inj', Ds', ⟨?_, ?_, h1.defs, h1.nodup, h1.marks⟩, ?_, h3, ?_, h5⟩
  · intro t v ht
    rw [hs.nx]
    exact h1.slots t v ((hs.sl t).symm.trans ht)
  · rw [hs.hp, hs.nx]; exact h1.heap
  · rw [hs.hp]; exact h2
  · rw [hs.nx]; exact h4

/-- The slot's last writer among the first m operations is the last that is listed. -/
def CutS (ops : Array Oper) (listed : Array Bool) (t : Tmp) (m : Nat) : Prop := ∀ (i : Nat) (o : Oper), ops[i]? = some o → o.dst = some t → (listed[i]? = some true ↔ i < m)
def CutH (ops : Array Oper) (listed : Array Bool) (m : Nat) : Prop := ∀ (i : Nat) (o : Oper), ops[i]? = some o → touch o.op = 2 → (listed[i]? = some true ↔ i < m)

/-- What stands while the operations come up in whatever order. -/
structure Mid (ops : Array Oper) (S : Nat → AS) (listed : Array Bool) (st : AS) : Prop where
  sl : ∀ t m, m ≤ ops.size → CutS ops listed t m → st.get t = (S m).get t
  hp : ∀ m, m ≤ ops.size → CutH ops listed m → st.hp = (S m).hp ∧ st.nx = (S m).nx

theorem between_sl {S : Nat → AS} (hS : ∀ (i : Nat) (o : Oper), ops[i]? = some o → Step P base ops o (S i) (S (i + 1))) {t : Tmp} {j : Nat} : ∀ m, j ≤ m → m ≤ ops.size → (∀ (i : Nat) (o : Oper), j ≤ i → i < m → ops[i]? = some o → o.dst ≠ some t) → (S m).get t = (S j).get t
  | 0, h, _, _ => by have : j = 0 := by omega
                     subst this; rfl
  | m + 1, h, hm, hno => by
    by_cases hj : j = m + 1
    · subst hj; rfl
    · obtain ⟨o, ho⟩ := ex_getA (xs := ops) (i := m) (by omega)
      rw [(hS m o ho).sl t (hno m o (by omega) (by omega) ho)]
      exact between_sl hS m (by omega) (by omega) fun i o h1 h2 => hno i o h1 (by omega)

theorem between_hp {S : Nat → AS} (hS : ∀ (i : Nat) (o : Oper), ops[i]? = some o → Step P base ops o (S i) (S (i + 1))) {j : Nat} : ∀ m, j ≤ m → m ≤ ops.size → (∀ (i : Nat) (o : Oper), j ≤ i → i < m → ops[i]? = some o → touch o.op ≠ 2) → (S m).hp = (S j).hp ∧ (S m).nx = (S j).nx
  | 0, h, _, _ => by have : j = 0 := by omega
                     subst this; exact ⟨rfl, rfl⟩
  | m + 1, h, hm, hno => by
    by_cases hj : j = m + 1
    · subst hj; exact ⟨rfl, rfl⟩
    · obtain ⟨o, ho⟩ := ex_getA (xs := ops) (i := m) (by omega)
      obtain ⟨h1, h2⟩ := (hS m o ho).hp (hno m o (by omega) (by omega) ho)
      obtain ⟨h3, h4⟩ := between_hp hS m (by omega) (by omega) fun i o h1 h2 => hno i o h1 (by omega)
      exact ⟨h1.trans h3, h2.trans h4⟩

theorem count_false {l : Array Bool} {i : Nat} {n : Nat} (hi : l[i]? = some false) (hn : l.toList.count false = n + 1) : (l.setIfInBounds i true).toList.count false = n := by
  have hlt : i < l.toList.length := by simpa using lt_sizeA hi
  rw [Array.toList_setIfInBounds, List.count_set hlt]
  have : l.toList[i] = false := by
    have := hi
    rw [← Array.getElem?_toList, List.getElem?_eq_getElem hlt] at this
    simpa using this
  simp [this, hn]

theorem draw_any {S : Nat → AS} (hD : DrawOk ops) (hS : ∀ (i : Nat) (o : Oper), ops[i]? = some o → Step P base ops o (S i) (S (i + 1))) {w0 : World} {Z0 : Nat → Prop} {inj0 : Inj} {a0 : Act} {Ds0 : List Nat} {ro : Option Nat} {Q : Exit → Act → World → Prop}
    (hd : ∀ (i : Nat) (o : Oper), ops[i]? = some o → dstOk a0.tmps.size o.dst = true)
    (hQ : ∀ a' w', PostAt base w0 Z0 inj0 (S 0) a0 Ds0 (S ops.size) a' w' → Q .normal a' w') : ∀ (fuel : Nat) (listed : Array Bool) (a : Act) (w : World) (st : AS),
      listed.size = ops.size → listed.toList.count false = fuel → Adm ops (fun i => listed[i]? = some true) → PostAt base w0 Z0 inj0 (S 0) a0 Ds0 st a w → roundOk ro w → Mid ops S listed st →
      wpAnyIn (Fw ro) 0 P .any ops Q fuel listed a w := by
  intro fuel
  induction fuel with
  | zero =>
    intro listed a w st hsz hc _ hp _ hph
    have hall : ∀ (i : Nat), i < ops.size → listed[i]? = some true := by
      intro i hi
      have h := List.count_eq_zero.1 hc
      obtain ⟨b, hb⟩ := ex_getA (xs := listed) (i := i) (by omega)
      cases b with
      | true => exact hb
      | false => exact absurd (by simpa using Array.mem_of_getElem? hb) h
    refine ⟨?_, ?_⟩
    · rw [List.eq_nil_iff_forall_not_mem]
      intro j hj
      obtain ⟨h1, o, ho, _⟩ := mem_ready.1 hj
      rw [getD_true, hall j (lt_sizeA ho)] at h1
      cases h1
    · refine hQ _ _ (hp.same ⟨?_, ?_, fun t => ?_⟩)
      · exact (hph.hp ops.size (Nat.le_refl _) fun i o ho _ => ⟨fun _ => lt_sizeA ho, fun h => hall i h⟩).1.symm
      · exact (hph.hp ops.size (Nat.le_refl _) fun i o ho _ => ⟨fun _ => lt_sizeA ho, fun h => hall i h⟩).2.symm
      · exact (hph.sl t ops.size (Nat.le_refl _) fun i o ho _ => ⟨fun _ => lt_sizeA ho, fun h => hall i h⟩).symm
  | succ fuel ih =>
    intro listed a w st hsz hc hadm hp hro hph
    have hopen : ∃ i : Nat, listed[i]? = some false := by
      have : false ∈ listed.toList := List.count_pos_iff.1 (by omega)
      obtain ⟨i, hi⟩ := List.getElem?_of_mem this
      exact ⟨i, by simpa using hi⟩
    have hready : ∀ (n i : Nat), i = n → listed[i]? = some false → Region.ready .any ops listed ≠ [] := by
      intro n
      induction n using Nat.strongRecOn with
      | _ n ihn =>
        intro i hin hi
        subst hin
        obtain ⟨o, ho⟩ := ex_getA (xs := ops) (i := i) (by rw [← hsz]; exact lt_sizeA hi)
        by_cases hall : ∀ e ∈ o.after, Region.binds .any e = true → listed.getD e.on false = true
        · intro hnil
          have : i ∈ Region.ready .any ops listed := mem_ready.2 ⟨getD_true.2 hi, o, ho, hall⟩
          rw [hnil] at this; cases this
        · simp only [Classical.not_forall] at hall
          obtain ⟨e, he, hb, hno⟩ := hall
          have hlt := hD.edges i o ho e he hb
          obtain ⟨b, hbb⟩ := ex_getA (xs := listed) (i := e.on) (by have := lt_sizeA hi; omega)
          cases b with
          | true => exact absurd (getD_false.2 hbb) hno
          | false => exact ihn e.on hlt e.on rfl hbb
    refine ⟨fun hnil => ?_, fun i hi => ?_⟩
    · obtain ⟨i, hi⟩ := hopen
      exact absurd hnil (hready i i rfl hi)
    · obtain ⟨h1, o, ho, hall⟩ := mem_ready.1 hi
      rw [getD_true] at h1
      have hedge : ∀ e ∈ o.after, Region.binds .any e = true → (fun i => listed[i]? = some true) e.on := fun e he hb => getD_false.1 (hall e he hb)
      have hbeh : ∀ j, Behind ops o j → listed[j]? = some true := fun j hb => hb _ hadm hedge
      -- nothing that comes behind o is listed
      have hlater : ∀ (j : Nat) (oj : Oper), ops[j]? = some oj → Behind ops oj i → listed[j]? ≠ some true := by
        intro j oj hoj hb hj
        have := hb (fun i => listed[i]? = some true) hadm (fun e he hbd => hadm j oj hj hoj e he hbd)
        rw [h1] at this; cases this
      have hset : ∀ (j : Nat), (listed.setIfInBounds i true)[j]? = some true ↔ (j = i ∨ listed[j]? = some true) := by
        intro j
        by_cases hji : j = i
        · subst hji; simp [lt_sizeA h1]
        · rw [Array.getElem?_setIfInBounds_ne (Ne.symm hji)]; simp [hji]
      have hadm' : Adm ops (fun j => (listed.setIfInBounds i true)[j]? = some true) := by
        intro j oj hj hoj e he hb
        rw [hset] at hj ⊢
        rcases hj with rfl | hj
        · rw [ho] at hoj; cases hoj
          exact .inr (hedge e he hb)
        · exact .inr (hadm j oj hj hoj e he hb)
      have hsz' : (listed.setIfInBounds i true).size = ops.size := by simp [hsz]
      have hc' := count_false h1 hc
      have hin : i < ops.size := lt_sizeA ho
      have hnl : listed[i]? ≠ some true := by rw [h1]; simp
      -- where o reads, and where it touches the blocks, all is as in the text's order
      have hag : Agree ops o (S i) st := by
        refine ⟨fun ht => ?_, fun t ht => ?_⟩
        · refine hph.hp i (by omega) fun j oj hoj htj => ?_
          rcases Nat.lt_trichotomy j i with h | h | h
          · rcases hD.pairs j i oj o h hoj ho with hb | ⟨hle, _⟩
            · exact ⟨fun _ => h, fun _ => hbeh j hb⟩
            · omega
          · subst h; exact ⟨fun hl => absurd hl hnl, fun hl => absurd hl (Nat.lt_irrefl _)⟩
          · rcases hD.pairs i j o oj h ho hoj with hb | ⟨hle, _⟩
            · exact ⟨fun hl => absurd hl (hlater j oj hoj hb), fun hl => by omega⟩
            · omega
        · refine hph.sl t i (by omega) fun j oj hoj hdj => ?_
          rcases Nat.lt_trichotomy j i with h | h | h
          · rcases hD.pairs j i oj o h hoj ho with hb | ⟨_, _, hr, _⟩
            · exact ⟨fun _ => h, fun _ => hbeh j hb⟩
            · exact absurd hdj (hr t ht)
          · subst h; exact ⟨fun hl => absurd hl hnl, fun hl => absurd hl (Nat.lt_irrefl _)⟩
          · rcases hD.pairs i j o oj h ho hoj with hb | ⟨_, hr, _, _⟩
            · exact ⟨fun hl => absurd hl (hlater j oj hoj hb), fun hl => by omega⟩
            · exact absurd hdj (hr t ht)
      obtain ⟨st3, hgood, hs1, hs2, hh1, hh2⟩ := (hS i o ho).other st hag
      refine stepO_in ho ?_
      refine hp.bind fun Z' inj' Ds' hrel hsize hbase _ hcomp => ?_
      refine hgood ro Q w Z' inj' a Ds' _ hrel (by rw [hsize]; exact hd i o ho) hbase hro fun a' w' hp' => ?_
      have hro' : roundOk ro w' := by obtain ⟨_, _, _, _, e, _⟩ := hp'; exact hro.ext e
      refine ih _ a' w' st3 hsz' hc' hadm' (hcomp _ _ _ hp') hro' ⟨fun t m hm hcut => ?_, fun m hm hcut => ?_⟩
      · by_cases hdt : o.dst = some t
        · have him : i < m := (hcut i o ho hdt).1 ((hset i).2 (.inl rfl))
          rw [hs2 t hdt]
          refine (between_sl hS m (by omega) hm fun j oj hj1 hj2 hoj hdj => ?_).symm
          have hl := (hset j).1 ((hcut j oj hoj hdj).2 hj2)
          rcases hl with hl | hl
          · omega
          · rcases hD.pairs i j o oj (by omega) ho hoj with hb | ⟨_, _, _, hw⟩
            · exact hlater j oj hoj hb hl
            · exact hw t hdt hdj
        · rw [hs1 t hdt]
          refine hph.sl t m hm fun j oj hoj hdj => ?_
          have hji : j ≠ i := by rintro rfl; rw [ho] at hoj; cases hoj; exact hdt hdj
          rw [← hcut j oj hoj hdj, hset]
          simp [hji]
      · by_cases ht2 : touch o.op = 2
        · have him : i < m := (hcut i o ho ht2).1 ((hset i).2 (.inl rfl))
          obtain ⟨e1, e2⟩ := hh2 ht2
          obtain ⟨b1, b2⟩ := between_hp hS (j := i + 1) m (by omega) hm fun j oj hj1 hj2 hoj htj => by
            have hl := (hset j).1 ((hcut j oj hoj htj).2 hj2)
            rcases hl with hl | hl
            · omega
            · rcases hD.pairs i j o oj (by omega) ho hoj with hb | ⟨hle, _⟩
              · exact hlater j oj hoj hb hl
              · omega
          exact ⟨e1.trans b1.symm, e2.trans b2.symm⟩
        · obtain ⟨e1, e2⟩ := hh1 ht2
          obtain ⟨b1, b2⟩ := hph.hp m hm fun j oj hoj htj => by
            have hji : j ≠ i := by rintro rfl; rw [ho] at hoj; cases hoj; exact ht2 htj
            rw [← hcut j oj hoj htj, hset]
            simp [hji]
          exact ⟨e1.trans b1, e2.trans b2⟩

/-- **A REGION THAT DRAWS ITS ORDER.** -/
theorem region_draw {id : Nat} {w : World} {Z : Nat → Prop} {inj : Inj} {st st' : AS} {a : Act} {Ds : List Nat} {ro : Option Nat} {Q : Exit → Act → World → Prop} (hm : P.follows .mixedOrders = true) (hD : DrawOk ops) (hc : Chain P base ops true ops.toList st st')
    (h : RelS w Z inj st a Ds) (hok : codeOk a.tmps.size (.region id ops true) = true) (hb : base ≤ st.nx) (hro : roundOk ro w) (hQ : ∀ a' w', PostAt base w Z inj st a Ds st' a' w' → Q .normal a' w') : (Code.region id ops true).wpIn (Fw ro) 0 P Q a w := by
  refine wpIn_region_any hm ?_
  obtain ⟨S, e0, e1, hS⟩ := chain_states hc
  subst e0
  rw [Array.length_toList] at e1
  subst e1
  have hs : RelS { w with drawn := w.drawn + 1 } Z inj (S 0) a Ds := ⟨h.slots.mono (fun _ _ => rfl) (fun _ h => h) (fun b c e f hb => ⟨c, e, f, hb, rfl⟩) (fun _ _ => rfl) (Nat.le_refl _), h.heap.same rfl, h.defs, h.nodup, h.marks⟩
  have hp : PostAt base w Z inj (S 0) a Ds (S 0) a { w with drawn := w.drawn + 1 } := ⟨Z, inj, Ds, hs, Ext.same rfl rfl rfl rfl, rfl, hb, fun _ h => .inl h⟩
  have hdst : ∀ (i : Nat) (o : Oper), ops[i]? = some o → dstOk a.tmps.size o.dst = true := by
    intro i o ho
    simp only [codeOk, List.all_eq_true] at hok
    exact hok o (by simpa using Array.mem_of_getElem? ho)
  have hno : ∀ (i : Nat), (Array.replicate ops.size false)[i]? ≠ some true := by
    intro i hi
    rw [Array.getElem?_replicate] at hi
    split at hi <;> simp at hi
  have hS' : ∀ (i : Nat) (o : Oper), ops[i]? = some o → Step P base ops o (S i) (S (i + 1)) := fun i o ho => hS i o (by rw [Array.getElem?_toList]; exact ho)
  refine draw_any hD hS' hdst hQ ops.size _ a _ (S 0) (by simp) (by simp) ?_ hp (fun l hl => hro l hl) ⟨fun t m hm hcut => ?_, fun m hm hcut => ?_⟩
  · intro j o hj ho
    exact absurd hj (hno j)
  · refine (between_sl hS' m (Nat.zero_le _) hm fun i o _ hi ho hd => ?_).symm
    exact hno i ((hcut i o ho hd).2 hi)
  · obtain ⟨b1, b2⟩ := between_hp hS' (j := 0) m (Nat.zero_le _) hm fun i o _ hi ho hd => hno i ((hcut i o ho hd).2 hi)
    exact ⟨b1.symm, b2.symm⟩
end
end Go.Am
