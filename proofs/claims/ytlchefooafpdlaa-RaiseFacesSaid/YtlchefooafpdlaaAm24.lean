/- A REGION THAT DRAWS ITS ORDER: the walk over every order. -/
import Derived.Test.YtlchefooafpdlaaAm23
namespace Go.Am
open Go
variable {P : Program}
section
variable {base : Nat} {ops : Array Oper}

theorem getD_false {l : Array Bool} {i : Nat} : l.getD i false = true ↔ l[i]? = some true := by
  rw [Array.getD_eq_getD_getElem?]
  cases l[i]? <;> simp
theorem getD_true {l : Array Bool} {i : Nat} : l.getD i true = false ↔ l[i]? = some false := by
  rw [Array.getD_eq_getD_getElem?]
  cases l[i]? <;> simp

/-- Where the states agree, name by name. -/
theorem relH_find {w : World} {Z : Nat → Prop} {inj : Inj} {hp hp2 : List (Nat × Blk)} {nx : Nat} (h : RelH w Z inj hp nx) (hs : ∀ m, find hp2 m = find hp m) : RelH w Z inj hp2 nx := by
  refine ⟨fun n b hb => h.blk n b (by rw [← hs]; exact hb), fun n m b c p q h1 h2 => h.sep n m b c p q (by rw [← hs]; exact h1) (by rw [← hs]; exact h2), fun n b p h1 => h.out n b p (by rw [← hs]; exact h1), h.zs, h.zc⟩
theorem ext_find {w w' : World} {Z Z' : Nat → Prop} {inj inj' : Inj} {hp hp' hp2 : List (Nat × Blk)} {pin : Nat} (h : Ext w Z inj hp w' Z' inj' hp' pin) (hs : ∀ m, find hp2 m = find hp' m) : Ext w Z inj hp w' Z' inj' hp2 pin :=
  { h with imm := fun b hb => h.imm b (by
      obtain ⟨n, c, o, h1, h2, h3⟩ := hb
      exact ⟨n, c, o, by rw [← hs]; exact h1, h2, h3⟩) }

/-- What an operation reads and writes at most. -/
abbrev fpO (F : List Fp) (ops : Array Oper) (i : Nat) : Fp := fpAt F (ops.size - (i + 1))

/-- The slot's last writer among the first m operations is the last that is listed. -/
def CutS (ops : Array Oper) (listed : Array Bool) (t : Tmp) (m : Nat) : Prop := ∀ (i : Nat) (o : Oper), ops[i]? = some o → o.dst = some t → (listed[i]? = some true ↔ i < m)
def CutB (F : List Fp) (ops : Array Oper) (listed : Array Bool) (q m : Nat) : Prop := ∀ (i : Nat) (o : Oper), ops[i]? = some o → q ∈ (fpO F ops i).2 → (listed[i]? = some true ↔ i < m)

/-- What stands while the operations come up in whatever order. -/
structure Mid (F : List Fp) (ops : Array Oper) (S : Nat → AS) (listed : Array Bool) (st : AS) : Prop where
  nx : st.nx = (S ops.size).nx
  sl : ∀ t m, m ≤ ops.size → CutS ops listed t m → st.get t = (S m).get t
  hp : ∀ q m, m ≤ ops.size → CutB F ops listed q m → find st.hp q = find (S m).hp q

abbrev Steps (P : Program) (F : List Fp) (ops : Array Oper) (S : Nat → AS) : Prop := ∀ (i : Nat) (o : Oper), ops[i]? = some o → StepF P ops o (fpO F ops i) (S i) (S (i + 1))

theorem between_sl {F : List Fp} {S : Nat → AS} (hS : Steps P F ops S) {t : Tmp} {j : Nat} : ∀ m, j ≤ m → m ≤ ops.size → (∀ (i : Nat) (o : Oper), j ≤ i → i < m → ops[i]? = some o → o.dst ≠ some t) → (S m).get t = (S j).get t
  | 0, h, _, _ => by have : j = 0 := by omega
                     subst this; rfl
  | m + 1, h, hm, hno => by
    by_cases hj : j = m + 1
    · subst hj; rfl
    · obtain ⟨o, ho⟩ := ex_getA (xs := ops) (i := m) (by omega)
      rw [(hS m o ho).sl t (hno m o (by omega) (by omega) ho)]
      exact between_sl hS m (by omega) (by omega) fun i o h1 h2 => hno i o h1 (by omega)

theorem between_hp {F : List Fp} {S : Nat → AS} (hS : Steps P F ops S) {q j : Nat} : ∀ m, j ≤ m → m ≤ ops.size → (∀ (i : Nat) (o : Oper), j ≤ i → i < m → ops[i]? = some o → q ∉ (fpO F ops i).2) → find (S m).hp q = find (S j).hp q
  | 0, h, _, _ => by have : j = 0 := by omega
                     subst this; rfl
  | m + 1, h, hm, hno => by
    by_cases hj : j = m + 1
    · subst hj; rfl
    · obtain ⟨o, ho⟩ := ex_getA (xs := ops) (i := m) (by omega)
      rw [(hS m o ho).hp q (hno m o (by omega) (by omega) ho)]
      exact between_hp hS m (by omega) (by omega) fun i o h1 h2 => hno i o h1 (by omega)

theorem nx_mono {F : List Fp} {S : Nat → AS} (hS : Steps P F ops S) {j : Nat} : ∀ m, j ≤ m → m ≤ ops.size → (S j).nx ≤ (S m).nx
  | 0, h, _ => by have : j = 0 := by omega
                  subst this; exact Nat.le_refl _
  | m + 1, h, hm => by
    by_cases hj : j = m + 1
    · subst hj; exact Nat.le_refl _
    · obtain ⟨o, ho⟩ := ex_getA (xs := ops) (i := m) (by omega)
      exact Nat.le_trans (nx_mono hS m (by omega) (by omega)) (hS m o ho).nx

theorem keys_all {F : List Fp} {S : Nat → AS} (hS : Steps P F ops S) (h0 : ∀ q, (S 0).nx ≤ q → find (S 0).hp q = none) : ∀ m, m ≤ ops.size → ∀ q, (S m).nx ≤ q → find (S m).hp q = none
  | 0, _, q, hq => h0 q hq
  | m + 1, hm, q, hq => by
    obtain ⟨o, ho⟩ := ex_getA (xs := ops) (i := m) (by omega)
    exact (hS m o ho).keys q hq (keys_all hS h0 m (by omega) q (Nat.le_trans (hS m o ho).nx hq))

/-- What stands of the world, with the numbers that are kept for the operations to come. -/
def Keep (ops : Array Oper) (S : Nat → AS) (base : Nat) (w0 : World) (Z0 : Nat → Prop) (inj0 : Inj) (a0 : Act) (Ds0 : List Nat) (listed : Array Bool) (st : AS) (a : Act) (w : World) : Prop :=
  ∃ Z inj Ds, RelS w Z inj st a Ds ∧ Ext w0 Z0 inj0 (S 0).hp w Z inj st.hp base ∧ a.tmps.size = a0.tmps.size ∧ (∀ D ∈ Ds, D ∈ Ds0 ∨ w0.heap.size ≤ D) ∧
    ∀ (i : Nat) (o : Oper), ops[i]? = some o → listed[i]? ≠ some true → ∀ m, (S i).nx ≤ m → m < (S (i + 1)).nx → inj m = none

theorem count_false {l : Array Bool} {i : Nat} {n : Nat} (hi : l[i]? = some false) (hn : l.toList.count false = n + 1) : (l.setIfInBounds i true).toList.count false = n := by
  have hlt : i < l.toList.length := by simpa using lt_sizeA hi
  rw [Array.toList_setIfInBounds, List.count_set hlt]
  have : l.toList[i] = false := by
    have := hi
    rw [← Array.getElem?_toList, List.getElem?_eq_getElem hlt] at this
    simpa using this
  simp [this, hn]

theorem draw_any {F : List Fp} {S : Nat → AS} (hD : DrawOk F ops) (hS : Steps P F ops S) (h0 : ∀ q, (S 0).nx ≤ q → find (S 0).hp q = none) {w0 : World} {Z0 : Nat → Prop} {inj0 : Inj} {a0 : Act} {Ds0 : List Nat} {ro : Option Nat} {Q : Exit → Act → World → Prop} (hb0 : base ≤ (S 0).nx)
    (hd : ∀ (i : Nat) (o : Oper), ops[i]? = some o → dstOk a0.tmps.size o.dst = true)
    (hQ : ∀ a' w', PostAt base w0 Z0 inj0 (S 0) a0 Ds0 (S ops.size) a' w' → Q .normal a' w') : ∀ (fuel : Nat) (listed : Array Bool) (a : Act) (w : World) (st : AS),
      listed.size = ops.size → listed.toList.count false = fuel → Adm ops (fun i => listed[i]? = some true) → Keep ops S base w0 Z0 inj0 a0 Ds0 listed st a w → roundOk ro w → Mid F ops S listed st →
      wpAnyIn (Fw ro) 0 P .any ops Q fuel listed a w := by
  intro fuel
  induction fuel with
  | zero =>
    intro listed a w st hsz hc _ hp _ hph
    have hall : ∀ (i : Nat), i < ops.size → listed[i]? = some true := by
      intro i hi
      have h := List.count_eq_zero.1 hc
      obtain ⟨b, hb⟩ := ex_getA (xs := listed) (i := i) (by omega)
      cases b with
      | true => exact hb
      | false => exact absurd (by simpa using Array.mem_of_getElem? hb) h
    refine ⟨?_, ?_⟩
    · rw [List.eq_nil_iff_forall_not_mem]
      intro j hj
      obtain ⟨h1, o, ho, _⟩ := mem_ready.1 hj
      rw [getD_true, hall j (lt_sizeA ho)] at h1
      cases h1
    · obtain ⟨Z, inj, Ds, h1, h2, h3, h4, _⟩ := hp
      have hhp : ∀ q, find (S ops.size).hp q = find st.hp q := fun q => (hph.hp q ops.size (Nat.le_refl _) fun i o ho _ => ⟨fun _ => lt_sizeA ho, fun h => hall i h⟩).symm
      refine hQ _ _ ⟨Z, inj, Ds, ⟨fun t v ht => ?_, ?_, h1.defs, h1.nodup, h1.marks⟩, ext_find h2 hhp, h3, Nat.le_trans hb0 (nx_mono hS _ (Nat.zero_le _) (Nat.le_refl _)), h4⟩
      · rw [← hph.nx]
        refine h1.slots t v ?_
        have := hph.sl t ops.size (Nat.le_refl _) fun i o ho _ => ⟨fun _ => lt_sizeA ho, fun h => hall i h⟩
        exact this.trans ht
      · rw [← hph.nx]; exact relH_find h1.heap hhp
  | succ fuel ih =>
    intro listed a w st hsz hc hadm hp hro hph
    have hopen : ∃ i : Nat, listed[i]? = some false := by
      have : false ∈ listed.toList := List.count_pos_iff.1 (by omega)
      obtain ⟨i, hi⟩ := List.getElem?_of_mem this
      exact ⟨i, by simpa using hi⟩
    have hready : ∀ (n i : Nat), i = n → listed[i]? = some false → Region.ready .any ops listed ≠ [] := by
      intro n
      induction n using Nat.strongRecOn with
      | _ n ihn =>
        intro i hin hi
        subst hin
        obtain ⟨o, ho⟩ := ex_getA (xs := ops) (i := i) (by rw [← hsz]; exact lt_sizeA hi)
        by_cases hall : ∀ e ∈ o.after, Region.binds .any e = true → listed.getD e.on false = true
        · intro hnil
          have : i ∈ Region.ready .any ops listed := mem_ready.2 ⟨getD_true.2 hi, o, ho, hall⟩
          rw [hnil] at this; cases this
        · simp only [Classical.not_forall] at hall
          obtain ⟨e, he, hb, hno⟩ := hall
          have hlt := hD.edges i o ho e he hb
          obtain ⟨b, hbb⟩ := ex_getA (xs := listed) (i := e.on) (by have := lt_sizeA hi; omega)
          cases b with
          | true => exact absurd (getD_false.2 hbb) hno
          | false => exact ihn e.on hlt e.on rfl hbb
    refine ⟨fun hnil => ?_, fun i hi => ?_⟩
    · obtain ⟨i, hi⟩ := hopen
      exact absurd hnil (hready i i rfl hi)
    · obtain ⟨h1, o, ho, hall⟩ := mem_ready.1 hi
      rw [getD_true] at h1
      have hedge : ∀ e ∈ o.after, Region.binds .any e = true → (fun i => listed[i]? = some true) e.on := fun e he hb => getD_false.1 (hall e he hb)
      have hbeh : ∀ j, Behind ops o j → listed[j]? = some true := fun j hb => hb _ hadm hedge
      -- nothing that comes behind o is listed
      have hlater : ∀ (j : Nat) (oj : Oper), ops[j]? = some oj → Behind ops oj i → listed[j]? ≠ some true := by
        intro j oj hoj hb hj
        have := hb (fun i => listed[i]? = some true) hadm (fun e he hbd => hadm j oj hj hoj e he hbd)
        rw [h1] at this; cases this
      have hset : ∀ (j : Nat), (listed.setIfInBounds i true)[j]? = some true ↔ (j = i ∨ listed[j]? = some true) := by
        intro j
        by_cases hji : j = i
        · subst hji; simp [lt_sizeA h1]
        · rw [Array.getElem?_setIfInBounds_ne (Ne.symm hji)]; simp [hji]
      have hadm' : Adm ops (fun j => (listed.setIfInBounds i true)[j]? = some true) := by
        intro j oj hj hoj e he hb
        rw [hset] at hj ⊢
        rcases hj with rfl | hj
        · rw [ho] at hoj; cases hoj
          exact .inr (hedge e he hb)
        · exact .inr (hadm j oj hj hoj e he hb)
      have hsz' : (listed.setIfInBounds i true).size = ops.size := by simp [hsz]
      have hc' := count_false h1 hc
      have hin : i < ops.size := lt_sizeA ho
      have hnl : listed[i]? ≠ some true := by rw [h1]; simp
      -- the others, seen from o
      have hpair : ∀ (j : Nat) (oj : Oper), ops[j]? = some oj → j ≠ i → (listed[j]? = some true ↔ j < i) ∨ (ApartF (fpO F ops i) (fpO F ops j) ∧ (∀ t ∈ reads ops o, oj.dst ≠ some t) ∧ ∀ t, o.dst = some t → oj.dst ≠ some t) := by
        intro j oj hoj hji
        rcases Nat.lt_or_gt_of_ne hji with h | h
        · rcases hD.pairs j i oj o h hoj ho with hb | ⟨ha, h2, h3, h4⟩
          · exact .inl ⟨fun _ => h, fun _ => hbeh j hb⟩
          · exact .inr ⟨⟨fun m h5 h6 => ha.ww m h6 h5, ha.wr, ha.rw⟩, h3, fun t h5 h6 => h4 t h6 h5⟩
        · rcases hD.pairs i j o oj h ho hoj with hb | ⟨ha, h2, h3, h4⟩
          · exact .inl ⟨fun hl => absurd hl (hlater j oj hoj hb), fun hl => by omega⟩
          · exact .inr ⟨ha, h2, h4⟩
      -- where o reads, and where it touches the blocks, all is as in the text's order
      have hagW : ∀ m ∈ (fpO F ops i).2, find st.hp m = find (S i).hp m := fun m hm => by
        refine hph.hp m i (by omega) fun j oj hoj hmj => ?_
        by_cases hji : j = i
        · subst hji; exact ⟨fun hl => absurd hl hnl, fun hl => absurd hl (Nat.lt_irrefl _)⟩
        · rcases hpair j oj hoj hji with h | ⟨ha, _⟩
          · exact h
          · exact absurd hmj (ha.ww m hm)
      have hag : AgreeF ops o (fpO F ops i) (S i) st := by
        refine ⟨⟨hagW, ?_⟩, fun t ht => ?_⟩
        · have key : ∀ m, (∀ (j : Nat) (oj : Oper), ops[j]? = some oj → j ≠ i → ApartF (fpO F ops i) (fpO F ops j) → m ∉ (fpO F ops j).2) → find st.hp m = find (S i).hp m := fun m hm => by
            by_cases hmi : m ∈ (fpO F ops i).2
            · exact hagW m hmi
            refine hph.hp m i (by omega) fun j oj hoj hmj => ?_
            by_cases hji : j = i
            · subst hji; exact absurd hmj hmi
            · rcases hpair j oj hoj hji with h | ⟨ha, _⟩
              · exact h
              · exact absurd hmj (hm j oj hoj hji ha)
          cases hR : (fpO F ops i).1 with
          | none => exact fun m => key m fun j oj _ _ ha hmj => by have := ha.rw m hmj; rw [hR] at this; exact this
          | some r => exact fun m hmr => key m fun j oj _ _ ha hmj => by have := ha.rw m hmj; rw [hR] at this; exact this hmr
        · refine hph.sl t i (by omega) fun j oj hoj hdj => ?_
          by_cases hji : j = i
          · subst hji; exact ⟨fun hl => absurd hl hnl, fun hl => absurd hl (Nat.lt_irrefl _)⟩
          · rcases hpair j oj hoj hji with h | ⟨_, hr, _⟩
            · exact h
            · exact absurd hdj (hr t ht)
      have hstep := hS i o ho
      have hlow : (S (i + 1)).nx ≤ st.nx := by rw [hph.nx]; exact nx_mono hS _ (by omega) (Nat.le_refl _)
      have hfree : ∀ m, (S i).nx ≤ m → m < (S (i + 1)).nx → find st.hp m = none := fun m h2 h3 => by
        rw [hagW m (hstep.fresh m h2 h3)]
        exact keys_all hS h0 i (by omega) m h2
      obtain ⟨st3, hnx3, hgood, hs1, hs2, hh1, hh2⟩ := hstep.other st hlow hag hfree
      refine stepO_in ho ?_
      obtain ⟨Z, inj, Ds, k1, k2, k3, k4, k5⟩ := hp
      have hbi : base ≤ (S i).nx := Nat.le_trans hb0 (nx_mono hS _ (Nat.zero_le _) (by omega))
      refine hgood base ro Q w Z inj a Ds _ k1 (by rw [k3]; exact hd i o ho) hbi (by have := hstep.nx; omega) hro (k5 i o ho hnl) fun a' w' hp' => ?_
      obtain ⟨Z', inj', Ds', g1, g2, g3, g4, g5⟩ := hp'
      refine ih _ a' w' st3 hsz' hc' hadm' ⟨Z', inj', Ds', g1, k2.trans g2 (Nat.le_refl _), g3.trans k3, fun D hD => ?_, fun j oj hoj hlj m h2 h3 => ?_⟩ (hro.ext g2) ⟨hnx3.trans hph.nx, fun t m hm hcut => ?_, fun q m hm hcut => ?_⟩
      · rcases g4 D hD with h | h
        · exact k4 D h
        · exact .inr (Nat.le_trans k2.size h)
      · have hji : j ≠ i := by rintro rfl; exact hlj ((hset j).2 (.inl rfl))
        have hlj' : listed[j]? ≠ some true := fun e => hlj ((hset j).2 (.inr e))
        rw [g5 m (by
          have := nx_mono hS (j := j + 1) ops.size (by have := lt_sizeA hoj; omega) (Nat.le_refl _)
          have := hph.nx; omega) (by
          rcases Nat.lt_or_gt_of_ne hji with h | h
          · left; have := nx_mono hS (j := j + 1) i (by omega) (by omega); omega
          · right; have := nx_mono hS (j := i + 1) j (by omega) (by have := lt_sizeA hoj; omega); omega)]
        exact k5 j oj hoj hlj' m h2 h3
      · by_cases hdt : o.dst = some t
        · have him : i < m := (hcut i o ho hdt).1 ((hset i).2 (.inl rfl))
          rw [hs2 t hdt]
          refine (between_sl hS m (by omega) hm fun j oj hj1 hj2 hoj hdj => ?_).symm
          have hl := (hset j).1 ((hcut j oj hoj hdj).2 hj2)
          rcases hl with hl | hl
          · omega
          · rcases hpair j oj hoj (by omega) with h | ⟨_, _, hw⟩
            · have := h.1 hl; omega
            · exact hw t hdt hdj
        · rw [hs1 t hdt]
          refine hph.sl t m hm fun j oj hoj hdj => ?_
          have hji : j ≠ i := by rintro rfl; rw [ho] at hoj; cases hoj; exact hdt hdj
          rw [← hcut j oj hoj hdj, hset]
          simp [hji]
      · by_cases hq : q ∈ (fpO F ops i).2
        · have him : i < m := (hcut i o ho hq).1 ((hset i).2 (.inl rfl))
          rw [hh1 q hq]
          refine (between_hp hS m (by omega) hm fun j oj hj1 hj2 hoj hqj => ?_).symm
          have hl := (hset j).1 ((hcut j oj hoj hqj).2 hj2)
          rcases hl with hl | hl
          · omega
          · rcases hpair j oj hoj (by omega) with h | ⟨ha, _⟩
            · have := h.1 hl; omega
            · exact ha.ww q hq hqj
        · rw [hh2 q hq]
          refine hph.hp q m hm fun j oj hoj hqj => ?_
          have hji : j ≠ i := by rintro rfl; exact hq hqj
          rw [← hcut j oj hoj hqj, hset]
          simp [hji]

/-- The numbers up to N are set apart. -/
theorem relS_raise {w : World} {Z : Nat → Prop} {inj : Inj} {st : AS} {a : Act} {Ds : List Nat} {N : Nat} (h : RelS w Z inj st a Ds) (hN : st.nx ≤ N) : RelS w Z (fun m => if m < st.nx then inj m else none) { st with nx := N } a Ds := by
  have hi : ∀ n, n < st.nx → (fun m => if m < st.nx then inj m else none) n = inj n := fun n hn => by simp [hn]
  have hkb : KeepBig w w := fun _ c e f h => ⟨c, e, f, h, rfl⟩
  refine ⟨h.slots.mono (fun _ _ => rfl) (fun _ h => h) hkb hi hN, ⟨fun n b hb => ?_, fun n m b c p q h1 h2 h3 h4 h5 h6 => ?_, fun n b p h1 h2 h3 => ?_, h.heap.zs, h.heap.zc⟩, h.defs, h.nodup, h.marks⟩
  · obtain ⟨k1, k2⟩ := h.heap.blk n b hb
    exact ⟨Nat.lt_of_lt_of_le k1 hN, k2.mono (fun _ _ => rfl) (fun _ h => h) hkb hi hN k1 (fun _ _ _ => rfl)⟩
  · rw [if_pos (h.heap.blk n b h1).1] at h5
    rw [if_pos (h.heap.blk m c h2).1] at h6
    exact h.heap.sep n m b c p q h1 h2 h3 h4 h5 h6
  · rw [if_pos (h.heap.blk n b h1).1] at h3
    exact h.heap.out n b p h1 h2 h3

/-- **A REGION THAT DRAWS ITS ORDER.** -/
theorem region_draw {F : List Fp} {id : Nat} {w : World} {Z : Nat → Prop} {inj : Inj} {st st' : AS} {a : Act} {Ds : List Nat} {ro : Option Nat} {Q : Exit → Act → World → Prop} (hm : P.follows .mixedOrders = true) (hD : DrawOk F ops) (hc : ChainF P ops F ops.toList st st')
    (h : RelS w Z inj st a Ds) (hok : codeOk a.tmps.size (.region id ops true) = true) (hb : base ≤ st.nx) (hro : roundOk ro w) (hQ : ∀ a' w', PostAt base w Z inj st a Ds st' a' w' → Q .normal a' w') : (Code.region id ops true).wpIn (Fw ro) 0 P Q a w := by
  refine wpIn_region_any hm ?_
  obtain ⟨S, e0, e1, hS⟩ := chain_states hc
  subst e0
  rw [Array.length_toList] at e1
  subst e1
  have hS' : Steps P F ops S := fun i o ho => by
    have := hS i o (by rw [Array.getElem?_toList]; exact ho)
    rw [Array.length_toList] at this
    exact this
  have hN : (S 0).nx ≤ (S ops.size).nx := nx_mono hS' _ (Nat.zero_le _) (Nat.le_refl _)
  have hs : RelS { w with drawn := w.drawn + 1 } Z inj (S 0) a Ds := ⟨h.slots.mono (fun _ _ => rfl) (fun _ h => h) (fun b c e f hb => ⟨c, e, f, hb, rfl⟩) (fun _ _ => rfl) (Nat.le_refl _), h.heap.same rfl, h.defs, h.nodup, h.marks⟩
  have h0 : ∀ q, (S 0).nx ≤ q → find (S 0).hp q = none := fun q hq => by
    cases hf : find (S 0).hp q with
    | none => rfl
    | some b => have := (h.heap.blk q b hf).1; omega
  have hdst : ∀ (i : Nat) (o : Oper), ops[i]? = some o → dstOk a.tmps.size o.dst = true := by
    intro i o ho
    simp only [codeOk, List.all_eq_true] at hok
    exact hok o (by simpa using Array.mem_of_getElem? ho)
  have hno : ∀ (i : Nat), (Array.replicate ops.size false)[i]? ≠ some true := by
    intro i hi
    rw [Array.getElem?_replicate] at hi
    split at hi <;> simp at hi
  have hext : Ext w Z inj (S 0).hp { w with drawn := w.drawn + 1 } Z (fun m => if m < (S 0).nx then inj m else none) (S 0).hp base := by
    have e : Ext w Z inj (S 0).hp { w with drawn := w.drawn + 1 } Z inj (S 0).hp base := .same rfl rfl rfl rfl
    refine { e with imm := fun b hb' => e.imm b ?_, pinj := fun n hn => by simp; omega }
    obtain ⟨n, c, o, g1, g2, g3⟩ := hb'
    refine ⟨n, c, o, g1, g2, ?_⟩
    have := (h.heap.blk n c g1).1
    simpa [this] using g3
  refine draw_any hD hS' h0 hb hdst hQ ops.size _ a _ { S 0 with nx := (S ops.size).nx } (by simp) (by simp) ?_ ⟨Z, _, Ds, relS_raise hs hN, hext, rfl, fun _ h => .inl h, fun i o ho _ m h2 h3 => ?_⟩ (fun l hl => hro l hl) ⟨rfl, fun t m hm hcut => ?_, fun q m hm hcut => ?_⟩
  · intro j o hj ho
    exact absurd hj (hno j)
  · have := nx_mono hS' (j := 0) i (Nat.zero_le _) (by have := lt_sizeA ho; omega)
    simp; omega
  · refine (between_sl hS' m (Nat.zero_le _) hm fun i o _ hi ho hd => ?_).symm
    exact hno i ((hcut i o ho hd).2 hi)
  · refine (between_hp hS' m (Nat.zero_le _) hm fun i o _ hi ho hd => ?_).symm
    exact hno i ((hcut i o ho hd).2 hi)
end
end Go.Am
