/- EACH OPERATION OF THE ABSTRACT MACHINE SAYS WHAT THE MODEL's DOES (1): the tables, constants, cells, loads and stores. -/
import Derived.Test.YtlchefooafpdlaaAm5
namespace Go.Am
open Go
variable {P : Program} {T : Tab}

theorem mapM_some {α β : Type} {f : α → Option β} : ∀ {l : List α} {r : List β}, l.mapM f = some r → r.length = l.length ∧ ∀ (i : Nat) (x : α), l[i]? = some x → ∃ y, r[i]? = some y ∧ f x = some y
  | [], r, h => by simp at h; subst h; simp
  | a :: l, r, h => by
    rw [List.mapM_cons] at h
    cases ha : f a with
    | none => simp [ha] at h
    | some b =>
      cases hl : l.mapM f with
      | none => simp [ha, hl] at h
      | some s =>
        simp [ha, hl] at h
        subst h
        obtain ⟨h1, h2⟩ := mapM_some hl
        refine ⟨by simp [h1], ?_⟩
        intro i x hx
        cases i with
        | zero => simp at hx; subst hx; exact ⟨b, by simp, ha⟩
        | succ i => simp at hx; obtain ⟨y, hy⟩ := h2 i x hx; exact ⟨y, by simpa using hy⟩

theorem get_back {α β : Type} {l : List α} {r : List β} (hl : r.length = l.length) {i : Nat} {y : β} (h : r[i]? = some y) : ∃ x, l[i]? = some x :=
  ex_get (by have := lt_size h; omega)

def KindOk (P : Program) (_t : TypeId) (i : TI) (d : TypeDesc) : Prop := match i.kind with
  | .bool => d = .bool ∧ i.size = 1
  | .int k => d = .int k ∧ i.size = 1
  | .str => d = .string ∧ i.size = 1
  | .ptr => (∃ e, d = .pointer e) ∧ i.size = 1
  | .func => (∃ a b c, d = .func a b c) ∧ i.size = 1
  | .slice => ∃ e ie de ze, d = .slice e ∧ P.info? e = some ie ∧ P.underlying e = some de ∧ ie.zero = some ze ∧ ze.cells.toList.mapM constC = some i.ezero ∧ i.ezero.length = i.esize ∧ ie.size = i.esize ∧ i.esize ≠ 0 ∧
      ie.bytes = i.ebytes ∧ i.ebytes ≠ 0 ∧ aggDesc de = i.eagg ∧ i.size = 1
  | .array => ∃ e ie de, d = .array i.len e ∧ P.info? e = some ie ∧ P.underlying e = some de ∧ ie.size = i.esize ∧ i.esize ≠ 0 ∧ aggDesc de = i.eagg
  | .struct => ∃ fs, d = .struct fs ∧ (fs.toList.mapM fun f => do
      let jf ← P.info? f.type
      let df ← P.underlying f.type
      if jf.size = 0 then none else some (f.offset, jf.size, aggDesc df)) = some i.flds

structure TiOk (P : Program) (t : TypeId) (i : TI) (info : TypeInfo) (d : TypeDesc) (z : Value) : Prop where
  inf : P.info? t = some info
  und : P.underlying t = some d
  zero : info.zero = some z
  size : info.size = i.size
  pos : i.size ≠ 0
  cells : z.cells.toList.mapM constC = some i.zero
  len : i.zero.length = i.size
  agg : i.agg = aggDesc d
  kind : KindOk P t i d
  eqs : ∀ ks, i.eqs = some ks → plainEq P 8 t = some ks ∧ aggDesc d = true

theorem ti_ok {t : TypeId} {i : TI} (h : tiOf P t = some i) : ∃ info d z, TiOk P t i info d z := by
  unfold tiOf at h
  cases h1 : P.info? t with
  | none => simp [h1] at h
  | some info =>
  cases h2 : P.underlying t with
  | none => simp [h1, h2] at h
  | some d =>
  cases h3 : info.zero with
  | none => simp [h1, h2, h3] at h
  | some z =>
  cases h4 : z.cells.toList.mapM constC with
  | none => simp [h1, h2, h3, h4] at h
  | some zc =>
  simp only [h1, h2, h3, h4, Option.bind_eq_bind, Option.bind_some] at h
  by_cases h5 : zc.length ≠ info.size ∨ info.size = 0
  · simp [h5] at h
  · rw [if_neg h5] at h
    have h6 : zc.length = info.size := by omega
    have h7 : info.size ≠ 0 := by omega
    refine ⟨info, d, z, ?_⟩
    cases d <;> simp only [reduceCtorEq] at h
    case bool => split at h <;> simp at h; subst h; rename_i hs; exact ⟨h1, h2, h3, rfl, h7, h4, h6, rfl, ⟨rfl, hs⟩, by simp⟩
    case int k => split at h <;> simp at h; subst h; rename_i hs; exact ⟨h1, h2, h3, rfl, h7, h4, h6, rfl, ⟨rfl, hs⟩, by simp⟩
    case string => split at h <;> simp at h; subst h; rename_i hs; exact ⟨h1, h2, h3, rfl, h7, h4, h6, rfl, ⟨rfl, hs⟩, by simp⟩
    case pointer e => split at h <;> simp at h; subst h; rename_i hs; exact ⟨h1, h2, h3, rfl, h7, h4, h6, rfl, ⟨⟨_, rfl⟩, hs⟩, by simp⟩
    case func a b c => split at h <;> simp at h; subst h; rename_i hs; exact ⟨h1, h2, h3, rfl, h7, h4, h6, rfl, ⟨⟨_, _, _, rfl⟩, hs⟩, by simp⟩
    case slice e =>
      cases g1 : P.info? e with
      | none => simp [g1] at h
      | some ie =>
      cases g2 : P.underlying e with
      | none => simp [g1, g2] at h
      | some de =>
      cases g3 : ie.zero with
      | none => simp [g1, g2, g3] at h
      | some ze =>
      cases g4 : ze.cells.toList.mapM constC with
      | none => simp [g1, g2, g3, g4] at h
      | some ezc =>
      simp only [g1, g2, g3, g4, Option.bind_some] at h
      split at h
      · simp at h
      · rename_i hs
        simp at h; subst h
        exact ⟨h1, h2, h3, rfl, h7, h4, h6, rfl, ⟨e, ie, de, ze, rfl, g1, g2, g3, g4, by show ezc.length = ie.size; omega, rfl, by show ie.size ≠ 0; omega, rfl, by show ie.bytes ≠ 0; omega, rfl, by show info.size = 1; omega⟩, by simp⟩
    case array n e =>
      cases g1 : P.info? e with
      | none => simp [g1] at h
      | some ie =>
      cases g2 : P.underlying e with
      | none => simp [g1, g2] at h
      | some de =>
      simp only [g1, g2, Option.bind_some] at h
      split at h
      · simp at h
      · rename_i hs
        simp at h; subst h
        exact ⟨h1, h2, h3, rfl, h7, h4, h6, rfl, ⟨e, ie, de, rfl, g1, g2, rfl, hs, rfl⟩, fun ks h => ⟨h, rfl⟩⟩
    case struct fs =>
      cases g1 : (fs.toList.mapM fun f => do
          let jf ← P.info? f.type
          let df ← P.underlying f.type
          if jf.size = 0 then none else some (f.offset, jf.size, aggDesc df)) with
      | none => simp only [Option.bind_eq_bind] at g1; simp only [g1, Option.bind_none] at h; simp at h
      | some fl =>
        have g1' := g1
        simp only [Option.bind_eq_bind] at g1
        simp only [g1, Option.bind_some] at h
        simp at h; subst h
        exact ⟨h1, h2, h3, rfl, h7, h4, h6, rfl, ⟨fs, rfl, g1'⟩, fun ks h => ⟨h, rfl⟩⟩

section
variable {w : World} {Z : Nat → Prop} {inj : Inj} {nx : Nat}

theorem constC_rel {v : Value} {d : DV} (h : constC v = some d) : RelD w Z d v ∧ isCell d = true ∧ v.oneCell' = true := by
  unfold constC at h
  split at h <;> simp at h <;> subst h
  · exact ⟨.int _ _, rfl, rfl⟩
  · exact ⟨.bool _, rfl, rfl⟩
  · exact ⟨.str _, rfl, rfl⟩
  · exact ⟨.nilp, rfl, rfl⟩
  · exact ⟨.nilsl, rfl, rfl⟩
  · exact ⟨.nilf, rfl, rfl⟩

theorem constL_rel {cs : Array Value} {ds : List DV} (h : cs.toList.mapM constC = some ds) : ds.length = cs.size ∧ ∀ (i : Nat) (d : DV), ds[i]? = some d → ∃ c, cs[i]? = some c ∧ RelD w Z d c ∧ isCell d = true ∧ c.oneCell' = true := by
  obtain ⟨h1, h2⟩ := mapM_some h
  refine ⟨by simpa using h1, fun i d hd => ?_⟩
  obtain ⟨c, hc⟩ := get_back h1 hd
  obtain ⟨y, hy, hf⟩ := h2 i c hc
  rw [hd] at hy; cases hy
  exact ⟨c, by simpa using hc, constC_rel hf⟩

theorem constV_rel {v : Value} {d : DV} (h : constV v = some d) : RelD w Z d v := by
  unfold constV at h
  split at h
  · rename_i cs
    cases hm : cs.toList.mapM constC with
    | none => simp [hm] at h
    | some ds =>
      simp [hm] at h; subst h
      obtain ⟨h1, h2⟩ := constL_rel (w := w) (Z := Z) hm
      refine .agg h1 fun i d c hd hc => ?_
      obtain ⟨c', hc', hr, _⟩ := h2 i d hd
      rw [hc] at hc'; cases hc'; exact hr
  · exact (constC_rel h).1

theorem ev_rel {st : AS} {a : Act} {Ds : List Nat} (h : RelS w Z inj st a Ds) {o : Operand} {v : V} (hv : st.ev o = some v) : RelV w Z inj st.nx v (a.eval o) := by
  cases o with
  | tmp t =>
    obtain ⟨x, hx, hr⟩ := h.slots t v hv
    simp only [Act.eval, Array.getD_eq_getD_getElem?, hx, Option.getD_some]; exact hr
  | const c =>
    simp only [AS.ev] at hv
    cases hc : constV c with
    | none => simp [hc] at hv
    | some d => simp [hc] at hv; subst hv; exact .d (constV_rel hc)
  | func f =>
    simp only [AS.ev] at hv; cases hv
    exact .d (.fn (by simp) (by simp))
  | global g => simp [AS.ev] at hv

theorem allD_map {vs : List V} {ds : List DV} (h : allD vs = some ds) : vs = ds.map .d := by
  induction vs generalizing ds with
  | nil => simp [allD] at h; subst h; rfl
  | cons v r ih =>
    cases v <;> simp only [allD, reduceCtorEq] at h
    rename_i x
    cases hr : allD r with
    | none => simp [hr] at h
    | some l => simp [hr] at h; subst h; simp [ih hr]
theorem allD_of_map (ds : List DV) : allD (ds.map .d) = some ds := by
  induction ds with
  | nil => rfl
  | cons d r ih => simp [allD, ih]

theorem oneCell_of_cell {d : V} {c : Value} (h : RelV w Z inj nx d c) (hc : vCell d = true) : c.oneCell' = true := by
  cases h with
  | d h => cases h <;> simp_all [vCell, isCell, Value.oneCell']
  | _ => simp_all [vCell, Value.oneCell']

theorem cells_self {c : Value} (h : c.oneCell' = true) : c.cells = #[c] := by cases c <;> simp_all [Value.oneCell', Value.cells]

/-- The cells of a value, on both sides. -/
theorem cells_rel {v : V} {x : Value} (h : RelV w Z inj nx v x) (hc : (cellsOf v).all vCell = true) :
    (cellsOf v).length = x.cells.size ∧ (∀ (i : Nat) (d : V) (c : Value), (cellsOf v)[i]? = some d → x.cells[i]? = some c → RelV w Z inj nx d c) ∧ ∀ c ∈ x.cells.toList, c.oneCell' = true := by
  have fin : ∀ (l : List V) (cs : Array Value), l.length = cs.size → (∀ (i : Nat) (d : V) (c : Value), l[i]? = some d → cs[i]? = some c → RelV w Z inj nx d c) → l.all vCell = true → ∀ c ∈ cs.toList, c.oneCell' = true := by
    intro l cs hl hr hall c hm
    obtain ⟨i, hi, rfl⟩ := List.mem_iff_getElem.1 hm
    simp at hi
    have h1 : l[i]? = some l[i] := List.getElem?_eq_getElem (by omega)
    have h2 : cs[i]? = some cs[i] := Array.getElem?_eq_getElem hi
    have := oneCell_of_cell (hr i _ _ h1 h2) (List.all_eq_true.1 hall _ (List.getElem_mem _))
    simpa using this
  have one : ∀ {v : V} {x : Value}, RelV w Z inj nx v x → cellsOf v = [v] → (cellsOf v).all vCell = true → (cellsOf v).length = x.cells.size ∧ (∀ (i : Nat) (d : V) (c : Value), (cellsOf v)[i]? = some d → x.cells[i]? = some c → RelV w Z inj nx d c) ∧ ∀ c ∈ x.cells.toList, c.oneCell' = true := by
    intro v x h he hall
    rw [he] at hall ⊢
    have h1 : vCell v = true := by simpa using hall
    have h2 := oneCell_of_cell h h1
    rw [cells_self h2]
    refine ⟨rfl, ?_, by simpa using h2⟩
    intro i d c hd hc
    cases i with
    | zero => simp at hd hc; subst hd hc; exact h
    | succ i => simp at hd
  cases h with
  | agg hl hr => exact ⟨hl, hr, fin _ _ hl hr hc⟩
  | d h =>
    cases h with
    | agg hl hr =>
      have h1 : (cellsOf (V.d (.agg ‹List DV›))).length = (Value.agg ‹Array Value›).cells.size := by simpa [cellsOf, Value.cells] using hl
      have h2 : ∀ (i : Nat) (d : V) (c : Value), (cellsOf (V.d (.agg ‹List DV›)))[i]? = some d → (Value.agg ‹Array Value›).cells[i]? = some c → RelV w Z inj nx d c := by
        intro i d c hd hc
        simp only [cellsOf, List.getElem?_map, Option.map_eq_some_iff] at hd
        obtain ⟨d', hd', rfl⟩ := hd
        exact .d (hr i d' c hd' hc)
      exact ⟨h1, h2, fin _ _ h1 h2 hc⟩
    | int => exact one (.d (.int _ _)) rfl hc
    | bool => exact one (.d (.bool _)) rfl hc
    | str => exact one (.d (.str _)) rfl hc
    | tup hl hr => exact one (.d (.tup hl hr)) rfl hc
    | fn hl hr => exact one (.d (.fn hl hr)) rfl hc
    | nilsl => exact one (.d .nilsl) rfl hc
    | slnil => exact one (.d (.slnil _)) rfl hc
    | slemp => exact one (.d (.slemp _ _)) rfl hc
    | sl a b c d e => exact one (.d (.sl a b c d e)) rfl hc
    | nilp => exact one (.d .nilp) rfl hc
    | nilf => exact one (.d .nilf) rfl hc
    | box a b c => exact one (.d (.box a b c)) rfl hc
  | tup hl hr => exact one (.tup hl hr) rfl hc
  | fn hl hr => exact one (.fn hl hr) rfl hc
  | ref a b => exact one (.ref a b) rfl hc
  | dref a b c => exact one (.dref a b c) rfl hc
  | hsnil a => exact one (.hsnil a) rfl hc
  | hs a b c d => exact one (.hs a b c d) rfl hc
  | yld a b => exact one (.yld a b) rfl hc
  | dead v => simp [cellsOf, vCell] at hc

/-- Cells packed: a struct or an array, or the one cell. -/
theorem mkAgg_rel {cs : List V} {xs : Array Value} (hl : cs.length = xs.size) (h : ∀ (i : Nat) (d : V) (c : Value), cs[i]? = some d → xs[i]? = some c → RelV w Z inj nx d c) : RelV w Z inj nx (mkAgg cs) (.agg xs) := by
  unfold mkAgg
  split
  · rename_i ds hd
    have := allD_map hd; subst this
    refine .d (.agg (by simpa using hl) fun i d c h1 h2 => ?_)
    have := h i (.d d) c (by simp [h1]) h2
    cases this with | d h => exact h
  · exact .agg hl h

def Packs (w : World) (Z : Nat → Prop) (inj : Inj) (nx : Nat) (v : V) : Bool → List Value → Prop
  | true, xs => RelV w Z inj nx v (.agg xs.toArray)
  | false, [x] => RelV w Z inj nx v x
  | false, _ => False
theorem pack_rel {ag : Bool} {cs : List V} {v : V} {xs : List Value} (hp : pack ag cs = some v) (hl : cs.length = xs.length) (h : ∀ (i : Nat) (d : V) (c : Value), cs[i]? = some d → xs[i]? = some c → RelV w Z inj nx d c) :
    Packs w Z inj nx v ag xs := by
  cases ag with
  | true =>
    simp only [pack, Option.some.injEq] at hp; subst hp
    exact mkAgg_rel (by simpa using hl) (fun i d c h1 h2 => h i d c h1 (by simpa using h2))
  | false =>
    match cs, xs, hp, hl with
    | [c], [x], hp, _ => simp only [pack, Option.some.injEq] at hp; subst hp; exact h 0 _ _ rfl rfl
    | [c], [], _, hl => simp at hl
    | [c], _ :: _ :: _, _, hl => simp at hl

theorem packD_eq (ag : Bool) (cs : List DV) : (packD ag cs).map V.d = pack ag (cs.map .d) := by
  cases ag with
  | true => simp [packD, pack, mkAgg, allD_of_map]
  | false => match cs with
    | [] => rfl
    | [c] => rfl
    | _ :: _ :: _ => rfl

theorem sub_some {α : Type} {cs r : List α} {j s : Nat} (h : sub cs j s = some r) : j + s ≤ cs.length ∧ r = (cs.drop j).take s := by
  unfold sub at h; split at h <;> simp at h; exact ⟨‹_›, h.symm⟩
theorem sub_get {α : Type} {cs r : List α} {j s : Nat} (h : sub cs j s = some r) : r.length = s ∧ ∀ (i : Nat) (x : α), r[i]? = some x → cs[j + i]? = some x ∧ i < s := by
  obtain ⟨h1, rfl⟩ := sub_some h
  refine ⟨by simp; omega, fun i x hx => ?_⟩
  rw [List.getElem?_take] at hx
  split at hx
  · rw [List.getElem?_drop] at hx; exact ⟨hx, ‹_›⟩
  · simp at hx
theorem sub_map {α β : Type} (f : α → β) (cs : List α) (j s : Nat) : sub (cs.map f) j s = (sub cs j s).map (·.map f) := by
  unfold sub
  simp only [List.length_map]
  split <;> simp [List.map_take, List.map_drop]

theorem addr_add (b o j : Nat) : (⟨b, o, none⟩ : Addr).add j = ⟨b, o + j, none⟩ := by
  unfold Addr.add; split <;> simp_all

/-- A variable is loaded whose cells are known. -/
theorem load_run {t : TypeId} {i : TI} {info : TypeInfo} {d : TypeDesc} {z : Value} (ht : TiOk P t i info d z) {b o : Nat} {r : List V} {v : V} (hp : pack i.agg r = some v) (hr : r.length = i.size)
    (hc : ∀ (k : Nat) (x : V), r[k]? = some x → ∃ c, w.cell? ⟨b, o + k, none⟩ = some c ∧ RelV w Z inj nx x c) :
    ∃ x, (Instr.loadAt t (.pointer (some ⟨b, o, none⟩))).run P w = .ok x w ∧ RelV w Z inj nx v x := by
  have hcs : ∃ cs : List Value, cs.length = i.size ∧ ∀ (k : Nat) (c : Value), cs[k]? = some c → w.cell? ⟨b, o + k, none⟩ = some c := by
    refine ⟨(List.range i.size).map fun k => (w.cell? ⟨b, o + k, none⟩).getD undef, by simp, ?_⟩
    intro k c hk
    have hlt : k < i.size := by have := lt_size hk; simpa using this
    obtain ⟨x, hx⟩ := ex_get (xs := r) (i := k) (by omega)
    obtain ⟨c', hc', _⟩ := hc k x hx
    simp [hlt, hc'] at hk
    rw [hc', hk]
  obtain ⟨cs, hl, hcell⟩ := hcs
  have hrel : ∀ (i : Nat) (d : V) (c : Value), r[i]? = some d → cs[i]? = some c → RelV w Z inj nx d c := by
    intro k x c h1 h2
    obtain ⟨c', h3, h4⟩ := hc k x h1
    rw [hcell k c h2] at h3; cases h3; exact h4
  have hpk := pack_rel hp (by omega : r.length = cs.length) hrel
  have hag : (isAgg t).run P w = .ok i.agg w := by
    rw [ht.agg]
    simp only [isAgg, Sem.run_bind, run_underlying ht.und, Result.andThen_ok]
    cases d <;> rfl
  cases hb : i.agg with
  | true =>
    rw [hb] at hpk
    refine ⟨.agg cs.toArray, ?_, hpk⟩
    have h1 := run_loadCells_list (P := P) w ⟨b, o, none⟩ cs (fun j v hj => by rw [addr_add]; exact hcell j v hj)
    simp [Instr.loadAt, Instr.sureAddr, loadVar, hag, hb, sizeOf, typeInfo, ht.inf, ht.size, ← hl, h1]
  | false =>
    rw [hb] at hpk
    match cs, hl, hcell, hpk with
    | [x], _, hcell, hpk =>
      refine ⟨x, ?_, hpk⟩
      have := hcell 0 x rfl
      simp only [Nat.add_zero] at this
      simp [Instr.loadAt, Instr.sureAddr, loadVar, hag, hb, this]
end
end Go.Am
