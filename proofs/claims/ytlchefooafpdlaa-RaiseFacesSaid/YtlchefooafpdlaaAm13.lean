/- EACH OPERATION OF THE ABSTRACT MACHINE SAYS WHAT THE MODEL's DOES (8): rows of elements; stores; append; copy. -/
import Derived.Test.YtlchefooafpdlaaAm12
import Derived.Deep.AppendSrc
import Derived.Room.Entries
namespace Go.Am
open Go
variable {P : Program} {T : Tab}

/-- Elements as they lie in an array from o on. -/
def RowV (w : World) (Z : Nat → Prop) (inj : Inj) (nx : Nat) (arr : Array Value) (o es : Nat) (xs : List (List V)) : Prop :=
  ∀ (i : Nat) (x : List V) (j : Nat) (d : V), xs[i]? = some x → x[j]? = some d → vCell d = true ∧ ∃ c, arr[o + (i * es + j)]? = some c ∧ RelV w Z inj nx d c

section
variable {w : World} {Z : Nat → Prop} {inj : Inj} {nx : Nat}

theorem RowV.mono {w' : World} {inj' : Inj} {nx' : Nat} {arr : Array Value} {o es : Nat} {xs : List (List V)} (h : RowV w Z inj nx arr o es xs) (hm : ∀ v x, RelV w Z inj nx v x → RelV w' Z inj' nx' v x) : RowV w' Z inj' nx' arr o es xs :=
  fun i x j d hx hd => let ⟨h1, c, h2, h3⟩ := h i x j d hx hd; ⟨h1, c, h2, hm _ _ h3⟩

/-- A block's elements, whatever its kind. -/
def rowsOf : Blk → Option (Nat × List (List V))
  | .dat es xs => some (es, xs.map (·.map .d))
  | .cel es xs => some (es, xs)
  | _ => none

theorem relB_rows {n : Nat} {b : Blk} {es : Nat} {xs : List (List V)} (h : RelB w Z inj nx n b) (hr : rowsOf b = some (es, xs)) :
    es ≠ 0 ∧ (∀ (i : Nat) (x : List V), xs[i]? = some x → x.length = es) ∧ ((xs = [] ∧ inj n = none) ∨ ∃ b o arr ty, inj n = some (b, o) ∧ w.heap[b]? = some (.cells arr ty (0, 0)) ∧ RowV w Z inj nx arr o es xs) := by
  cases b <;> simp only [rowsOf, reduceCtorEq, Option.some.injEq, Prod.mk.injEq] at hr
  · obtain ⟨rfl, rfl⟩ := hr
    obtain ⟨h1, h2, h3⟩ := h
    refine ⟨h1, ?_, ?_⟩
    · intro i x hx
      simp only [List.getElem?_map, Option.map_eq_some_iff] at hx
      obtain ⟨y, hy, rfl⟩ := hx
      simpa using h2 i y hy
    · rcases h3 with ⟨h3, h4⟩ | ⟨b, o, arr, ty, h3, h4, h5⟩
      · exact .inl ⟨by simp [h3], h4⟩
      · refine .inr ⟨b, o, arr, ty, h3, h4, fun i x j d hx hd => ?_⟩
        simp only [List.getElem?_map, Option.map_eq_some_iff] at hx
        obtain ⟨y, hy, rfl⟩ := hx
        simp only [List.getElem?_map, Option.map_eq_some_iff] at hd
        obtain ⟨d', hd', rfl⟩ := hd
        obtain ⟨h6, c, h7, h8⟩ := h5 i y j d' hy hd'
        exact ⟨h6, c, h7, .d h8⟩
  · obtain ⟨rfl, rfl⟩ := hr
    obtain ⟨h1, h2, h3⟩ := h
    exact ⟨h1, h2, h3⟩

theorem relB_of_rows {n : Nat} {b : Blk} {es : Nat} {xs : List (List V)} (hr : rowsOf b = some (es, xs)) (he : es ≠ 0) (hl : ∀ (i : Nat) (x : List V), xs[i]? = some x → x.length = es)
    (h : (xs = [] ∧ inj n = none) ∨ ∃ b o arr ty, inj n = some (b, o) ∧ w.heap[b]? = some (.cells arr ty (0, 0)) ∧ RowV w Z inj nx arr o es xs) : RelB w Z inj nx n b := by
  cases b <;> simp only [rowsOf, reduceCtorEq, Option.some.injEq, Prod.mk.injEq] at hr
  · obtain ⟨rfl, rfl⟩ := hr
    rename_i xs
    refine ⟨he, fun i x hx => ?_, ?_⟩
    · have := hl i (x.map .d) (by simp [hx]); simpa using this
    · rcases h with ⟨h3, h4⟩ | ⟨b, o, arr, ty, h3, h4, h5⟩
      · exact .inl ⟨by simpa using h3, h4⟩
      · refine .inr ⟨b, o, arr, ty, h3, h4, fun i x j d hx hd => ?_⟩
        obtain ⟨h6, c, h7, h8⟩ := h5 i (x.map .d) j (.d d) (by simp [hx]) (by simp [hd])
        refine ⟨h6, c, h7, ?_⟩
        cases h8 with | d h => exact h
  · obtain ⟨rfl, rfl⟩ := hr
    exact ⟨he, hl, h⟩

theorem RowV.set {arr vs : Array Value} {o es e j : Nat} {xs : List (List V)} {cs ys : List V} (h : RowV w Z inj nx arr o es xs) (hl : ∀ (i : Nat) (x : List V), xs[i]? = some x → x.length = es) (he : xs[e]? = some cs) (hy : LRel w Z inj nx ys vs) (hyc : ys.all vCell = true)
    (hj : j + ys.length ≤ cs.length) (hfit : o + (e * es + j) + vs.size ≤ arr.size) : RowV w Z inj nx (splice arr.toList (o + (e * es + j)) vs.toList).toArray o es (xs.set e (splice cs j ys)) := by
  have hvl : vs.toList.length = ys.length := by have := hy.1; simp; omega
  have hfit' : o + (e * es + j) + vs.toList.length ≤ arr.toList.length := by simpa using hfit
  have hcs := hl e cs he
  intro i x j' d hx hd
  rw [List.getElem?_toArray, splice_get _ _ _ _ hfit']
  rw [List.getElem?_set] at hx
  by_cases hei : e = i
  · subst hei
    rw [if_pos rfl, if_pos (lt_size he)] at hx
    simp at hx; subst hx
    rw [splice_get _ _ _ _ hj] at hd
    by_cases hjj : j ≤ j' ∧ j' < j + ys.length
    · rw [if_pos hjj] at hd
      obtain ⟨c, hc⟩ := ex_getA (xs := vs) (i := j' - j) (by have := hy.1; omega)
      rw [if_pos (by omega), show o + (e * es + j') - (o + (e * es + j)) = j' - j by omega]
      exact ⟨List.all_eq_true.1 hyc _ (List.mem_of_getElem? hd), c, by simpa using hc, hy.2 _ _ _ hd hc⟩
    · rw [if_neg hjj] at hd
      rw [if_neg (by omega)]
      obtain ⟨h1, c, h2, h3⟩ := h e cs j' d he hd
      exact ⟨h1, c, by simpa using h2, h3⟩
  · rw [if_neg hei] at hx
    obtain ⟨h1, c, h2, h3⟩ := h i x j' d hx hd
    refine ⟨h1, c, ?_, h3⟩
    have hj' : j' < es := by have := lt_size hd; have := hl i x hx; omega
    rw [if_neg ?_]
    · simpa using h2
    · intro hc
      exact hei ((cell_in (i := e) hj').1 (by omega)).symm
end

section
variable {w : World} {Z : Nat → Prop} {inj : Inj} {st : AS} {a : Act} {Ds : List Nat}

theorem storeVar_run {t : TypeId} {info : TypeInfo} {x : Value} {b o : Nat} {arr : Array Value} {ty : TypeId} (hi : P.info? t = some info) (hs : x.cells.size = info.size) (h1 : ∀ c ∈ x.cells.toList, c.oneCell' = true)
    (hb : w.heap[b]? = some (.cells arr ty (0, 0))) (hfit : o + x.cells.size ≤ arr.size) :
    (Instr.storeAt t (.pointer (some ⟨b, o, none⟩)) x).run P w = .ok () (w.setRow b (splice arr.toList o x.cells.toList).toArray) := by
  have := run_storeCells_at P b o ty x.cells.toList 0 arr w hb (by simpa using hfit) h1
  simp only [Nat.add_zero] at this
  simp only [Instr.storeAt, Instr.sureAddr, storeVar, Sem.run_bind, Sem.run_pure, Result.andThen_ok, sizeOf_run hi, Sem.run_ite]
  rw [if_neg (by omega)]
  exact this

theorem op_store {t : TypeId} {i : TI} {p x : Operand} {pv v : V} {st1 : AS} (h : RelS w Z inj st a Ds) (ht : tiOf P t = some i) (hp : st.ev p = some pv) (hx : st.ev x = some v) (hs : storeP st i pv v = some st1) :
    OpRes st st1 .dead w Z inj ((do Instr.storeAt t (a.eval p) (a.eval x); pure .skip : Sem Next).run P w) := by
  obtain ⟨info, d, z, k⟩ := ti_ok ht
  have hpr := ev_rel h hp
  have hxr := ev_rel h hx
  generalize a.eval p = vp at hpr ⊢
  generalize a.eval x = vx at hxr ⊢
  cases pv <;> simp only [storeP, reduceCtorEq] at hs
  rename_i n k0 e j
  split at hs <;> try simp at hs
  rename_i hcond
  have hc1 : (cellsOf v).length = i.size := by
    apply Classical.byContradiction; intro hc; exact hcond (.inl hc)
  have hc2 : (cellsOf v).all vCell = true := by
    cases hc : (cellsOf v).all vCell with
    | true => rfl
    | false => exact absurd (.inr hc) hcond
  cases hpr with | @ref _ _ _ _ b o hn hi =>
  -- whatever the block's kind
  have key : ∀ (b0 : Blk) (es : Nat) (xs : List (List V)) (cs : List V) (b1 : Blk), st.blk n = some b0 → rowsOf b0 = some (es, xs) → es = k0 → xs[e]? = some cs → j + i.size ≤ cs.length → rowsOf b1 = some (es, xs.set e (splice cs j (cellsOf v))) → st1 = st.setBlk n b1 →
      OpRes st st1 .dead w Z inj ((do Instr.storeAt t (.pointer (some ⟨b, o + (e * k0 + j), none⟩)) vx; pure .skip : Sem Next).run P w) := by
    rintro b0 es xs cs b1 hb0 hr0 rfl hcs hfit hr1 rfl
    obtain ⟨g1, g2, g3⟩ := relB_rows (h.heap.blk n b0 hb0).2 hr0
    rcases g3 with ⟨g3, _⟩ | ⟨b', o', arr, ty, g3, g4, g5⟩
    · subst g3; simp at hcs
    · rw [hi] at g3; cases g3
      obtain ⟨c1, c2, c3⟩ := cells_rel hxr hc2
      have hlive : live b0 = true := by cases b0 <;> simp_all [rowsOf, live]
      have hcl := g2 e cs hcs
      have hes : 0 < es := by omega
      have hlast : o + (e * es + (es - 1)) < arr.size := by
        obtain ⟨d0, hd0⟩ := ex_get (xs := cs) (i := es - 1) (by omega)
        obtain ⟨_, c, hc, _⟩ := g5 e cs (es - 1) d0 hcs hd0
        exact lt_sizeA hc
      have hfitA : o + (e * es + j) + vx.cells.size ≤ arr.size := by omega
      have hrun := storeVar_run (P := P) (w := w) k.inf (x := vx) (by rw [k.size]; omega) c3 g4 hfitA
      have hsz : (splice arr.toList (o + (e * es + j)) vx.cells.toList).toArray.size = arr.size := by
        simp only [List.size_toArray]
        rw [splice_len _ _ _ (by simpa using hfitA)]; simp
      have hz : ∀ b1, Z b1 → (w.setRow b (splice arr.toList (o + (e * es + j)) vx.cells.toList).toArray).heap[b1]? = w.heap[b1]? := fun b1 hz1 =>
        setRow_other w b b1 _ (fun e => h.heap.out n b0 _ hb0 hlive hi (by rw [← e]; exact hz1))
      have hkb := keepBig_setRow w b arr _ ty (0, 0) g4 hsz
      refine ⟨undef, _, inj, .inr ⟨by simp [hrun], rfl⟩, .dead _, ?_, Ext.set h.heap hb0 hlive hi g4 hsz, rfl, Nat.le_refl _⟩
      refine h.heap.set hb0 hlive hi g4 hsz (relB_of_rows hr1 g1 ?_ (.inr ⟨b, o, _, ty, hi, setRow_heap w b _ _ _ _ g4, ?_⟩))
      · intro i' x' hx'
        rw [List.getElem?_set] at hx'
        by_cases hei : e = i'
        · rw [if_pos hei, if_pos (by have := lt_size hcs; omega)] at hx'
          simp at hx'; rw [← hx', splice_len _ _ _ (by omega)]; exact hcl
        · rw [if_neg hei] at hx'; exact g2 _ _ hx'
      · exact (g5.set g2 hcs ⟨c1, c2⟩ hc2 (by omega) hfitA).mono fun v x hr => hr.mono hz (fun _ h => h) hkb (fun _ _ => rfl) (Nat.le_refl _)
  cases hb : st.blk n with
  | none => simp [hb] at hs
  | some blk =>
    cases blk with
    | dead => simp [hb] at hs
    | loop => simp [hb] at hs
    | dat es xs =>
      simp only [hb] at hs
      split at hs <;> try simp at hs
      rename_i cs he hx1
      have he := Nat.eq_of_beq_eq_true he
      have hcs : (xs.map (·.map V.d))[e]? = some (cs.map V.d) := by simp [hx1]
      split at hs
      · rename_i ds hds
        simp at hs
        obtain ⟨hfit, hs⟩ := hs
        refine key _ _ _ _ _ hb rfl he.symm hcs (by simpa using hfit) ?_ hs.symm
        simp only [rowsOf, Option.some.injEq, Prod.mk.injEq, true_and]
        rw [allD_map hds]
        simp [splice, List.map_set, List.map_take, List.map_drop]
      · simp at hs
        obtain ⟨hfit, hs⟩ := hs
        exact key _ _ _ _ _ hb rfl he.symm hcs (by simpa using hfit) rfl hs.symm
    | cel es xs =>
      simp only [hb] at hs
      split at hs <;> try simp at hs
      rename_i cs he hx1
      have he := Nat.eq_of_beq_eq_true he
      obtain ⟨hfit, hs⟩ := hs
      exact key _ _ _ _ _ hb rfl he.symm hx1 hfit rfl hs.symm
end
end Go.Am
