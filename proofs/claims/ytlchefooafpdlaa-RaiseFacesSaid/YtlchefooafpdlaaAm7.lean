/- EACH OPERATION OF THE ABSTRACT MACHINE SAYS WHAT THE MODEL's DOES (2): the operations that leave the memory alone, and the new blocks. -/
import Derived.Test.YtlchefooafpdlaaAm6
namespace Go.Am
open Go
variable {P : Program} {T : Tab}

def OpRes (st st1 : AS) (v : V) (w : World) (Z : Nat → Prop) (inj : Inj) (r : Result Next) : Prop :=
  ∃ x w' inj', (r = .ok (.value x) w' ∨ (r = .ok .skip w' ∧ x = undef)) ∧ RelV w' Z inj' st1.nx v x ∧ RelH w' Z inj' st1.hp st1.nx ∧ Ext w Z inj st.hp w' Z inj' st1.hp st.nx ∧ st1.sl = st.sl ∧ st.nx ≤ st1.nx

section
variable {w : World} {Z : Nat → Prop} {inj : Inj} {st : AS} {a : Act} {Ds : List Nat}

theorem OpRes.quiet {v : V} {x : Value} {r : Result Next} (h : RelS w Z inj st a Ds) (hr : r = .ok (.value x) w) (hv : RelV w Z inj st.nx v x) : OpRes st st v w Z inj r :=
  ⟨x, w, inj, .inl hr, hv, h.heap, .refl, rfl, Nat.le_refl _⟩

theorem run_value {s : Sem Value} {x : Value} {w' : World} (h : s.run P w = .ok x w') : (do pure (Next.value (← s)) : Sem Next).run P w = .ok (.value x) w' := by
  simp [h]

/-- A new block, and a value that points into it. -/
theorem OpRes.new {v : V} {x : Value} {r : Result Next} {o : Obj} {blk : Blk} (h : RelS w Z inj st a Ds) (hr : r = .ok (.value x) (w.alloc o))
    (hb : RelB (w.alloc o) Z (upd inj st.nx (some (w.heap.size, 0))) (st.nx + 1) st.nx blk)
    (hv : RelV (w.alloc o) Z (upd inj st.nx (some (w.heap.size, 0))) (st.nx + 1) v x) (ho : Unfr o := by first | exact rfl | exact trivial) : OpRes st (st.new blk) v w Z inj r :=
  ⟨x, _, _, .inl hr, hv, h.heap.new o blk 0 hb, Ext.new h.heap o blk 0 ho, rfl, by simp [AS.new]⟩

/-- Data that lay before lies as it lay behind a new block. -/
theorem relV_alloc {v : V} {x : Value} (h : RelS w Z inj st a Ds) (o : Obj) (hv : RelV w Z inj st.nx v x) : RelV (w.alloc o) Z (upd inj st.nx (some (w.heap.size, 0))) (st.nx + 1) v x :=
  hv.mono (fun _ hz => alloc_old w o (h.heap.zs _ hz)) (fun _ h => h) (keepBig_alloc w o) (fun _ hm => upd_lt _ _ hm) (by omega)

/-- The rows of a new block. -/
theorem relB_mk {w : World} {nx n es : Nat} {xs : List (List V)} {arr : Array Value} {ty : TypeId} {b : Nat} (he : es ≠ 0) (hi : inj n = some (b, 0)) (hb : w.heap[b]? = some (.cells arr ty (0, 0)))
    (hl : ∀ (i : Nat) (x : List V), xs[i]? = some x → x.length = es)
    (h : ∀ (i : Nat) (x : List V) (j : Nat) (d : V), xs[i]? = some x → x[j]? = some d → vCell d = true ∧ ∃ c, arr[i * es + j]? = some c ∧ RelV w Z inj nx d c) : RelB w Z inj nx n (mkBlk es xs) := by
  unfold mkBlk
  split
  · rename_i ys hy
    obtain ⟨h1, h2⟩ := mapM_some hy
    refine ⟨he, ?_, .inr ⟨b, 0, arr, ty, hi, hb, ?_⟩⟩
    · intro i y hyi
      obtain ⟨x, hx⟩ := get_back h1 hyi
      obtain ⟨y', hy', hd⟩ := h2 i x hx
      rw [hyi] at hy'; cases hy'
      have := hl i x hx
      rw [allD_map hd] at this; simpa using this
    · intro i y j d hyi hyj
      obtain ⟨x, hx⟩ := get_back h1 hyi
      obtain ⟨y', hy', hd⟩ := h2 i x hx
      rw [hyi] at hy'; cases hy'
      have hxe := allD_map hd
      obtain ⟨h3, c, h4, h5⟩ := h i x j (.d d) hx (by rw [hxe]; simp [hyj])
      refine ⟨h3, c, by simpa using h4, ?_⟩
      cases h5 with | d h => exact h
  · refine ⟨he, hl, .inr ⟨b, 0, arr, ty, hi, hb, ?_⟩⟩
    intro i x j d hx hd
    obtain ⟨h3, c, h4, h5⟩ := h i x j d hx hd
    exact ⟨h3, c, by simpa using h4, h5⟩

theorem op_move {o : Operand} {v : V} (h : RelS w Z inj st a Ds) (hv : st.ev o = some v) {r : Result Next} (hr : r = .ok (.value (a.eval o)) w) : OpRes st st v w Z inj r :=
  .quiet h hr (ev_rel h hv)

theorem op_alloc {t : TypeId} {i : TI} (h : RelS w Z inj st a Ds) (ht : tiOf P t = some i) :
    OpRes st (st.new (.dat i.size [i.zero])) (.ref st.nx i.size 0 0) w Z inj ((do pure (Next.value (← Instr.alloc t true (.tuple #[]))) : Sem Next).run P w) := by
  obtain ⟨info, d, z, k⟩ := ti_ok ht
  have hrun : (Instr.alloc t true (.tuple #[])).run P w = .ok (.pointer (some ⟨w.heap.size, 0, none⟩)) (w.alloc (.cells z.cells t)) := by
    simp [Instr.alloc, zeroValue, typeInfo, k.inf, k.zero, newVar, newRow]
  obtain ⟨h1, h2⟩ := constL_rel (w := w.alloc (.cells z.cells t)) (Z := Z) k.cells
  refine .new h (run_value hrun) ?_ ?_
  · refine ⟨k.pos, ?_, .inr ⟨w.heap.size, 0, z.cells, t, upd_same _ _ _, alloc_new _ _, ?_⟩⟩
    · intro i' x hx
      cases i' with
      | zero => simp at hx; subst hx; exact k.len
      | succ n => simp at hx
    · intro i' x j d hx hd
      cases i' with
      | zero =>
        simp at hx; subst hx
        obtain ⟨c, hc, hr, hcell, _⟩ := h2 j d hd
        exact ⟨hcell, c, by simpa using hc, hr⟩
      | succ n => simp at hx
  · have := RelV.ref (w := w.alloc (.cells z.cells t)) (Z := Z) (inj := upd inj st.nx (some (w.heap.size, 0))) (nx := st.nx + 1) (n := st.nx) (es := i.size) (i := 0) (j := 0) (by omega) (upd_same _ _ _)
    simpa using this

theorem op_box {t : TypeId} {i : TI} {o : Operand} {v : V} (h : RelS w Z inj st a Ds) (ht : tiOf P t = some i) (hv : st.ev o = some v) (hl : (cellsOf v).length = i.size) (hc : (cellsOf v).all vCell = true) :
    OpRes st (st.new (mkBlk i.size [cellsOf v])) (.ref st.nx i.size 0 0) w Z inj ((do pure (Next.value (← Instr.box t (a.eval o))) : Sem Next).run P w) := by
  obtain ⟨info, d, z, k⟩ := ti_ok ht
  have hx := ev_rel h hv
  have hrun : (Instr.box t (a.eval o)).run P w = .ok (.pointer (some ⟨w.heap.size, 0, none⟩)) (w.alloc (.cells (a.eval o).cells t)) := by
    simp [Instr.box, newVar, newRow]
  have hx' := relV_alloc h (.cells (a.eval o).cells t) hx
  obtain ⟨h1, h2, _⟩ := cells_rel hx' hc
  refine .new h (run_value hrun) ?_ ?_
  · refine relB_mk (b := w.heap.size) (arr := (a.eval o).cells) (ty := t) k.pos (upd_same _ _ _) (alloc_new _ _) ?_ ?_
    · intro i' x hx
      cases i' with
      | zero => simp at hx; subst hx; exact hl
      | succ n => simp at hx
    · intro i' x j d hx hd
      cases i' with
      | zero =>
        simp at hx; subst hx
        obtain ⟨c, hcj⟩ := ex_getA (xs := (a.eval o).cells) (i := j) (by have := lt_size hd; omega)
        exact ⟨List.all_eq_true.1 hc _ (List.mem_of_getElem? hd), c, by simpa using hcj, h2 j d c hd hcj⟩
      | succ n => simp at hx
  · have := RelV.ref (w := w.alloc (.cells (a.eval o).cells t)) (Z := Z) (inj := upd inj st.nx (some (w.heap.size, 0))) (nx := st.nx + 1) (n := st.nx) (es := i.size) (i := 0) (j := 0) (by omega) (upd_same _ _ _)
    simpa using this

/-! ### filling cells -/
theorem splice_len {α : Type} (cs ys : List α) (o : Nat) (h : o + ys.length ≤ cs.length) : (splice cs o ys).length = cs.length := by simp [splice]; omega
theorem splice_get {α : Type} (cs ys : List α) (o j : Nat) (h : o + ys.length ≤ cs.length) : (splice cs o ys)[j]? = if o ≤ j ∧ j < o + ys.length then ys[j - o]? else cs[j]? := by
  have e : (cs.take o).length = o := by simp; omega
  by_cases h1 : j < o
  · rw [if_neg (by omega), splice, List.append_assoc, List.getElem?_append_left (by omega), List.getElem?_take, if_pos h1]
  · by_cases h2 : j < o + ys.length
    · rw [if_pos (by omega), splice, List.append_assoc, List.getElem?_append_right (by omega), e, List.getElem?_append_left (by omega)]
    · rw [if_neg (by omega), splice, List.getElem?_append_right (by simp; omega), List.getElem?_drop]
      congr 1
      rw [List.length_append, e]; omega

theorem fold_get (off : Nat) : ∀ (l : List Value) (s : Nat) (cs : Array Value), off + s + l.length ≤ cs.size →
    ((l.zipIdx s).foldl (fun (cs : Array Value) (x : Value × Nat) => cs.setIfInBounds (off + x.2) x.1) cs).size = cs.size ∧
    ∀ j : Nat, ((l.zipIdx s).foldl (fun (cs : Array Value) (x : Value × Nat) => cs.setIfInBounds (off + x.2) x.1) cs)[j]? = if off + s ≤ j ∧ j < off + s + l.length then l[j - (off + s)]? else cs[j]?
  | [], s, cs, _ => by
    refine ⟨rfl, fun j => ?_⟩
    have : ¬ (off + s ≤ j ∧ j < off + s + ([] : List Value).length) := by simp
    rw [if_neg this]; rfl
  | v :: r, s, cs, h => by
    obtain ⟨h1, h2⟩ := fold_get off r (s + 1) (cs.setIfInBounds (off + s) v) (by simp at h ⊢; omega)
    simp only [List.zipIdx_cons, List.foldl_cons]
    refine ⟨by rw [h1]; simp, fun j => ?_⟩
    rw [h2 j]
    simp only [List.length_cons] at h ⊢
    by_cases hj : off + (s + 1) ≤ j ∧ j < off + (s + 1) + r.length
    · have hj' : off + s ≤ j ∧ j < off + s + (r.length + 1) := by omega
      rw [if_pos hj, if_pos hj', show j - (off + s) = (j - (off + (s + 1))) + 1 by omega, List.getElem?_cons_succ]
    · rw [if_neg hj, Array.getElem?_setIfInBounds]
      by_cases he : off + s = j
      · have hj' : off + s ≤ j ∧ j < off + s + (r.length + 1) := by omega
        have hlt : j < cs.size := by omega
        rw [if_pos he, if_pos hj', if_pos (by omega), show j - (off + s) = 0 by omega]
        rfl
      · have hj' : ¬ (off + s ≤ j ∧ j < off + s + (r.length + 1)) := by omega
        rw [if_neg he, if_neg hj']

theorem fold_splice (vs cs : Array Value) (off : Nat) (h : off + vs.size ≤ cs.size) :
    vs.zipIdx.foldl (fun (cs : Array Value) (x : Value × Nat) => cs.setIfInBounds (off + x.2) x.1) cs = (splice cs.toList off vs.toList).toArray := by
  rw [← Array.foldl_toList, Array.toList_zipIdx]
  obtain ⟨h1, h2⟩ := fold_get off vs.toList 0 cs (by simpa using h)
  have hs := splice_len cs.toList vs.toList off (by simpa using h)
  apply Array.ext'
  apply List.ext_getElem?
  intro j
  rw [Array.getElem?_toList, h2 j, splice_get _ _ _ _ (by simpa using h)]
  simp

def LRel (w : World) (Z : Nat → Prop) (inj : Inj) (nx : Nat) (cs : List V) (xs : Array Value) : Prop :=
  cs.length = xs.size ∧ ∀ (i : Nat) (d : V) (c : Value), cs[i]? = some d → xs[i]? = some c → RelV w Z inj nx d c

theorem LRel.splice {w : World} {nx : Nat} {cs ys : List V} {xs vs : Array Value} {o : Nat} (h : LRel w Z inj nx cs xs) (hy : LRel w Z inj nx ys vs) (ho : o + ys.length ≤ cs.length) :
    LRel w Z inj nx (Am.splice cs o ys) (Am.splice xs.toList o vs.toList).toArray := by
  have q1 := h.1
  have q2 := hy.1
  have ho' : o + vs.toList.length ≤ xs.toList.length := by simp; omega
  refine ⟨by simp [splice_len _ _ _ ho, splice_len _ _ _ ho', h.1], fun i d c hd hc => ?_⟩
  rw [splice_get _ _ _ _ ho] at hd
  rw [List.getElem?_toArray, splice_get _ _ _ _ ho'] at hc
  have e : vs.toList.length = ys.length := by simp; omega
  rw [e] at hc
  split at hd
  · rename_i hij
    rw [if_pos hij] at hc
    exact hy.2 _ _ _ hd (by simpa using hc)
  · rename_i hij
    rw [if_neg hij] at hc
    exact h.2 _ _ _ hd (by simpa using hc)

theorem evParts_rel {ps : List (Nat × Operand)} {vs : List (Nat × V)} (h : RelS w Z inj st a Ds) (hp : evParts st.ev ps = some vs) :
    vs.length = ps.length ∧ ∀ (k : Nat) (i : Nat) (v : V), vs[k]? = some (i, v) → ∃ o, ps[k]? = some (i, o) ∧ RelV w Z inj st.nx v (a.eval o) := by
  induction ps generalizing vs with
  | nil => simp [evParts] at hp; subst hp; simp
  | cons x r ih =>
    obtain ⟨i, o⟩ := x
    simp only [evParts] at hp
    cases h1 : st.ev o with
    | none => simp [h1] at hp
    | some v =>
      cases h2 : evParts st.ev r with
      | none => simp [h1, h2] at hp
      | some l =>
        simp [h1, h2] at hp; subst hp
        obtain ⟨h3, h4⟩ := ih h2
        refine ⟨by simp [h3], fun k i' v' hk => ?_⟩
        cases k with
        | zero => simp at hk; obtain ⟨rfl, rfl⟩ := hk; exact ⟨o, by simp, ev_rel h h1⟩
        | succ k => simp at hk; obtain ⟨o', ho, hr⟩ := h4 k i' v' hk; exact ⟨o', by simpa using ho, hr⟩

theorem evL_rel {os : List Operand} {vs : List V} (h : RelS w Z inj st a Ds) (hp : evL st.ev os = some vs) : LRel w Z inj st.nx vs (os.map a.eval).toArray := by
  induction os generalizing vs with
  | nil => simp [evL] at hp; subst hp; exact ⟨by simp, by simp⟩
  | cons o r ih =>
    simp only [evL] at hp
    cases h1 : st.ev o with
    | none => simp [h1] at hp
    | some v =>
      cases h2 : evL st.ev r with
      | none => simp [h1, h2] at hp
      | some l =>
        simp [h1, h2] at hp; subst hp
        obtain ⟨h3, h4⟩ := ih h2
        refine ⟨by simpa using h3, fun k d c hd hc => ?_⟩
        cases k with
        | zero => simp at hd hc; subst hd hc; exact ev_rel h h1
        | succ k => simp at hd hc; exact h4 k d c hd (by simpa using hc)

/-- 'fill', on both sides: parts, each with its place. -/
theorem fill_rel {w : World} {nx : Nat} (place : Nat → Option (Nat × Nat)) : ∀ (vs : List (Nat × V)) (xs : List (Nat × Value)) (l : List (Nat × List V)) (cs cs' : List V) (C : Array Value),
    vs.length = xs.length → (∀ (k : Nat) (i : Nat) (v : V), vs[k]? = some (i, v) → ∃ x, xs[k]? = some (i, x) ∧ RelV w Z inj nx v x) →
    l.length = vs.length → (∀ (k : Nat) (i : Nat) (v : V), vs[k]? = some (i, v) → ∃ o s, place i = some (o, s) ∧ (cellsOf v).length = s ∧ (cellsOf v).all vCell = true ∧ l[k]? = some (o, cellsOf v)) →
    LRel w Z inj nx cs C → fillC cs l = some cs' → ∃ C', Instr.fill place C xs = some C' ∧ LRel w Z inj nx cs' C'
  | [], xs, l, cs, cs', C, h1, _, h3, _, h5, h6 => by
    have : xs = [] := by cases xs <;> simp_all
    have : l = [] := by cases l <;> simp_all
    subst_vars
    simp [fillC] at h6; subst h6
    exact ⟨C, by simp [Instr.fill], h5⟩
  | (i, v) :: vs, xs, l, cs, cs', C, h1, h2, h3, h4, h5, h6 => by
    match xs, l, h1, h3 with
    | (i', x) :: xs, (o', ys) :: l, h1, h3 =>
      obtain ⟨x', hx', hr⟩ := h2 0 i v rfl
      simp at hx'; obtain ⟨rfl, rfl⟩ := hx'
      obtain ⟨o, s, hp, hl, hc, hl0⟩ := h4 0 i' v rfl
      simp at hl0; obtain ⟨rfl, rfl⟩ := hl0
      obtain ⟨q1, q2, q3⟩ := cells_rel hr hc
      simp only [fillC] at h6
      split at h6
      · rename_i hfit
        have hsz : x.cells.size = s := by omega
        have hfit' : ¬ (o' + x.cells.size > C.size) := by have := h5.1; omega
        obtain ⟨C', hC', hrel⟩ := fill_rel place vs xs l (splice cs o' (cellsOf v)) cs' (splice C.toList o' x.cells.toList).toArray (by simpa using h1)
          (fun k i v hk => by obtain ⟨x, hx⟩ := h2 (k + 1) i v (by simpa using hk); exact ⟨x, by simpa using hx⟩) (by simpa using h3)
          (fun k i v hk => by obtain ⟨o, s, hx⟩ := h4 (k + 1) i v (by simpa using hk); exact ⟨o, s, by simpa using hx⟩)
          (h5.splice ⟨q1, q2⟩ hfit) h6
        refine ⟨C', ?_, hrel⟩
        simp only [Instr.fill, hp, hsz]
        have : ¬ ((decide (s ≠ s) || decide (o' + s > C.size)) = true) := by simp; omega
        rw [if_neg (by simpa using this)]
        rw [fold_splice x.cells C o' (by omega)]
        exact hC'
      · simp at h6
end
end Go.Am
