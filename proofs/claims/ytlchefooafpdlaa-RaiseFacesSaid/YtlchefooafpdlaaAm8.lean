/- EACH OPERATION OF THE ABSTRACT MACHINE SAYS WHAT THE MODEL's DOES (3): structs, arrays, loads, integers, addresses. -/
import Derived.Test.YtlchefooafpdlaaAm7
namespace Go.Am
open Go
variable {P : Program} {T : Tab}

section
variable {w : World} {Z : Nat → Prop} {inj : Inj} {nx : Nat}

theorem run_mapM {α β : Type} {f : α → Sem β} {g : α → β} : ∀ {l : List α}, (∀ x ∈ l, (f x).run P w = .ok (g x) w) → (l.mapM f).run P w = .ok (l.map g) w
  | [], _ => by simp
  | x :: r, h => by
    have h1 := h x (by simp)
    have h2 := run_mapM (l := r) (fun y hy => h y (by simp [hy]))
    simp [List.mapM_cons, h1, h2]
theorem run_mapMA {α β : Type} {f : α → Sem β} {g : α → β} {l : Array α} (h : ∀ x ∈ l.toList, (f x).run P w = .ok (g x) w) : (l.mapM f).run P w = .ok (l.toList.map g).toArray w := by
  rw [Array.mapM_eq_mapM_toList, Sem.run_map, run_mapM h]; rfl

theorem flds_fwd {fs : Array Field} {fl : List (Nat × Nat × Bool)} (h : (fs.toList.mapM fun f => do
      let jf ← P.info? f.type
      let df ← P.underlying f.type
      if jf.size = 0 then none else some (f.offset, jf.size, aggDesc df)) = some fl) :
    fl.length = fs.size ∧ ∀ (i : Nat) (f : Field), fs[i]? = some f → ∃ jf df, P.info? f.type = some jf ∧ P.underlying f.type = some df ∧ jf.size ≠ 0 ∧ fl[i]? = some (f.offset, jf.size, aggDesc df) := by
  obtain ⟨h1, h2⟩ := mapM_some h
  refine ⟨by simpa using h1, fun i f hf => ?_⟩
  obtain ⟨y, hy, hx⟩ := h2 i f (by simpa using hf)
  cases h3 : P.info? f.type with
  | none => simp [h3] at hx
  | some jf =>
    cases h4 : P.underlying f.type with
    | none => simp [h3, h4] at hx
    | some df =>
      simp only [h3, h4, Option.bind_eq_bind, Option.bind_some] at hx
      split at hx
      · simp at hx
      · rename_i hne
        simp at hx; subst hx
        exact ⟨jf, df, rfl, rfl, hne, hy⟩

theorem flds_get {fs : Array Field} {fl : List (Nat × Nat × Bool)} (h : (fs.toList.mapM fun f => do
      let jf ← P.info? f.type
      let df ← P.underlying f.type
      if jf.size = 0 then none else some (f.offset, jf.size, aggDesc df)) = some fl) {i off s : Nat} {ag : Bool} (hi : fl[i]? = some (off, s, ag)) :
    ∃ f jf df, fs[i]? = some f ∧ P.info? f.type = some jf ∧ P.underlying f.type = some df ∧ jf.size = s ∧ s ≠ 0 ∧ f.offset = off ∧ aggDesc df = ag := by
  obtain ⟨h1, h2⟩ := flds_fwd h
  obtain ⟨f, hf⟩ := ex_getA (xs := fs) (i := i) (by have := lt_size hi; omega)
  obtain ⟨jf, df, h3, h4, h5, h6⟩ := h2 i f hf
  rw [hi] at h6; simp at h6
  obtain ⟨rfl, rfl, rfl⟩ := h6
  exact ⟨f, jf, df, hf, h3, h4, rfl, h5, rfl, rfl⟩

theorem placed_get {ti : TI} : ∀ {vs : List (Nat × V)} {l : List (Nat × List V)}, placed ti vs = some l → l.length = vs.length ∧ ∀ (k i : Nat) (v : V), vs[k]? = some (i, v) → ∃ o s,
    (match ti.kind with | .struct => (ti.flds[i]?).map fun f => (f.1, f.2.1) | .array => some (i * ti.esize, ti.esize) | _ => none) = some (o, s) ∧ (cellsOf v).length = s ∧ (cellsOf v).all vCell = true ∧ l[k]? = some (o, cellsOf v)
  | [], l, h => by simp [placed] at h; subst h; simp
  | (i, v) :: r, l, h => by
    simp only [placed] at h
    split at h
    · rename_i o s l' h1 h2
      split at h
      · rename_i hc
        simp at h; subst h
        obtain ⟨h3, h4⟩ := placed_get h2
        refine ⟨by simp [h3], fun k i' v' hk => ?_⟩
        cases k with
        | zero => simp at hk; obtain ⟨rfl, rfl⟩ := hk; exact ⟨o, s, h1, hc.1, hc.2, by simp⟩
        | succ k => simp at hk; obtain ⟨o', s', hx⟩ := h4 k i' v' hk; exact ⟨o', s', by simpa using hx⟩
      · simp at h
    · simp at h

theorem zero_rel {t : TypeId} {i : TI} {info : TypeInfo} {d : TypeDesc} {z : Value} (k : TiOk P t i info d z) : LRel w Z inj nx (i.zero.map .d) z.cells := by
  obtain ⟨h1, h2⟩ := constL_rel (w := w) (Z := Z) k.cells
  refine ⟨by simpa using h1, fun j d c hd hc => ?_⟩
  simp only [List.getElem?_map, Option.map_eq_some_iff] at hd
  obtain ⟨d', hd', rfl⟩ := hd
  obtain ⟨c', hc', hr, _⟩ := h2 j d' hd'
  rw [hc] at hc'; cases hc'; exact .d hr

theorem sizeOf_run {t : TypeId} {info : TypeInfo} (h : P.info? t = some info) : (sizeOf t).run P w = .ok info.size w := by simp [sizeOf, typeInfo, h]
theorem isAgg_run {t : TypeId} {d : TypeDesc} (h : P.underlying t = some d) : (isAgg t).run P w = .ok (aggDesc d) w := by
  simp only [isAgg, Sem.run_bind, run_underlying h, Result.andThen_ok]
  cases d <;> rfl

/-- A part of a struct's or an array's cells. -/
theorem part_run {t : TypeId} {info : TypeInfo} {d : TypeDesc} (h1 : P.info? t = some info) (h2 : P.underlying t = some d) {cs r : List V} {xs : Array Value} {off : Nat} {v : V} (hl : LRel w Z inj nx cs xs)
    (hs : sub cs off info.size = some r) (hp : pack (aggDesc d) r = some v) : ∃ x, (part t xs off).run P w = .ok x w ∧ RelV w Z inj nx v x := by
  obtain ⟨h3, h4⟩ := sub_get hs
  have h5 := (sub_some hs).1
  have hlen := hl.1
  have hrel : ∀ (i : Nat) (d : V) (c : Value), r[i]? = some d → (xs.extract off (off + info.size)).toList[i]? = some c → RelV w Z inj nx d c := by
    intro i d c hd hc
    obtain ⟨h6, h7⟩ := h4 i d hd
    refine hl.2 _ _ _ h6 ?_
    rw [Array.getElem?_toList, Array.getElem?_extract] at hc
    split at hc <;> first | exact hc | simp at hc
  have hlr : r.length = (xs.extract off (off + info.size)).toList.length := by simp; omega
  have hpk := pack_rel hp hlr hrel
  cases hb : aggDesc d with
  | true =>
    rw [hb] at hpk
    refine ⟨.agg (xs.extract off (off + info.size)), ?_, by
      have h9 : RelV w Z inj nx v (.agg (xs.extract off (off + info.size)).toList.toArray) := hpk
      rwa [Array.toArray_toList] at h9⟩
    simp [part, isAgg_run h2, hb, sizeOf_run h1]
  | false =>
    rw [hb] at hpk hp
    match r, hp, h3, h4 with
    | [c], hp, h3, h4 =>
      simp only [pack, Option.some.injEq] at hp; subst hp
      have h6 := (h4 0 c rfl).1
      simp only [Nat.add_zero] at h6
      obtain ⟨x, hx⟩ := ex_getA (xs := xs) (i := off) (by have := lt_size h6; omega)
      exact ⟨x, by simp [part, isAgg_run h2, hb, hx], hl.2 _ _ _ h6 hx⟩
end

section
variable {w : World} {Z : Nat → Prop} {inj : Inj} {st : AS} {a : Act} {Ds : List Nat}

theorem op_build {t : TypeId} {i : TI} {ps : Array (Nat × Operand)} {vs : List (Nat × V)} {l : List (Nat × List V)} {cs : List V} (h : RelS w Z inj st a Ds) (ht : tiOf P t = some i) (hv : evParts st.ev ps.toList = some vs)
    (ha : i.agg = true) (hl : placed i vs = some l) (hf : fillC (i.zero.map .d) l = some cs) :
    OpRes st st (mkAgg cs) w Z inj ((do pure (Next.value (← Instr.build t (ps.map fun (i, x) => (i, a.eval x)))) : Sem Next).run P w) := by
  obtain ⟨info, d, z, k⟩ := ti_ok ht
  obtain ⟨p1, p2⟩ := evParts_rel h hv
  obtain ⟨q1, q2⟩ := placed_get hl
  have hz := zero_rel (w := w) (Z := Z) (inj := inj) (nx := st.nx) k
  have hxs : ∀ (k i : Nat) (v : V), vs[k]? = some (i, v) → ∃ x, (ps.toList.map fun (x : Nat × Operand) => (x.1, a.eval x.2))[k]? = some (i, x) ∧ RelV w Z inj st.nx v x := by
    intro k i v hk
    obtain ⟨o, ho, hr⟩ := p2 k i v hk
    exact ⟨a.eval o, by simp only [List.getElem?_map, ho]; rfl, hr⟩
  have hzv : (zeroValue t).run P w = .ok z w := by simp [zeroValue, typeInfo, k.inf, k.zero]
  have hkind := k.kind
  unfold KindOk at hkind
  cases hk : i.kind <;> simp only [hk, TI.agg] at hkind ha
  case struct =>
    obtain ⟨fs, rfl, hfl⟩ := hkind
    obtain ⟨_, hff⟩ := flds_fwd hfl
    obtain ⟨C', hC, hr⟩ := fill_rel (fun i => ((fs.toList.map fun (f : Field) => (f.offset, ((P.info? f.type).map (·.size)).getD 0)).toArray)[i]?) vs (ps.toList.map fun (x : Nat × Operand) => (x.1, a.eval x.2)) l _ cs z.cells (by simp [p1]) hxs q1
      (fun k i' v hk' => by
        obtain ⟨o, s, h1, h2, h3, h4⟩ := q2 k i' v hk'
        simp only [hk, Option.map_eq_some_iff] at h1
        obtain ⟨⟨o', s', ag⟩, h5, h6⟩ := h1
        simp at h6; obtain ⟨rfl, rfl⟩ := h6
        obtain ⟨f, jf, df, g1, g2, _, g4, _, g6, _⟩ := flds_get hfl h5
        exact ⟨o', s', by simp [g1, g2, g4, g6], h2, h3, h4⟩) hz hf
    refine .quiet h (run_value (x := .agg C') ?_) (mkAgg_rel hr.1 hr.2)
    have hm : (fs.mapM fun f => do pure (f.offset, ← sizeOf f.type) : Sem (Array (Nat × Nat))).run P w = .ok (fs.toList.map fun (f : Field) => (f.offset, ((P.info? f.type).map (·.size)).getD 0)).toArray w := by
      refine run_mapMA fun f hf => ?_
      obtain ⟨j, hj⟩ := List.mem_iff_getElem?.1 hf
      obtain ⟨jf, df, g1, _⟩ := hff j f (by simpa using hj)
      simp [sizeOf_run g1, g1]
    simp only [Instr.build, Sem.run_bind, hzv, Result.andThen_ok, run_underlying k.und, hm]
    have hC' : Instr.fill (fun x => ((fs.toList.map fun (f : Field) => (f.offset, ((P.info? f.type).map (·.size)).getD 0)).toArray)[x]?) z.cells (ps.map fun (x : Nat × Operand) => (x.1, a.eval x.2)).toList = some C' := by simpa using hC
    simp only [hC']
    rfl
  case array =>
    obtain ⟨e, ie, de, rfl, g1, g2, g3, g4, _⟩ := hkind
    obtain ⟨C', hC, hr⟩ := fill_rel (fun j => some (j * i.esize, i.esize)) vs (ps.toList.map fun (x : Nat × Operand) => (x.1, a.eval x.2)) l _ cs z.cells (by simp [p1]) hxs q1
      (fun k i' v hk' => by
        obtain ⟨o, s, h1, h2, h3, h4⟩ := q2 k i' v hk'
        simp only [hk] at h1
        exact ⟨o, s, h1, h2, h3, h4⟩) hz hf
    refine .quiet h (run_value (x := .agg C') ?_) (mkAgg_rel hr.1 hr.2)
    have hC' : Instr.fill (fun j => some (j * i.esize, i.esize)) z.cells (ps.map fun (x : Nat × Operand) => (x.1, a.eval x.2)).toList = some C' := by simpa using hC
    simp only [Instr.build, Sem.run_bind, hzv, Result.andThen_ok, run_underlying k.und, sizeOf_run g1, g3, hC']
    rfl
  all_goals simp at ha

/-! ### loads -/
theorem loadP_run {t : TypeId} {i : TI} {pv v : V} {vp : Value} (h : RelH w Z inj st.hp st.nx) (ht : tiOf P t = some i) (hx : RelV w Z inj st.nx pv vp) (hl : loadP st i pv = some v) :
    ∃ b o x, vp = .pointer (some ⟨b, o, none⟩) ∧ (Instr.loadAt t vp).run P w = .ok x w ∧ RelV w Z inj st.nx v x := by
  obtain ⟨info, d, z, k⟩ := ti_ok ht
  have fin : ∀ {b o : Nat} {r : List V} {pp : Value}, pp = .pointer (some ⟨b, o, none⟩) → pack i.agg r = some v → r.length = i.size →
      (∀ (k : Nat) (x : V), r[k]? = some x → ∃ c, w.cell? ⟨b, o + k, none⟩ = some c ∧ RelV w Z inj st.nx x c) → ∃ b o x, pp = .pointer (some ⟨b, o, none⟩) ∧ (Instr.loadAt t pp).run P w = .ok x w ∧ RelV w Z inj st.nx v x := by
    intro b o r pp he hpk hlen hc
    obtain ⟨x, hrun, hrel⟩ := load_run (P := P) k hpk hlen hc
    exact ⟨b, o, x, he, by rw [he]; exact hrun, hrel⟩
  cases pv <;> simp only [loadP, reduceCtorEq] at hl
  case ref n es e j =>
    cases hx with
    | @ref _ _ _ _ b o hn hi =>
    cases hb : st.blk n with
    | none => simp [hb] at hl
    | some blk =>
      have hB := (h.blk n blk hb).2
      cases blk with
      | dead => simp [hb] at hl
      | loop => simp [hb] at hl
      | dat es' xs =>
        simp only [hb] at hl
        split at hl <;> try simp at hl
        rename_i cs he hx1
        have he := Nat.eq_of_beq_eq_true he
        subst he
        cases hs : sub cs j i.size with
        | none => simp [hs] at hl
        | some r =>
          simp only [hs] at hl
          rw [packD_eq] at hl
          obtain ⟨h1, h2⟩ := sub_get hs
          obtain ⟨b1, b2, b3⟩ := hB
          rcases b3 with ⟨b3, _⟩ | ⟨b', o', arr, ty, b3, b4, b5⟩
          · subst b3; simp at hx1
          · rw [hi] at b3; cases b3
            refine fin rfl hl (by simpa using h1) ?_
            intro k x hk
            simp only [List.getElem?_map, Option.map_eq_some_iff] at hk
            obtain ⟨y, hy, rfl⟩ := hk
            obtain ⟨h3, _⟩ := h2 k y hy
            obtain ⟨_, c, h4, h5⟩ := b5 e cs (j + k) y hx1 h3
            exact ⟨c, by simp only [World.cell?, b4]; rw [← h4]; simp [Nat.add_assoc], .d h5⟩
      | cel es' xs =>
        simp only [hb] at hl
        split at hl <;> try simp at hl
        rename_i cs he hx1
        have he := Nat.eq_of_beq_eq_true he
        subst he
        cases hs : sub cs j i.size with
        | none => simp [hs] at hl
        | some r =>
          simp only [hs] at hl
          obtain ⟨h1, h2⟩ := sub_get hs
          obtain ⟨b1, b2, b3⟩ := hB
          rcases b3 with ⟨b3, _⟩ | ⟨b', o', arr, ty, b3, b4, b5⟩
          · subst b3; simp at hx1
          · rw [hi] at b3; cases b3
            refine fin rfl hl h1 ?_
            intro k x hk
            obtain ⟨h3, _⟩ := h2 k x hk
            obtain ⟨_, c, h4, h5⟩ := b5 e cs (j + k) x hx1 h3
            exact ⟨c, by simp only [World.cell?, b4]; rw [← h4]; simp [Nat.add_assoc], h5⟩
  case dref cs j =>
    cases hx with
    | @dref _ _ b o hz hc hr =>
    cases hs : sub cs j i.size with
    | none => simp [hs] at hl
    | some r =>
      simp only [hs] at hl
      rw [packD_eq] at hl
      obtain ⟨h1, h2⟩ := sub_get hs
      refine fin rfl hl (by simpa using h1) ?_
      intro k x hk
      simp only [List.getElem?_map, Option.map_eq_some_iff] at hk
      obtain ⟨y, hy, rfl⟩ := hk
      obtain ⟨h3, _⟩ := h2 k y hy
      obtain ⟨c, hc'⟩ := hc _ _ h3
      exact ⟨c, by rw [← hc', Nat.add_assoc], .d (hr _ _ _ h3 hc')⟩
  case d x =>
    cases x <;> simp only [reduceCtorEq] at hl
    rename_i cs
    cases hx with
    | d hx =>
    cases hx with
    | @box _ b o hz hc hr =>
    cases hs : sub cs 0 i.size with
    | none => simp [hs] at hl
    | some r =>
      simp only [hs] at hl
      rw [packD_eq] at hl
      obtain ⟨h1, h2⟩ := sub_get hs
      refine fin rfl hl (by simpa using h1) ?_
      intro k x hk
      simp only [List.getElem?_map, Option.map_eq_some_iff] at hk
      obtain ⟨y, hy, rfl⟩ := hk
      obtain ⟨h3, _⟩ := h2 k y hy
      rw [Nat.zero_add] at h3
      obtain ⟨c, hc'⟩ := hc _ _ h3
      exact ⟨c, hc', .d (hr _ _ _ h3 hc')⟩

theorem op_load {t : TypeId} {i : TI} {p : Operand} {pv v : V} (h : RelS w Z inj st a Ds) (ht : tiOf P t = some i) (hp : st.ev p = some pv) (hl : loadP st i pv = some v) :
    OpRes st st v w Z inj ((do pure (Next.value (← Instr.loadAt t (a.eval p))) : Sem Next).run P w) := by
  obtain ⟨b, o, x, _, hrun, hr⟩ := loadP_run (P := P) h.heap ht (ev_rel h hp) hl
  exact .quiet h (run_value hrun) hr
end
end Go.Am
