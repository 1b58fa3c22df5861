/- EACH OPERATION OF THE ABSTRACT MACHINE SAYS WHAT THE MODEL's DOES (9): append. -/
import Derived.Test.YtlchefooafpdlaaAm13
namespace Go.Am
open Go
variable {P : Program} {T : Tab}

section
variable {w : World} {Z : Nat → Prop} {inj : Inj} {nx : Nat}

/-- The cells lie at the address; or there is none. -/
def SrcAt (w : World) (ad : Option Addr) (L : List Value) (ys : List (List V)) : Prop := match ad with
  | some p => ∀ (k : Nat) (u : Value), L[k]? = some u → w.cell? (p.add k) = some u
  | none => ys = []

theorem row_read {b o es : Nat} {xs : List (List V)} (hes : es ≠ 0) (hl : ∀ (i : Nat) (x : List V), xs[i]? = some x → x.length = es)
    (h : ∀ (i : Nat) (x : List V) (j : Nat) (d : V), xs[i]? = some x → x[j]? = some d → vCell d = true ∧ ∃ c, w.cell? ⟨b, o + (i * es + j), none⟩ = some c ∧ RelV w Z inj nx d c) :
    ∃ L : List Value, L.length = xs.length * es ∧ (∀ (k : Nat) (u : Value), L[k]? = some u → w.cell? ⟨b, o + k, none⟩ = some u) ∧ ERel w Z inj nx es xs L.toArray := by
  have hget : ∀ k, k < xs.length * es → ∃ i x j d c, xs[i]? = some x ∧ x[j]? = some d ∧ k = i * es + j ∧ w.cell? ⟨b, o + k, none⟩ = some c ∧ RelV w Z inj nx d c := by
    intro k hk
    have h1 : k / es < xs.length := Nat.div_lt_of_lt_mul (by rwa [Nat.mul_comm])
    have h2 : k % es < es := Nat.mod_lt _ (by omega)
    obtain ⟨x, hx⟩ := ex_get h1
    obtain ⟨d, hd⟩ := ex_get (xs := x) (i := k % es) (by rw [hl _ _ hx]; exact h2)
    obtain ⟨_, c, hc, hr⟩ := h _ _ _ _ hx hd
    have hk : k = k / es * es + k % es := by rw [Nat.mul_comm]; exact (Nat.div_add_mod k es).symm
    exact ⟨_, _, _, _, c, hx, hd, hk, by rw [hk]; exact hc, hr⟩
  refine ⟨(List.range (xs.length * es)).map fun k => (w.cell? ⟨b, o + k, none⟩).getD undef, by simp, ?_, ?_⟩
  · intro k u hu
    have hk : k < xs.length * es := by have := lt_size hu; simpa using this
    obtain ⟨_, _, _, _, c, _, _, _, hc, _⟩ := hget k hk
    simp [hk, hc] at hu; rw [hc, hu]
  · refine ⟨by simp, hl, fun i x j d hx hd => ?_⟩
    obtain ⟨h1, c, h2, h3⟩ := h i x j d hx hd
    have hk := cell_lt (lt_size hx) (show j < es by have := lt_size hd; have := hl i x hx; omega)
    exact ⟨h1, c, by simp [hk, h2], h3⟩

theorem ERel.append {es : Nat} {xs ys : List (List V)} {A B : Array Value} (h : ERel w Z inj nx es xs A) (k : ERel w Z inj nx es ys B) : ERel w Z inj nx es (xs ++ ys) (A ++ B) := by
  obtain ⟨a1, a2, a3⟩ := h
  obtain ⟨b1, b2, b3⟩ := k
  refine ⟨by simp [a1, b1, Nat.add_mul], ?_, ?_⟩
  · intro i x hx
    rw [List.getElem?_append] at hx
    split at hx
    · exact a2 _ _ hx
    · exact b2 _ _ hx
  · intro i x j d hx hd
    rw [List.getElem?_append] at hx
    split at hx
    · obtain ⟨h1, c, h2, h3⟩ := a3 i x j d hx hd
      exact ⟨h1, c, by rw [Array.getElem?_append_left (lt_sizeA h2)]; exact h2, h3⟩
    · rename_i hi
      obtain ⟨h1, c, h2, h3⟩ := b3 _ x j d hx hd
      refine ⟨h1, c, ?_, h3⟩
      have e : i * es + j = A.size + ((i - xs.length) * es + j) := by
        rw [a1, ← Nat.add_assoc, ← Nat.add_mul]; congr 2; omega
      rw [e, Array.getElem?_append_right (by omega), show A.size + ((i - xs.length) * es + j) - A.size = (i - xs.length) * es + j by omega]
      exact h2

theorem ERel.row {es : Nat} {xs : List (List V)} {A B : Array Value} (h : ERel w Z inj nx es xs A) : RowV w Z inj nx (A ++ B) 0 es xs := by
  intro i x j d hx hd
  obtain ⟨h1, c, h2, h3⟩ := h.2.2 i x j d hx hd
  exact ⟨h1, c, by rw [Nat.zero_add, Array.getElem?_append_left (lt_sizeA h2)]; exact h2, h3⟩

theorem ERel.one {es : Nat} {xs : List (List V)} {L : List Value} (hes : es ≠ 0) (h : ERel w Z inj nx es xs L.toArray) : ∀ u ∈ L, u.oneCell' = true := by
  intro u hu
  obtain ⟨k, hk⟩ := List.mem_iff_getElem?.1 hu
  have hlt := lt_size hk
  have hsz : L.length = xs.length * es := by simpa using h.1
  have h1 : k / es < xs.length := Nat.div_lt_of_lt_mul (by rw [Nat.mul_comm]; omega)
  obtain ⟨x, hx⟩ := ex_get h1
  obtain ⟨d, hd⟩ := ex_get (xs := x) (i := k % es) (by rw [h.2.1 _ _ hx]; exact Nat.mod_lt _ (by omega))
  obtain ⟨h2, c, h3, h4⟩ := h.2.2 _ _ _ _ hx hd
  have e : k / es * es + k % es = k := by rw [Nat.mul_comm]; exact Nat.div_add_mod k es
  rw [e] at h3
  simp [hk] at h3; subst h3
  exact oneCell_of_cell h4 h2

theorem ERel.mono {w' : World} {inj' : Inj} {nx' es : Nat} {xs : List (List V)} {A : Array Value} (h : ERel w Z inj nx es xs A) (hm : ∀ v x, RelV w Z inj nx v x → RelV w' Z inj' nx' v x) : ERel w' Z inj' nx' es xs A :=
  ⟨h.1, h.2.1, fun i x j d hx hd => let ⟨h1, c, h2, h3⟩ := h.2.2 i x j d hx hd; ⟨h1, c, h2, hm _ _ h3⟩⟩

theorem ERel.nil {es : Nat} : ERel w Z inj nx es [] #[] := ⟨by simp, by simp, by simp⟩

/-- Part of a block's rows. -/
theorem RowV.cells {arr : Array Value} {ty : TypeId} {b o es off len : Nat} {xs : List (List V)} (h : RowV w Z inj nx arr o es xs) (hb : w.heap[b]? = some (.cells arr ty (0, 0))) :
    ∀ (i : Nat) (x : List V) (j : Nat) (d : V), ((xs.drop off).take len)[i]? = some x → x[j]? = some d → vCell d = true ∧ ∃ c, w.cell? ⟨b, o + off * es + (i * es + j), none⟩ = some c ∧ RelV w Z inj nx d c := by
  intro i x j d hx hd
  rw [List.getElem?_take] at hx
  split at hx
  · rw [List.getElem?_drop] at hx
    obtain ⟨h1, c, h2, h3⟩ := h _ x j d hx hd
    refine ⟨h1, c, ?_, h3⟩
    simp only [World.cell?, hb]
    rw [← h2]
    simp only [Option.isSome_none, Bool.false_eq_true, if_false]
    rw [Nat.add_mul]; congr 1; omega
  · simp at hx
theorem sub_lens {es off len : Nat} {xs : List (List V)} (hl : ∀ (i : Nat) (x : List V), xs[i]? = some x → x.length = es) : ∀ (i : Nat) (x : List V), ((xs.drop off).take len)[i]? = some x → x.length = es := by
  intro i x hx
  rw [List.getElem?_take] at hx
  split at hx
  · rw [List.getElem?_drop] at hx; exact hl _ _ hx
  · simp at hx
end

section
variable {w : World} {Z : Nat → Prop} {inj : Inj} {st : AS} {a : Act} {Ds : List Nat}

theorem contsD_conts {x : V} {ys : List (List DV)} (h : contsD st x = some ys) : conts st x = some (ys.map (·.map .d)) := by
  unfold contsD at h
  split at h
  · simp at h; subst h; rfl
  · simp at h; subst h; rfl
  · split at h <;> try simp at h
    rename_i hb
    obtain ⟨h1, rfl⟩ := h
    simp [conts, hb, h1]
  · simp at h

/-- What a slice holds, read in the model: its rows. -/
theorem conts_rows {x : V} {xv : Value} {es : Nat} {ys : List (List V)} (h : RelS w Z inj st a Ds) (hx : RelV w Z inj st.nx x xv) (hc : conts st x = some ys) (hf : esFit es x = true) (hes : es ≠ 0) :
    ∃ (ad : Option Addr) (cap : Nat) (L : List Value), xv = .slice ad ys.length cap ∧ L.length = ys.length * es ∧ ERel w Z inj st.nx es ys L.toArray ∧ SrcAt w ad L ys := by
  unfold conts at hc
  split at hc
  · simp at hc; subst hc
    cases hx with | d hx =>
    cases hx
    exact ⟨none, 0, [], rfl, by simp, .nil, (rfl : SrcAt w none [] [])⟩
  · rename_i es' xs
    simp at hc; subst hc
    have he := Nat.eq_of_beq_eq_true hf
    subst he
    cases hx with | d hx =>
    cases hx with
    | slnil => exact ⟨none, 0, [], rfl, by simp, .nil, (rfl : SrcAt w none [] [])⟩
    | slemp _ ad => exact ⟨some ad, 0, [], rfl, by simp, .nil, fun k u hu => by simp at hu⟩
    | @sl _ _ b o cap h1 h2 h3 h4 h5 =>
      obtain ⟨L, l1, l2, l3⟩ := row_read (w := w) (Z := Z) (inj := inj) (nx := st.nx) (b := b) (o := o) (xs := xs.map (·.map V.d)) hes
        (fun i x hx => by simp only [List.getElem?_map, Option.map_eq_some_iff] at hx; obtain ⟨y, hy, rfl⟩ := hx; simpa using h3 i y hy)
        (fun i x j d hx hd => by
          simp only [List.getElem?_map, Option.map_eq_some_iff] at hx; obtain ⟨y, hy, rfl⟩ := hx
          simp only [List.getElem?_map, Option.map_eq_some_iff] at hd; obtain ⟨d', hd', rfl⟩ := hd
          obtain ⟨g1, c, g2⟩ := h4 i y j d' hy hd'
          exact ⟨g1, c, g2, .d (h5 i y j d' c hy hd' g2)⟩)
      exact ⟨some ⟨b, o, none⟩, cap, L, by simp, l1, l3, fun k u hu => by rw [addr_add]; exact l2 k u hu⟩
  · rename_i n es' off len
    have he := Nat.eq_of_beq_eq_true hf
    subst he
    have key : ∀ (b0 : Blk) (xs : List (List V)), st.blk n = some b0 → rowsOf b0 = some (es', xs) → off + len ≤ xs.length → ys = (xs.drop off).take len →
        ∃ (ad : Option Addr) (cap : Nat) (L : List Value), xv = .slice ad ys.length cap ∧ L.length = ys.length * es' ∧ ERel w Z inj st.nx es' ys L.toArray ∧ SrcAt w ad L ys := by
      rintro b0 xs hb hr hle rfl
      have hlen : ((xs.drop off).take len).length = len := by simp; omega
      obtain ⟨g1, g2, g3⟩ := relB_rows (h.heap.blk n b0 hb).2 hr
      cases hx with
      | hsnil =>
        have : (xs.drop off).take 0 = [] := by simp
        rw [this]
        exact ⟨none, 0, [], rfl, by simp, .nil, (rfl : SrcAt w none [] [])⟩
      | @hs _ _ _ _ cap ad hn hc _ hcap =>
        by_cases h0 : len = 0
        · subst h0
          have : (xs.drop off).take 0 = [] := by simp
          rw [this]
          exact ⟨some ad, cap, [], rfl, by simp, .nil, fun k u hu => by simp at hu⟩
        · obtain ⟨b, o, hi, rfl, hbig⟩ := hcap (by omega)
          rcases g3 with ⟨g3, g4⟩ | ⟨b', o', arr, ty, g3, g4, g5⟩
          · rw [hi] at g4; cases g4
          · rw [hi] at g3; cases g3
            obtain ⟨L, l1, l2, l3⟩ := row_read (w := w) (Z := Z) (inj := inj) (nx := st.nx) (b := b) (o := o + off * es') (xs := (xs.drop off).take len) hes (sub_lens g2) (g5.cells g4)
            exact ⟨some ⟨b, o + off * es', none⟩, cap, L, by rw [hlen], l1, l3, fun k u hu => by rw [addr_add]; exact l2 k u hu⟩
    split at hc
    · rename_i k xs hb
      split at hc <;> try simp at hc
      rename_i h1
      obtain ⟨h1, rfl⟩ := h1
      subst hc
      refine key _ (xs.map (·.map V.d)) hb rfl (by simpa using h1) (by simp)
    · rename_i k xs hb
      split at hc <;> try simp at hc
      rename_i h1
      obtain ⟨h1, rfl⟩ := h1
      subst hc
      exact key _ xs hb rfl h1 rfl
    · simp at hc
  · simp at hc

/-- Such a slice as the source of an append. -/
theorem src_of {es n : Nat} {tx e' : TypeId} {ad : Option Addr} {cap : Nat} {ys : List (List V)} {L : List Value} (hes : es ≠ 0) (htx : P.underlying tx = some (.slice e')) (hn : n = ys.length) (hl : L.length = ys.length * es)
    (hr : ERel w Z inj st.nx es ys L.toArray) (hc : SrcAt w ad L ys) : Src P es tx (.slice ad ys.length cap) n L w := by
  subst hn
  refine ⟨.inl ⟨e', htx⟩, fun w' => by simp [Builtin.lenOf], ?_, ?_, hl, hr.one hes⟩
  · cases ad with
    | none => subst hc; simp at hl; subst hl; simp [Builtin.firstCells]
    | some p =>
      have := run_loadCells_list (P := P) w p L hc
      rw [hl] at this
      simpa [Builtin.firstCells] using this
  · cases ad with
    | none => subst hc; simp at hl; subst hl; simp [Builtin.firstCells]
    | some p =>
      have := run_loadCells_list (P := P) w.drew p L hc
      rw [hl] at this
      simpa [Builtin.firstCells] using this

theorem app_room {t tx ty e : TypeId} {i : TypeInfo} (ht : P.underlying t = some (.slice e)) (hi : P.info? e = some i) {base : Option Addr} {sLen sCap : Nat} {x : Value} {n : Nat} {news : List Value} (hs : Src P i.size tx x n news w) (hroom : sLen + n ≤ sCap)
    {w' : World} (hst : match base with | some p => (storeCells (p.add (sLen * i.size)) news).run P w = .ok () w' | none => w' = w) :
    (Builtin.append_ #[t, tx] ty #[.slice base sLen sCap, x]).run P w = .ok (.slice base (sLen + n) sCap) w' := by
  cases base with
  | none => subst hst; rcases hs.kind with ⟨e', hk⟩ | hk <;> simp [Builtin.append_, run_underlying ht, run_underlying hk, sizeOf, typeInfo, hi, hs.len, hroom, hs.cells]
  | some p => rcases hs.kind with ⟨e', hk⟩ | hk <;> simp [Builtin.append_, run_underlying ht, run_underlying hk, sizeOf, typeInfo, hi, hs.len, hroom, hs.cells, hst]
end
end Go.Am
