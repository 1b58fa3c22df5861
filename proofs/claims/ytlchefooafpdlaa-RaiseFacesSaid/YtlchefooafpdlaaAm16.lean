/- EACH OPERATION OF THE ABSTRACT MACHINE SAYS WHAT THE MODEL's DOES (11): copy, len, min, max; all together. -/
import Derived.Test.YtlchefooafpdlaaAm15
namespace Go.Am
open Go
variable {P : Program} {T : Tab}

section
variable {w : World} {Z : Nat → Prop} {inj : Inj} {nx : Nat}
theorem splice_nil {α : Type} (xs : List α) (o : Nat) : splice xs o [] = xs := by simp [splice]

theorem RowV.spliceRows {arr : Array Value} {o es off : Nat} {xs ys : List (List V)} {L : List Value} (h : RowV w Z inj nx arr o es xs) (hl : ∀ (i : Nat) (x : List V), xs[i]? = some x → x.length = es) (hy : ERel w Z inj nx es ys L.toArray)
    (hle : off + ys.length ≤ xs.length) (hfit : o + off * es + L.length ≤ arr.size) : RowV w Z inj nx (splice arr.toList (o + off * es) L).toArray o es (splice xs off ys) := by
  have hL : L.length = ys.length * es := by simpa using hy.1
  intro i x j d hx hd
  rw [splice_get _ _ _ _ hle] at hx
  rw [List.getElem?_toArray, splice_get _ _ _ _ (by simpa using hfit)]
  by_cases hi : off ≤ i ∧ i < off + ys.length
  · rw [if_pos hi] at hx
    obtain ⟨h1, c, h2, h3⟩ := hy.2.2 _ x j d hx hd
    have hj : j < es := by have := lt_size hd; have := hy.2.1 _ x hx; omega
    have hc := cell_lt (lt_size hx) hj
    have he : i * es = off * es + (i - off) * es := by rw [← Nat.add_mul]; congr 1; omega
    rw [if_pos (by omega)]
    refine ⟨h1, c, ?_, h3⟩
    rw [List.getElem?_toArray] at h2
    rw [← h2]; congr 1; omega
  · rw [if_neg hi] at hx
    obtain ⟨h1, c, h2, h3⟩ := h i x j d hx hd
    have hj : j < es := by have := lt_size hd; have := hl _ x hx; omega
    refine ⟨h1, c, ?_, h3⟩
    rw [if_neg ?_]
    · simpa using h2
    · intro hc
      by_cases h4 : i < off
      · have := cell_lt h4 hj; omega
      · have h5 : (off + ys.length) * es ≤ i * es := Nat.mul_le_mul_right _ (by omega)
        rw [Nat.add_mul] at h5; omega

theorem ERel.take {es m : Nat} {xs : List (List V)} {L : List Value} (h : ERel w Z inj nx es xs L.toArray) (hm : m ≤ xs.length) : ERel w Z inj nx es (xs.take m) (L.take (m * es)).toArray := by
  obtain ⟨h1, h2, h3⟩ := h
  simp only [List.size_toArray] at h1
  have := Nat.mul_le_mul_right es hm
  refine ⟨by simp; rw [Nat.min_eq_left hm]; omega, ?_, ?_⟩
  · intro i x hx
    rw [List.getElem?_take] at hx
    split at hx
    · exact h2 _ _ hx
    · simp at hx
  · intro i x j d hx hd
    rw [List.getElem?_take] at hx
    split at hx
    · rename_i hi
      obtain ⟨h4, c, h5, h6⟩ := h3 i x j d hx hd
      have hc := cell_lt hi (show j < es by have := lt_size hd; have := h2 _ x hx; omega)
      refine ⟨h4, c, ?_, h6⟩
      rw [List.getElem?_toArray] at h5 ⊢
      rw [List.getElem?_take, if_pos hc]; exact h5
    · simp at hx
end

section
variable {w : World} {Z : Nat → Prop} {inj : Inj} {st : AS} {a : Act} {Ds : List Nat}

theorem op_copy {t u ty : TypeId} {i j : TI} {sv xv v : V} {vs vx : Value} {st1 : AS} (h : RelS w Z inj st a Ds) (ht : tiOf P t = some i) (_hu : tiOf P u = some j) (hik : i.kind = .slice) (_hjk : j.kind = .slice) (hfs : esFit i.esize sv = true) (hf : esFit i.esize xv = true)
    (hsr : RelV w Z inj st.nx sv vs) (hxr : RelV w Z inj st.nx xv vx) (ha : copyV st sv xv = some (v, st1)) :
    ∃ x w' inj', (Builtin.copy_ #[t, u] ty #[vs, vx]).run P w = .ok x w' ∧ RelV w' Z inj' st1.nx v x ∧ RelH w' Z inj' st1.hp st1.nx ∧ Ext w Z inj st.hp w' Z inj' st1.hp st.nx ∧ st1.sl = st.sl ∧ st.nx ≤ st1.nx := by
  obtain ⟨info, d, z, k⟩ := ti_ok ht
  have hk := k.kind
  unfold KindOk at hk
  simp only [hik] at hk
  obtain ⟨e, ie, de, ze, rfl, g1, g2, g3, g4, g5, g6, g7, g8, g9, _⟩ := hk
  cases sv <;> simp only [copyV, reduceCtorEq] at ha
  rename_i n es off len
  have hes := Nat.eq_of_beq_eq_true hfs
  subst hes
  split at ha <;> try simp at ha
  rename_i k0 xs ys hb hcd
  obtain ⟨⟨hle, rfl⟩, rfl, rfl⟩ := ha
  obtain ⟨ad, cap', L1, rfl, hl1, hr1, hs1⟩ := conts_rows h hxr (contsD_conts hcd) hf g7
  rw [List.length_map] at hl1 ⊢
  let m := min ys.length len
  have hm : m = min ys.length len := rfl
  rw [← hm]
  obtain ⟨q1, q2, q3⟩ := relB_rows (h.heap.blk n _ hb).2 rfl
  have hb0l : (xs.map (·.map V.d)).length = xs.length := by simp
  have hmul : m * i.esize ≤ ys.length * i.esize := Nat.mul_le_mul_right _ (by omega)
  -- the cells that are read
  have hcells : (Builtin.firstCells i.esize m (.slice ad ys.length cap')).run P w = .ok (L1.take (m * i.esize)).toArray w := by
    cases ad with
    | none =>
      have hnil : ys.map (·.map V.d) = [] := hs1
      have : ys = [] := by simpa using hnil
      subst this
      simp at hl1; subst hl1
      simp [Builtin.firstCells]
    | some p =>
      have := run_loadCells_list (P := P) w p (L1.take (m * i.esize)) (fun k u hu => by
        rw [List.getElem?_take] at hu
        split at hu
        · exact hs1 k u hu
        · simp at hu)
      rw [List.length_take, Nat.min_eq_left (by omega)] at this
      simpa [Builtin.firstCells] using this
  have hrest : ∀ base dlen dcap, dlen = len → vs = .slice base dlen dcap → ∀ w', (match base with | some p => (storeCells p (L1.take (m * i.esize))).run P w = .ok () w' | none => w' = w) →
      (Builtin.copy_ #[t, u] ty #[vs, .slice ad ys.length cap']).run P w = .ok (.int .i64 m) w' := by
    rintro base dlen dcap rfl rfl w' hst
    have hc2 := hcells
    rw [← g6] at hc2
    have hmin : Nat.min ys.length dlen = m := rfl
    cases base with
    | none =>
      subst hst
      simp [Builtin.copy_, run_underlying k.und, Builtin.lenOf, sizeOf_run g1, goInt, hmin, hc2]
    | some p =>
      have hst' : (storeCells p (L1.take (m * i.esize))).run P w = .ok () w' := hst
      rw [← g6] at hst'
      simp [Builtin.copy_, run_underlying k.und, Builtin.lenOf, sizeOf_run g1, hst', goInt, hmin, hc2]
  have hlive : live (.dat i.esize xs) = true := rfl
  have same : m = 0 → RelH w Z inj (repl st.hp n (.dat i.esize (splice xs off (ys.take m)))) st.nx ∧ Ext w Z inj st.hp w Z inj (repl st.hp n (.dat i.esize (splice xs off (ys.take m)))) st.nx := by
    intro h0
    have hsp : splice xs off (ys.take m) = xs := by rw [h0]; simp [splice]
    rw [hsp]
    have hfind : ∀ q, find (repl st.hp n (.dat i.esize xs)) q = find st.hp q := by
      intro q
      rw [find_repl]
      by_cases hq : n = q
      · subst hq; have : find st.hp n = some (.dat i.esize xs) := hb; simp [this]
      · simp [hq]
    constructor
    · exact ⟨fun q b hq => h.heap.blk q b (by rw [hfind] at hq; exact hq), fun q r b c p' q' h1 h2 => h.heap.sep q r b c p' q' (by rw [hfind] at h1; exact h1) (by rw [hfind] at h2; exact h2), fun q b p' h1 => h.heap.out q b p' (by rw [hfind] at h1; exact h1), h.heap.zs, h.heap.zc⟩
    · exact { Ext.refl (w := w) (Z := Z) (inj := inj) (hp := st.hp) (pin := st.nx) with imm := fun b hb => by obtain ⟨q, blk, o, h1, h2, h3⟩ := hb; rw [hfind] at h1; exact .inl ⟨q, blk, o, h1, h2, h3⟩ }
  have hint : ∀ w' inj' nx', RelV w' Z inj' nx' (.d (.int .i64 ((min ys.length len : Nat) : Int))) (.int .i64 (m : Nat)) := fun _ _ _ => .d (.int _ _)
  by_cases h0 : m = 0
  · obtain ⟨s1, s2⟩ := same h0
    cases hsr with
    | hsnil => exact ⟨_, w, inj, hrest none _ _ rfl rfl w rfl, hint _ _ _, s1, s2, rfl, Nat.le_refl _⟩
    | @hs _ _ _ _ cap adr hn' hlc _ hcap => exact ⟨_, w, inj, hrest (some adr) _ _ rfl rfl w (by show (storeCells _ _).run P w = _; rw [h0]; simp [storeCells]), hint _ _ _, s1, s2, rfl, Nat.le_refl _⟩
  · cases hsr with
    | hsnil => omega
    | @hs _ _ _ _ cap adr hn' hlc _ hcap =>
      obtain ⟨b, o, hi, rfl, hbig⟩ := hcap (by omega)
      rcases q3 with ⟨_, q4⟩ | ⟨b', o', arr, ty', q3, q4, q5⟩
      · rw [hi] at q4; cases q4
      rw [hi] at q3; cases q3
      have hL : (L1.take (m * i.esize)).length = m * i.esize := by rw [List.length_take, Nat.min_eq_left (by omega)]
      have hERm := hr1.take (m := m) (by simp; omega)
      have hsz : o + (off + cap) * i.esize ≤ arr.size := by
        obtain ⟨c, e2, f, k1, k2⟩ := hbig
        rw [q4] at k1; cases k1; exact k2
      have hmc : m * i.esize ≤ cap * i.esize := Nat.mul_le_mul_right _ (by omega)
      rw [Nat.add_mul] at hsz
      have hst := run_storeCells_at P b (o + off * i.esize) ty' (L1.take (m * i.esize)) 0 arr w q4 (by rw [hL]; omega) (hERm.one g7)
      simp only [Nat.add_zero] at hst
      have hsp : (arr.toList.take (o + off * i.esize) ++ L1.take (m * i.esize) ++ arr.toList.drop (o + off * i.esize + (L1.take (m * i.esize)).length)).toArray = (splice arr.toList (o + off * i.esize) (L1.take (m * i.esize))).toArray := rfl
      rw [hsp] at hst
      have hfitL : o + off * i.esize + (L1.take (m * i.esize)).length ≤ arr.toList.length := by rw [hL]; simp; omega
      have hasz : (splice arr.toList (o + off * i.esize) (L1.take (m * i.esize))).toArray.size = arr.size := by simp only [List.size_toArray]; rw [splice_len _ _ _ hfitL]; simp
      have hz : ∀ b1, Z b1 → (w.setRow b (splice arr.toList (o + off * i.esize) (L1.take (m * i.esize))).toArray).heap[b1]? = w.heap[b1]? := fun b1 hz1 =>
        setRow_other w b b1 _ (fun e => h.heap.out n _ _ hb hlive hi (by rw [← e]; exact hz1))
      have hkb := keepBig_setRow w b arr _ ty' (0, 0) q4 hasz
      have hyl : (ys.take m).length = m := by rw [List.length_take, Nat.min_eq_left (by omega)]
      refine ⟨_, _, inj, hrest (some ⟨b, o + off * i.esize, none⟩) _ _ rfl rfl _ hst, hint _ _ _, ?_, Ext.set h.heap hb hlive hi q4 hasz, rfl, Nat.le_refl _⟩
      refine h.heap.set hb hlive hi q4 hasz (relB_of_rows (es := i.esize) (xs := splice (xs.map (·.map V.d)) off ((ys.map (·.map V.d)).take m)) ?_ g7 ?_ (.inr ⟨b, o, _, ty', hi, setRow_heap w b _ _ _ _ q4, ?_⟩))
      · simp only [rowsOf, splice, List.map_append, List.map_take, List.map_drop, Option.some.injEq, Prod.mk.injEq, true_and]
        rw [List.length_take, List.length_take, List.length_map]
      · intro i' x' hx'
        rw [splice_get _ _ _ _ (by simp; omega)] at hx'
        split at hx'
        · exact hERm.2.1 _ _ hx'
        · exact q2 _ _ hx'
      · refine (q5.spliceRows q2 hERm (by simp; omega) (by rw [hL]; omega)).mono fun v x hr => hr.mono hz (fun _ h => h) hkb (fun _ _ => rfl) (Nat.le_refl _)
end
end Go.Am
