/- EACH OPERATION OF THE ABSTRACT MACHINE SAYS WHAT THE MODEL's DOES (7): slices cut and made; stores. -/
import Derived.Test.YtlchefooafpdlaaAm11
import Derived.Laws.MakeOwn
namespace Go.Am
open Go
variable {P : Program} {T : Tab}

theorem wrapI64 {n : Int} (h : -9223372036854775808 ≤ n ∧ n ≤ 9223372036854775807) : IntKind.i64.wrap n = n := by rw [IntKind.wrap_i64]; omega

theorem cell_in {es i i' j : Nat} (hj : j < es) : (i * es ≤ i' * es + j ∧ i' * es + j < i * es + es) ↔ i' = i := by
  constructor
  · intro ⟨h1, h2⟩
    rcases Nat.lt_trichotomy i' i with h | h | h
    · have := Nat.mul_le_mul_right es (show i' + 1 ≤ i from h); rw [Nat.add_mul] at this; omega
    · exact h
    · have := Nat.mul_le_mul_right es (show i + 1 ≤ i' from h); rw [Nat.add_mul] at this; omega
  · rintro rfl; omega
theorem cell_lt {es n i j : Nat} (hi : i < n) (hj : j < es) : i * es + j < n * es := by
  have := Nat.mul_le_mul_right es (show i + 1 ≤ n from hi); rw [Nat.add_mul] at this; omega

section
variable {w : World} {Z : Nat → Prop} {inj : Inj} {st : AS} {a : Act} {Ds : List Nat}

theorem bound_run {dflt y : Nat} {o : Option Operand} {n : Nat} {code : BoundsCode} (h : RelS w Z inj st a Ds) (hb : bound st dflt o = some n) (hy : n ≤ y) :
    (∀ op, o = some op → (Instr.sliceBound (a.eval op) y code).run P w = .ok n w) ∧ (o = none → n = dflt) := by
  cases o with
  | none => simp [bound] at hb; exact ⟨by simp, fun _ => hb.symm⟩
  | some op =>
    refine ⟨fun op' e => ?_, by simp⟩
    cases e
    simp only [bound] at hb
    split at hb <;> try simp at hb
    rename_i k m hm
    have h1 := ev_rel h hm
    generalize a.eval op = vx at h1 ⊢
    cases h1 with | d h1 =>
    cases h1
    obtain ⟨h0, rfl⟩ := hb
    simp only [Instr.sliceBound, asIntOf, Sem.run_bind, Sem.run_pure, Result.andThen_ok]
    rw [Sem.run_ite, if_pos ⟨h0, by omega⟩]; rfl

theorem op_slice {t : TypeId} {i : TI} {x : Operand} {xv v : V} {lo hi : Option Operand} {n p q : Nat} (h : RelS w Z inj st a Ds) (ht : tiOf P t = some i) (hk : i.kind = .slice) (hx : st.ev x = some xv) (hn : lenV xv = some n)
    (hlo : bound st 0 lo = some p) (hhi : bound st n hi = some q) (hs : sliceV i.esize xv p q = some v) :
    OpRes st st v w Z inj ((do pure (Next.value (← Instr.sliceAt t (a.eval x) (lo.map a.eval) (hi.map a.eval) none)) : Sem Next).run P w) := by
  obtain ⟨info, d, z, k⟩ := ti_ok ht
  have hkk := k.kind
  unfold KindOk at hkk
  simp only [hk] at hkk
  obtain ⟨e, ie, de, ze, rfl, g1, g2, g3, g4, g5, g6, g7, _⟩ := hkk
  have h3 := ev_rel h hx
  generalize a.eval x = vx at h3 ⊢
  have run : ∀ ad len cap, len = n → q ≤ cap → p ≤ q → (Instr.sliceAt t (.slice ad len cap) (lo.map a.eval) (hi.map a.eval) none).run P w = .ok (.slice (if cap = p then ad else ad.map (·.add (p * i.esize))) (q - p) (cap - p)) w := by
    intro ad len cap hl hq hp
    obtain ⟨l1, l2⟩ := bound_run (P := P) (y := q) (code := .sliceB) h hlo hp
    obtain ⟨r1, r2⟩ := bound_run (P := P) (y := cap) (code := .sliceAcap) h hhi hq
    simp only [Instr.sliceAt, Sem.run_bind, run_underlying k.und, Result.andThen_ok, Instr.slice, Instr.sliceBounds, sizeOf_run g1, g6]
    cases hi with
    | none =>
      have := r2 rfl; subst this
      cases lo with
      | none => have := l2 rfl; subst this; simp [hl]
      | some o => simp [hl, l1 o rfl]
    | some o' =>
      cases lo with
      | none => have := l2 rfl; subst this; simp [r1 o' rfl]
      | some o => simp [r1 o' rfl, l1 o rfl]
  cases xv <;> simp only [sliceV, reduceCtorEq] at hs
  case d x =>
    cases x <;> simp only [reduceCtorEq] at hs
    case nilsl =>
      split at hs <;> simp at hs
      rename_i h0
      obtain ⟨rfl, rfl⟩ := h0
      subst hs
      simp [lenV] at hn
      cases h3 with | d h3 =>
      cases h3
      exact .quiet h (run_value (run _ _ _ hn (by omega) (by omega))) (by simpa using RelV.d .nilsl)
    case sl es xs =>
      split at hs <;> simp at hs
      rename_i h0
      obtain ⟨h0, h1, he⟩ := h0
      subst hs
      simp [lenV] at hn
      cases h3 with | d h3 =>
      cases h3 with
      | slnil =>
        simp at h1 hn
        obtain ⟨rfl, rfl⟩ : q = 0 ∧ p = 0 := by omega
        exact .quiet h (run_value (run _ _ _ hn (by omega) (by omega))) (by simpa using RelV.d (.slnil _))
      | slemp =>
        simp at h1 hn
        obtain ⟨rfl, rfl⟩ : q = 0 ∧ p = 0 := by omega
        exact .quiet h (run_value (run _ _ _ hn (by omega) (by omega))) (by simpa using RelV.d (.slemp _ _))
      | @sl _ _ b o cap hc hz hl hcell hrel =>
        refine .quiet h (run_value (run _ _ _ hn (by omega) h0)) ?_
        have hlen : ((xs.drop p).take (q - p)).length = q - p := by simp; omega
        have hget : ∀ (i : Nat) (x : List DV), ((xs.drop p).take (q - p))[i]? = some x → xs[p + i]? = some x := by
          intro i x hx
          rw [List.getElem?_take] at hx
          split at hx
          · rwa [List.getElem?_drop] at hx
          · simp at hx
        by_cases hcp : cap = p
        · rw [if_pos hcp]
          have h9 : (xs.drop p).take (q - p) = [] := List.eq_nil_of_length_eq_zero (by rw [hlen]; omega)
          have h8 : q - p = 0 := by omega
          rw [h9, h8]
          exact .d (RelD.sl (es := es) (xs := []) (by simp) (by simp) (by simp) (by simp) (by simp))
        · rw [if_neg hcp, Option.map_some, addr_add]
          have e2 : ∀ k j, o + p * i.esize + (k * es + j) = o + ((p + k) * es + j) := by
            intro k j; rw [← he, Nat.add_mul]; omega
          have := RelD.sl (w := w) (Z := Z) (es := es) (xs := (xs.drop p).take (q - p)) (b := b) (o := o + p * i.esize) (cap := cap - p) (by rw [hlen]; omega) (fun hne => hz (by rintro rfl; simp at hne)) (fun i x hx => hl _ _ (hget i x hx))
            (fun k x j d hx hd => by rw [e2]; exact hcell _ _ j d (hget k x hx) hd)
            (fun k x j d c hx hd hc => hrel _ _ j d c (hget k x hx) hd (by rw [e2] at hc; exact hc))
          rw [hlen] at this
          exact .d this
  case hs m es off len =>
    split at hs <;> simp at hs
    rename_i h0
    obtain ⟨h0, h1, he⟩ := h0
    subst hs
    simp [lenV] at hn
    cases h3 with
    | hsnil hm =>
      obtain ⟨rfl, rfl⟩ : q = 0 ∧ p = 0 := by omega
      exact .quiet h (run_value (run _ _ _ hn (by omega) (by omega))) (by simpa using RelV.hsnil (es := es) (off := off) hm)
    | @hs _ _ _ _ cap ad hm hc hsp hcap =>
      refine .quiet h (run_value (run _ _ _ hn (by omega) h0)) ?_
      by_cases hcp : cap = p
      · rw [if_pos hcp]
        exact .hs hm (by omega) hsp (fun hne => by omega)
      · rw [if_neg hcp, Option.map_some]
        obtain ⟨b, o, hi, rfl, hbig⟩ := hcap (by omega)
        rw [addr_add]
        refine .hs hm (by omega) rfl fun _ => ⟨b, o, hi, ?_, ?_⟩
        · rw [he, Nat.add_mul, ← Nat.add_assoc]
        · rwa [show off + p + (cap - p) = off + cap by omega]

/-- The rows that 'make' and a literal begin with. -/
theorem zeros_get {ze : Value} {es n i j : Nat} {ds : List DV} (hc : ze.cells.toList.mapM constC = some ds) (hl : ds.length = es) (hi : i < n) {d : DV} (hd : ds[j]? = some d) :
    ∃ c, ((Array.range (n * es)).map (ze.cells[· % ze.cells.size]!))[i * es + j]? = some c ∧ RelD w Z d c ∧ isCell d = true := by
  obtain ⟨h1, h2⟩ := constL_rel (w := w) (Z := Z) hc
  obtain ⟨c, hcj, hr, hcell, _⟩ := h2 j d hd
  have hj : j < es := by have := lt_size hd; omega
  refine ⟨c, ?_, hr, hcell⟩
  have hlt := cell_lt hi hj
  rw [Array.getElem?_map, Array.getElem?_range]
  simp only [hlt, if_true, Option.map_some]
  have : (i * es + j) % ze.cells.size = j := by rw [← h1, hl, Nat.mul_comm, Nat.mul_add_mod, Nat.mod_eq_of_lt hj]
  rw [this]
  have h9 : ze.cells[j]! = ze.cells[j]'(lt_sizeA hcj) := getElem!_pos ze.cells j (lt_sizeA hcj)
  rw [h9]
  exact congrArg some (Array.getElem?_eq_some_iff.1 hcj).2

theorem op_makeSlice {t : TypeId} {i : TI} {l c : Operand} {k1 k2 : IntKind} {n m : Int} (h : RelS w Z inj st a Ds) (ht : tiOf P t = some i) (hk : i.kind = .slice) (hl : st.ev l = some (.d (.int k1 n))) (hc : st.ev c = some (.d (.int k2 m)))
    (h0 : 0 ≤ n) (h1 : n ≤ m) (hr : m * (i.ebytes * 4) ≤ room) :
    OpRes st (st.new (.dat i.esize (List.replicate n.toNat i.ezero))) (.hs st.nx i.esize 0 n.toNat) w Z inj ((do pure (Next.value (← Instr.makeSlice t (a.eval l) (a.eval c))) : Sem Next).run P w) := by
  obtain ⟨info, d, z, k⟩ := ti_ok ht
  have hkk := k.kind
  unfold KindOk at hkk
  simp only [hk] at hkk
  obtain ⟨e, ie, de, ze, rfl, g1, g2, g3, g4, g5, g6, g7, g8, g9, _⟩ := hkk
  have h3 := ev_rel h hl
  have h4 := ev_rel h hc
  generalize a.eval l = vl at h3 ⊢
  generalize a.eval c = vc at h4 ⊢
  cases h3 with | d h3 =>
  cases h3
  cases h4 with | d h4 =>
  cases h4
  have hm : m ≤ 4294967296 := by
    have e1 : (1 : Int) ≤ (i.ebytes : Int) * 4 := by omega
    have := Int.mul_le_mul_of_nonneg_left e1 (show (0:Int) ≤ m by omega)
    unfold room at hr; omega
  have hb : (i.ebytes : Int) * m ≤ 281474976710656 := by
    unfold room at hr
    have : m * ((i.ebytes : Int) * 4) = (i.ebytes : Int) * m * 4 := by rw [← Int.mul_assoc, Int.mul_comm m]
    omega
  have w1 : IntKind.i64.wrap n = n := wrapI64 (by omega)
  have w2 : IntKind.i64.wrap m = m := wrapI64 (by omega)
  obtain ⟨N, rfl⟩ := Int.eq_ofNat_of_zero_le h0
  obtain ⟨M, rfl⟩ := Int.eq_ofNat_of_zero_le (show 0 ≤ m by omega)
  simp only [Int.toNat_natCast]
  have hrun := run_make (P := P) w t e ie ze k.und g1 g3 k1 k2 (N : Int) (M : Int) h0 h1 (by rw [g8]; exact hb) (by omega)
  simp only [Int.toNat_natCast, g6] at hrun
  have hNM : N ≤ M := by omega
  refine .new h (run_value hrun) ?_ ?_
  · refine ⟨g7, ?_, .inr ⟨w.heap.size, 0, _, e, upd_same _ _ _, alloc_new _ _, ?_⟩⟩
    · intro j x hx
      rw [List.getElem?_replicate] at hx
      split at hx <;> simp at hx
      rw [← hx]; exact g5
    · intro j x j' d hx hd
      rw [List.getElem?_replicate] at hx
      split at hx <;> simp at hx
      rename_i hj
      subst hx
      obtain ⟨c, hc, hr, hcell⟩ := zeros_get (w := w.alloc (.cells (madeCells ze.cells (M * i.esize)) e)) (Z := Z) g4 g5 (show j < M by omega) hd
      exact ⟨hcell, c, by rw [Nat.zero_add]; exact hc, hr⟩
  · refine .hs (by omega) hNM rfl fun _ => ⟨w.heap.size, 0, upd_same _ _ _, by simp, ?_⟩
    exact ⟨_, _, _, alloc_new _ _, by rw [size_madeCells]; simp⟩

/-! ### a literal's rows -/
def ERel (w : World) (Z : Nat → Prop) (inj : Inj) (nx es : Nat) (xs : List (List V)) (C : Array Value) : Prop :=
  C.size = xs.length * es ∧ (∀ (i : Nat) (x : List V), xs[i]? = some x → x.length = es) ∧
    ∀ (i : Nat) (x : List V) (j : Nat) (d : V), xs[i]? = some x → x[j]? = some d → vCell d = true ∧ ∃ c, C[i * es + j]? = some c ∧ RelV w Z inj nx d c

theorem elems_get {es : Nat} : ∀ {vs : List (Nat × V)} {l : List (Nat × List V)}, elems es vs = some l → l.length = vs.length ∧ ∀ (k i : Nat) (v : V), vs[k]? = some (i, v) → (cellsOf v).length = es ∧ (cellsOf v).all vCell = true ∧ l[k]? = some (i, cellsOf v)
  | [], l, h => by simp [elems] at h; subst h; simp
  | (i, v) :: r, l, h => by
    simp only [elems] at h
    split at h
    · rename_i l' h2
      split at h
      · rename_i hc
        simp at h; subst h
        obtain ⟨h3, h4⟩ := elems_get h2
        refine ⟨by simp [h3], fun k i' v' hk => ?_⟩
        cases k with
        | zero => simp at hk; obtain ⟨rfl, rfl⟩ := hk; exact ⟨hc.1, hc.2, by simp⟩
        | succ k => simp at hk; obtain ⟨a, b, c⟩ := h4 k i' v' hk; exact ⟨a, b, by simpa using c⟩
      · simp at h
    · simp at h

theorem ERel.set {w : World} {nx es : Nat} {xs : List (List V)} {C vs : Array Value} {ys : List V} {i : Nat} (h : ERel w Z inj nx es xs C) (hy : LRel w Z inj nx ys vs) (hyl : ys.length = es) (hyc : ys.all vCell = true) (hi : i < xs.length) :
    ERel w Z inj nx es (xs.set i ys) (Am.splice C.toList (i * es) vs.toList).toArray := by
  obtain ⟨h1, h2, h3⟩ := h
  have hvs : vs.toList.length = es := by have := hy.1; simp; omega
  have hfit : i * es + vs.toList.length ≤ C.toList.length := by
    rw [hvs, Array.length_toList, h1]
    have := Nat.mul_le_mul_right es (show i + 1 ≤ xs.length from hi); rw [Nat.add_mul] at this; omega
  refine ⟨by simp [splice_len _ _ _ hfit, h1], ?_, ?_⟩
  · intro j x hx
    rw [List.getElem?_set] at hx
    by_cases hij : i = j
    · rw [if_pos hij, if_pos (by omega)] at hx
      simp at hx; rw [← hx]; exact hyl
    · rw [if_neg hij] at hx; exact h2 j x hx
  · intro j x j' d hx hd
    rw [List.getElem?_set] at hx
    by_cases hij : i = j
    · subst hij
      rw [if_pos rfl, if_pos hi] at hx
      simp at hx; subst hx
      have hj' := lt_size hd
      obtain ⟨c, hc⟩ := ex_getA (xs := vs) (i := j') (by have := hy.1; omega)
      refine ⟨List.all_eq_true.1 hyc _ (List.mem_of_getElem? hd), c, ?_, hy.2 _ _ _ hd hc⟩
      rw [List.getElem?_toArray, splice_get _ _ _ _ hfit, if_pos (by rw [hvs]; omega), show i * es + j' - i * es = j' by omega]
      simpa using hc
    · rw [if_neg hij] at hx
      obtain ⟨h4, c, h5, h6⟩ := h3 j x j' d hx hd
      refine ⟨h4, c, ?_, h6⟩
      rw [List.getElem?_toArray, splice_get _ _ _ _ hfit, if_neg ?_]
      · simpa using h5
      · rw [hvs]
        intro hc
        exact hij ((cell_in (by have := lt_size hd; have := h2 j x hx; omega)).1 hc).symm

theorem fillL_rel {w : World} {nx es : Nat} : ∀ (vs : List (Nat × V)) (xs : List (Nat × Value)) (l : List (Nat × List V)) (cs cs' : List (List V)) (C : Array Value),
    vs.length = xs.length → (∀ (k : Nat) (i : Nat) (v : V), vs[k]? = some (i, v) → ∃ x, xs[k]? = some (i, x) ∧ RelV w Z inj nx v x) →
    l.length = vs.length → (∀ (k : Nat) (i : Nat) (v : V), vs[k]? = some (i, v) → (cellsOf v).length = es ∧ (cellsOf v).all vCell = true ∧ l[k]? = some (i, cellsOf v)) →
    ERel w Z inj nx es cs C → fillL cs l = some cs' → ∃ C', Instr.fill (fun i => some (i * es, es)) C xs = some C' ∧ ERel w Z inj nx es cs' C' ∧ cs'.length = cs.length
  | [], xs, l, cs, cs', C, h1, _, h3, _, h5, h6 => by
    have : xs = [] := by cases xs <;> simp_all
    have : l = [] := by cases l <;> simp_all
    subst_vars
    simp [fillL] at h6; subst h6
    exact ⟨C, by simp [Instr.fill], h5, rfl⟩
  | (i, v) :: vs, xs, l, cs, cs', C, h1, h2, h3, h4, h5, h6 => by
    match xs, l, h1, h3 with
    | (i', x) :: xs, (o', ys) :: l, h1, h3 =>
      obtain ⟨x', hx', hr⟩ := h2 0 i v rfl
      simp at hx'; obtain ⟨rfl, rfl⟩ := hx'
      obtain ⟨hl, hc, hl0⟩ := h4 0 i' v rfl
      simp at hl0; obtain ⟨rfl, rfl⟩ := hl0
      obtain ⟨q1, q2, q3⟩ := cells_rel hr hc
      simp only [fillL] at h6
      split at h6
      · rename_i hfit
        obtain ⟨C', hC', hrel, hlen⟩ := fillL_rel vs xs l (cs.set o' (cellsOf v)) cs' (splice C.toList (o' * es) x.cells.toList).toArray (by simpa using h1)
          (fun k i v hk => by obtain ⟨x, hx⟩ := h2 (k + 1) i v (by simpa using hk); exact ⟨x, by simpa using hx⟩) (by simpa using h3)
          (fun k i v hk => by obtain ⟨a, b, hx⟩ := h4 (k + 1) i v (by simpa using hk); exact ⟨a, b, by simpa using hx⟩)
          (h5.set ⟨q1, q2⟩ hl hc hfit) h6
        refine ⟨C', ?_, hrel, by simpa using hlen⟩
        have hsz : o' * es + es ≤ C.size := by
          rw [h5.1]
          have := Nat.mul_le_mul_right es (show o' + 1 ≤ cs.length from hfit); rw [Nat.add_mul] at this; omega
        have hxs : x.cells.size = es := by omega
        simp only [Instr.fill, hxs]
        have : ¬ ((decide (es ≠ es) || decide (o' * es + es > C.size)) = true) := by simp; omega
        rw [if_neg (by simpa using this)]
        rw [fold_splice x.cells C (o' * es) (by omega)]
        exact hC'
      · simp at h6

theorem op_buildSlice {t : TypeId} {i : TI} {len : Nat} {ps : Array (Nat × Operand)} {vs : List (Nat × V)} {l : List (Nat × List V)} {xs : List (List V)} (h : RelS w Z inj st a Ds) (ht : tiOf P t = some i) (hv : evParts st.ev ps.toList = some vs)
    (hl : elems i.esize vs = some l) (hk : i.kind = .slice) (hroom : len * i.esize ≤ 16777216) (hf : fillL (List.replicate len (i.ezero.map .d)) l = some xs) :
    OpRes st (st.new (mkBlk i.esize xs)) (.hs st.nx i.esize 0 len) w Z inj ((do pure (Next.value (← Instr.buildSlice t len (ps.map fun (i, x) => (i, a.eval x)))) : Sem Next).run P w) := by
  obtain ⟨info, d, z, k⟩ := ti_ok ht
  have hkk := k.kind
  unfold KindOk at hkk
  simp only [hk] at hkk
  obtain ⟨e, ie, de, ze, rfl, g1, g2, g3, g4, g5, g6, g7, g8, g9, _⟩ := hkk
  obtain ⟨p1, p2⟩ := evParts_rel h hv
  obtain ⟨q1, q2⟩ := elems_get hl
  have hxs : ∀ (k i : Nat) (v : V), vs[k]? = some (i, v) → ∃ x, (ps.toList.map fun (x : Nat × Operand) => (x.1, a.eval x.2))[k]? = some (i, x) ∧ RelV w Z inj st.nx v x := by
    intro k i v hk
    obtain ⟨o, ho, hr⟩ := p2 k i v hk
    exact ⟨a.eval o, by simp only [List.getElem?_map, ho]; rfl, hr⟩
  have hz0 : ERel w Z inj st.nx i.esize (List.replicate len (i.ezero.map .d)) ((Array.range (len * i.esize)).map (ze.cells[· % ze.cells.size]!)) := by
    refine ⟨by simp, ?_, ?_⟩
    · intro j x hx
      rw [List.getElem?_replicate] at hx
      split at hx <;> simp at hx
      rw [← hx]; simpa using g5
    · intro j x j' d hx hd
      rw [List.getElem?_replicate] at hx
      split at hx <;> simp at hx
      rename_i hj
      subst hx
      simp only [List.getElem?_map, Option.map_eq_some_iff] at hd
      obtain ⟨d', hd', rfl⟩ := hd
      obtain ⟨c, hc, hr, hcell⟩ := zeros_get (w := w) (Z := Z) g4 g5 hj hd'
      exact ⟨hcell, c, hc, .d hr⟩
  obtain ⟨C', hC, hr, hlen⟩ := fillL_rel vs (ps.toList.map fun (x : Nat × Operand) => (x.1, a.eval x.2)) l _ xs _ (by simp [p1]) hxs q1 q2 hz0 hf
  have hC' : Instr.fill (fun j => some (j * i.esize, i.esize)) ((Array.range (len * i.esize)).map (ze.cells[· % ze.cells.size]!)) (ps.map fun (x : Nat × Operand) => (x.1, a.eval x.2)).toList = some C' := by simpa using hC
  have hrun : (Instr.buildSlice t len (ps.map fun (i, x) => (i, a.eval x))).run P w = .ok (.slice (some ⟨w.heap.size, 0, none⟩) len len) (w.alloc (.cells C' e)) := by
    have hn : ¬ (len * i.esize > 2 ^ 24) := by omega
    have hrow : (do let x ← newRow e C'; pure (Value.slice (some x) len len) : Sem Value).run P w = .ok (.slice (some ⟨w.heap.size, 0, none⟩) len len) (w.alloc (.cells C' e)) := by simp [newRow]
    by_cases hz : len * i.esize = 0
    · simp only [Instr.buildSlice, Sem.run_bind, run_underlying k.und, Result.andThen_ok, sizeOf_run g1, g6]
      rw [hz] at hC' ⊢
      rw [if_neg (by omega), if_pos rfl]
      simp only [Sem.run_bind, Sem.run_pure, Result.andThen_ok]
      have e0 : Array.map (fun x => (#[] : Array Value)[x % (#[] : Array Value).size]!) (Array.range 0) = Array.map (fun x => ze.cells[x % ze.cells.size]!) (Array.range 0) := by simp
      rw [e0]
      simp only [hC']
      exact hrow
    · simp only [Instr.buildSlice, Sem.run_bind, run_underlying k.und, Result.andThen_ok, sizeOf_run g1, g6]
      rw [if_neg hn, if_neg hz]
      have hzv : (zeroValue e).run P w = .ok ze w := by simp [zeroValue, typeInfo, g1, g3]
      simp only [Sem.run_bind, hzv, Sem.run_pure, Result.andThen_ok]
      simp only [hC']
      exact hrow
  have hlx : xs.length = len := by simpa using hlen
  refine .new h (run_value hrun) ?_ ?_
  · refine relB_mk g7 (upd_same _ _ _) (alloc_new _ _) hr.2.1 ?_
    intro j x j' d hx hd
    obtain ⟨h1, c, h2, h3⟩ := hr.2.2 j x j' d hx hd
    exact ⟨h1, c, h2, relV_alloc h _ h3⟩
  · refine .hs (by omega) (Nat.le_refl _) rfl fun _ => ⟨w.heap.size, 0, upd_same _ _ _, by simp, ?_⟩
    exact ⟨_, _, _, alloc_new _ _, by rw [hr.1, hlx]; simp⟩
end
end Go.Am
