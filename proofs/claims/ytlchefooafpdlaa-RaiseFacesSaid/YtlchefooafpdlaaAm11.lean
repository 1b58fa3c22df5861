/- EACH OPERATION OF THE ABSTRACT MACHINE SAYS WHAT THE MODEL's DOES (6): the rest of the quiet ones; slices that are made. -/
import Derived.Test.YtlchefooafpdlaaAm10
namespace Go.Am
open Go
variable {P : Program} {T : Tab}
section
variable {w : World} {Z : Nat → Prop} {inj : Inj} {st : AS} {a : Act} {Ds : List Nat}

theorem op_un {op : UnOp} {x : Operand} {p b : DV} (h : RelS w Z inj st a Ds) (hx : st.ev x = some (.d p)) (hc : unD op p = some b) :
    OpRes st st (.d b) w Z inj ((do pure (Next.value (← Op.unary op (a.eval x))) : Sem Next).run P w) := by
  have h1 := ev_rel h hx
  generalize a.eval x = vx at h1 ⊢
  cases h1 with | d h1 =>
  unfold unD at hc
  split at hc
  · simp at hc; subst hc; cases h1
    exact .quiet h (run_value (by simp [Op.unary, Op.intArith])) (.d (.int _ _))
  · simp at hc; subst hc; cases h1
    exact .quiet h (run_value (by simp [Op.unary])) (.d (.bool _))
  · cases h1
    simp only [binI, Option.some.injEq] at hc; subst hc
    exact .quiet h (run_value (by simp [Op.unary, Op.intBits])) (.d (.int _ _))
  · simp at hc

theorem op_convert {src dst : TypeId} {i j : TI} {x : Operand} {k0 k1 k : IntKind} {n : Int} (h : RelS w Z inj st a Ds) (hi : tiOf P src = some i) (hj : tiOf P dst = some j) (hik : i.kind = .int k0) (hjk : j.kind = .int k) (hx : st.ev x = some (.d (.int k1 n))) :
    OpRes st st (.d (.int k (k.wrap n))) w Z inj ((do pure (Next.value (← convert src dst (a.eval x))) : Sem Next).run P w) := by
  obtain ⟨info, d, z, ki⟩ := ti_ok hi
  obtain ⟨info', d', z', kj⟩ := ti_ok hj
  have h1 := ki.kind
  have h2 := kj.kind
  unfold KindOk at h1 h2
  simp only [hik, hjk] at h1 h2
  obtain ⟨rfl, _⟩ := h1
  obtain ⟨rfl, _⟩ := h2
  have h3 := ev_rel h hx
  generalize a.eval x = vx at h3 ⊢
  cases h3 with | d h3 =>
  cases h3
  refine .quiet h (run_value (x := .int k (k.wrap n)) ?_) (.d (.int _ _))
  simp only [convert, Sem.run_bind, run_underlying ki.und, run_underlying kj.und, Result.andThen_ok]
  simp [Conv.intToInt]

theorem op_makeFunc {f : FuncId} {first caps : Array Operand} {vs : List V} (h : RelS w Z inj st a Ds) (hf : first.size = 0) (hv : evL st.ev caps.toList = some vs) :
    OpRes st st (match allD vs with | some ds => .d (.fn f ds) | none => .fn f vs) w Z inj ((do pure (Next.value (← Instr.makeFunc (.func f) (first.map a.eval) (caps.map a.eval))) : Sem Next).run P w) := by
  have h1 := evL_rel h hv
  have e1 : first.map a.eval = #[] := by apply Array.eq_empty_of_size_eq_zero; simpa using hf
  have e2 : (caps.toList.map a.eval).toArray = caps.map a.eval := by apply Array.ext'; simp
  rw [e2] at h1
  refine .quiet h (run_value (x := .func (.func f) #[] (caps.map a.eval)) (by simp [Instr.makeFunc, e1])) ?_
  split
  · rename_i ds hd
    have := allD_map hd; subst this
    refine .d (.fn (by simpa using h1.1) fun i d c hd hc => ?_)
    have := h1.2 i (.d d) c (by simp [hd]) hc
    cases this with | d h => exact h
  · exact .fn h1.1 h1.2

theorem op_extract {x : Operand} {k : Nat} {v : V} (h : RelS w Z inj st a Ds) (hx : (∃ vs d, st.ev x = some (.d (.tup vs)) ∧ vs[k]? = some d ∧ v = .d d) ∨ ∃ vs, st.ev x = some (.tup vs) ∧ vs[k]? = some v) :
    OpRes st st v w Z inj ((do pure (Next.value (← Instr.extract (a.eval x) k)) : Sem Next).run P w) := by
  rcases hx with ⟨vs, d, hx, hk, rfl⟩ | ⟨vs, hx, hk⟩
  · have h1 := ev_rel h hx
    generalize a.eval x = vx at h1 ⊢
    cases h1 with | d h1 =>
    cases h1 with | @tup _ cs hl hr =>
    obtain ⟨c, hc⟩ := ex_getA (xs := cs) (i := k) (by have := lt_size hk; omega)
    exact .quiet h (run_value (x := c) (by simp [Instr.extract, hc])) (.d (hr _ _ _ hk hc))
  · have h1 := ev_rel h hx
    generalize a.eval x = vx at h1 ⊢
    cases h1 with | @tup _ cs hl hr =>
    obtain ⟨c, hc⟩ := ex_getA (xs := cs) (i := k) (by have := lt_size hk; omega)
    exact .quiet h (run_value (x := c) (by simp [Instr.extract, hc])) (hr _ _ _ hk hc)

theorem agD_rel {nx : Nat} {v : V} {x : Value} {cs : List V} (h : RelV w Z inj nx v x) (ha : agD v = some cs) : ∃ xs, x = .agg xs ∧ LRel w Z inj nx cs xs := by
  unfold agD at ha
  split at ha <;> simp at ha
  · subst ha
    cases h with | d h =>
    cases h with | @agg _ X hl hr =>
    refine ⟨X, rfl, by simpa using hl, fun i d c hd hc => ?_⟩
    simp only [List.getElem?_map, Option.map_eq_some_iff] at hd
    obtain ⟨d', hd', rfl⟩ := hd
    exact .d (hr i d' c hd' hc)
  · subst ha
    cases h with | @agg _ X hl hr => exact ⟨X, rfl, hl, hr⟩

theorem op_field {s : TypeId} {i : TI} {x : Operand} {xv v : V} {f off size : Nat} {ag : Bool} {cs r : List V} (h : RelS w Z inj st a Ds) (hi : tiOf P s = some i) (hx : st.ev x = some xv) (hk : i.kind = .struct) (hf : i.flds[f]? = some (off, size, ag))
    (ha : agD xv = some cs) (hs : sub cs off size = some r) (hp : pack ag r = some v) :
    OpRes st st v w Z inj ((do pure (Next.value (← Instr.field s (a.eval x) f)) : Sem Next).run P w) := by
  obtain ⟨info, d, z, k⟩ := ti_ok hi
  have hkk := k.kind
  unfold KindOk at hkk
  simp only [hk] at hkk
  obtain ⟨fs, rfl, hfl⟩ := hkk
  obtain ⟨fd, jf, df, g1, g2, g3, g4, g5, g6, g7⟩ := flds_get hfl hf
  obtain ⟨xs, he, hl⟩ := agD_rel (ev_rel h hx) ha
  subst g4 g6 g7
  obtain ⟨y, hy, hr⟩ := part_run (P := P) g2 g3 hl hs hp
  refine .quiet h (run_value (x := y) ?_) hr
  simp only [Instr.field, Sem.run_bind, run_underlying k.und, Result.andThen_ok, g1, he, asAgg, Sem.run_pure, hy]

theorem op_index {t : TypeId} {i : TI} {x ix : Operand} {xv v : V} {k0 : IntKind} {n : Int} {cs r : List V} (h : RelS w Z inj st a Ds) (hi : tiOf P t = some i) (hx : st.ev x = some xv) (hn : st.ev ix = some (.d (.int k0 n))) (hk : i.kind = .array)
    (ha : agD xv = some cs) (h0 : 0 ≤ n ∧ n < i.len) (hs : sub cs (n.toNat * i.esize) i.esize = some r) (hp : pack i.eagg r = some v) :
    OpRes st st v w Z inj ((do pure (Next.value (← Instr.index t (a.eval x) (a.eval ix))) : Sem Next).run P w) := by
  obtain ⟨info, d, z, k⟩ := ti_ok hi
  have hkk := k.kind
  unfold KindOk at hkk
  simp only [hk] at hkk
  obtain ⟨e, ie, de, rfl, g1, g2, g3, g4, g5⟩ := hkk
  obtain ⟨xs, he, hl⟩ := agD_rel (ev_rel h hx) ha
  have h3 := ev_rel h hn
  generalize a.eval ix = vx at h3 ⊢
  cases h3 with | d h3 =>
  cases h3
  rw [← g3] at hs
  rw [← g5] at hp
  obtain ⟨y, hy, hr⟩ := part_run (P := P) g1 g2 hl hs hp
  refine .quiet h (run_value (x := y) ?_) hr
  simp only [Instr.index, asIntOf, Sem.run_bind, Sem.run_pure, run_underlying k.und, Result.andThen_ok, he]
  rw [Sem.run_ite, if_pos h0]
  simp only [Sem.run_bind, sizeOf_run g1, Result.andThen_ok, g3]
  rw [g3] at hy
  exact hy

theorem op_indexS {t : TypeId} {i : TI} {x ix : Operand} {k0 : IntKind} {n : Int} {s : ByteArray} {b : UInt8} (h : RelS w Z inj st a Ds) (hi : tiOf P t = some i) (hx : st.ev x = some (.d (.str s))) (hn : st.ev ix = some (.d (.int k0 n))) (hk : i.kind = .str)
    (hb : (if 0 ≤ n then s[n.toNat]? else none) = some b) :
    OpRes st st (.d (.int .u8 b.toNat)) w Z inj ((do pure (Next.value (← Instr.index t (a.eval x) (a.eval ix))) : Sem Next).run P w) := by
  obtain ⟨info, d, z, k⟩ := ti_ok hi
  have hkk := k.kind
  unfold KindOk at hkk
  simp only [hk] at hkk
  obtain ⟨rfl, _⟩ := hkk
  have h2 := ev_rel h hx
  have h3 := ev_rel h hn
  generalize a.eval x = vy at h2 ⊢
  generalize a.eval ix = vx at h3 ⊢
  cases h2 with | d h2 =>
  cases h2
  cases h3 with | d h3 =>
  cases h3
  refine .quiet h (run_value (x := .int .u8 b.toNat) ?_) (.d (.int _ _))
  simp only [Instr.index, asIntOf, Sem.run_bind, Sem.run_pure, run_underlying k.und, Result.andThen_ok, hb]

theorem op_fieldAddr {s : TypeId} {i : TI} {p : Operand} {pv v : V} {f off size : Nat} {ag : Bool} (h : RelS w Z inj st a Ds) (hi : tiOf P s = some i) (hx : st.ev p = some pv) (hk : i.kind = .struct) (hf : i.flds[f]? = some (off, size, ag))
    (hp : fieldP off pv = some v) :
    OpRes st st v w Z inj ((do pure (Next.value (← Instr.fieldAt s (a.eval p) f)) : Sem Next).run P w) := by
  obtain ⟨info, d, z, k⟩ := ti_ok hi
  have hkk := k.kind
  unfold KindOk at hkk
  simp only [hk] at hkk
  obtain ⟨fs, rfl, hfl⟩ := hkk
  obtain ⟨fd, jf, df, g1, g2, g3, g4, g5, g6, g7⟩ := flds_get hfl hf
  have h3 := ev_rel h hx
  generalize a.eval p = vx at h3 ⊢
  have hrun : ∀ b o, (Instr.fieldAt s (.pointer (some ⟨b, o, none⟩)) f).run P w = .ok (.pointer (some ⟨b, o + off, none⟩)) w := by
    intro b o
    simp only [Instr.fieldAt, Instr.sureAddr, fieldPlace, Sem.run_bind, run_underlying k.und, Result.andThen_ok, g1, Sem.run_pure, sizeOf_run g2, Sem.run_ite, g4, if_neg g5, addr_add, g6]
  cases pv <;> simp only [fieldP, reduceCtorEq, Option.some.injEq] at hp
  case ref n es ii j =>
    subst hp
    cases h3 with | @ref _ _ _ _ b o h1 h2 =>
    refine .quiet h (run_value (hrun _ _)) ?_
    have := RelV.ref (w := w) (Z := Z) (nx := st.nx) (es := es) (i := ii) (j := j + off) h1 h2
    rwa [show o + (ii * es + (j + off)) = o + (ii * es + j) + off by omega] at this
  case dref cs j =>
    subst hp
    cases h3 with | @dref _ _ b o h1 h2 h3 =>
    refine .quiet h (run_value (hrun _ _)) ?_
    have := RelV.dref (inj := inj) (nx := st.nx) (j := j + off) h1 h2 h3
    rwa [← Nat.add_assoc] at this
  case d x =>
    cases x <;> simp only [reduceCtorEq, Option.some.injEq] at hp
    subst hp
    cases h3 with | d h3 =>
    cases h3 with | box h1 h2 h3 =>
    exact .quiet h (run_value (hrun _ _)) (RelV.dref (inj := inj) (nx := st.nx) (j := off) h1 h2 h3)

theorem op_indexAddr {t : TypeId} {i : TI} {x ix : Operand} {xv v : V} {k0 : IntKind} {n : Int} (h : RelS w Z inj st a Ds) (hi : tiOf P t = some i) (hx : st.ev x = some xv) (hn : st.ev ix = some (.d (.int k0 n)))
    (hp : indexP i xv n = some v) :
    OpRes st st v w Z inj ((do pure (Next.value (← Instr.indexAt t (a.eval x) (a.eval ix))) : Sem Next).run P w) := by
  obtain ⟨info, d, z, k⟩ := ti_ok hi
  have hkk := k.kind
  unfold KindOk at hkk
  have hix := ev_rel h hn
  generalize a.eval ix = vx at hix ⊢
  cases hix with | d hix =>
  cases hix
  have h3 := ev_rel h hx
  generalize a.eval x = vx at h3 ⊢
  -- the two kinds of run
  have slrun : i.kind = .slice → ∀ b o len cap, 0 ≤ n → n < (len : Nat) → (Instr.indexAt t (.slice (some ⟨b, o, none⟩) len cap) (.int k0 n)).run P w = .ok (.pointer (some ⟨b, o + n.toNat * i.esize, none⟩)) w := by
    intro hk b o len cap h0 h1
    simp only [hk] at hkk
    obtain ⟨e, ie, de, ze, rfl, g1, g2, g3, g4, g5, g6, _⟩ := hkk
    simp only [Instr.indexAt, asIntOf, Sem.run_bind, Sem.run_pure, run_underlying k.und, Result.andThen_ok]
    rw [Sem.run_ite, if_pos ⟨h0, h1⟩]
    simp only [Sem.run_bind, sizeOf_run g1, Result.andThen_ok, Sem.run_pure, addr_add, g6]
  have arrun : i.kind = .array → ∀ b o, 0 ≤ n → n < i.len → (Instr.indexAt t (.pointer (some ⟨b, o, none⟩)) (.int k0 n)).run P w = .ok (.pointer (some ⟨b, o + n.toNat * i.esize, none⟩)) w := by
    intro hk b o h0 h1
    simp only [hk] at hkk
    obtain ⟨e, ie, de, rfl, g1, g2, g3, g4, _⟩ := hkk
    simp only [Instr.indexAt, asIntOf, Instr.sureAddr, Sem.run_bind, Sem.run_pure, run_underlying k.und, Result.andThen_ok]
    rw [Sem.run_ite, if_pos ⟨h0, h1⟩]
    simp only [Sem.run_bind, sizeOf_run g1, Result.andThen_ok, Sem.run_pure, addr_add, g3]
  cases hk : i.kind <;> simp only [indexP, hk, reduceCtorEq] at hp
  case slice =>
    cases xv <;> (try simp only [reduceCtorEq] at hp)
    case d x =>
      cases x <;> (try simp only [reduceCtorEq] at hp)
      rename_i es xs
      split at hp <;> simp at hp
      rename_i h0
      obtain ⟨h0, he⟩ := h0
      obtain ⟨cs, hcs, rfl⟩ := hp
      have hlt := lt_size hcs
      cases h3 with | d h3 =>
      cases h3 with
      | slnil => simp at hlt
      | slemp => simp at hlt
      | @sl _ _ b o cap h1 h2 h4 h5 h6 =>
        refine .quiet h (run_value (slrun hk _ _ _ _ h0 (by omega))) ?_
        have := RelV.dref (w := w) (Z := Z) (inj := inj) (nx := st.nx) (cs := cs) (j := 0) (b := b) (o := o + n.toNat * i.esize) (h2 (by rintro rfl; simp at hlt))
          (fun k d hd => by have := (h5 n.toNat cs k d hcs hd).2; rwa [he, ← Nat.add_assoc] at this)
          (fun k d c hd hc => h6 n.toNat cs k d c hcs hd (by rwa [he, ← Nat.add_assoc]))
        simpa using this
    case hs m es off len =>
      split at hp <;> simp at hp
      rename_i h0
      obtain ⟨h0, h1, he⟩ := h0
      subst hp
      cases h3 with
      | hsnil => omega
      | @hs _ _ _ _ cap ad hn hle _ hcap =>
        obtain ⟨b, o, hi, rfl, _⟩ := hcap (by omega)
        refine .quiet h (run_value (slrun hk _ _ _ _ h0 (by omega))) ?_
        have := RelV.ref (w := w) (Z := Z) (nx := st.nx) (es := es) (i := off + n.toNat) (j := 0) hn hi
        rw [show o + off * es + n.toNat * i.esize = o + ((off + n.toNat) * es + 0) by rw [← he, Nat.add_mul]; omega]
        exact this
  case array =>
    cases xv <;> (try simp only [reduceCtorEq] at hp)
    case ref m es e j =>
      split at hp <;> simp at hp
      rename_i h0
      subst hp
      cases h3 with | @ref _ _ _ _ b o h1 h2 =>
      refine .quiet h (run_value (arrun hk _ _ h0.1 h0.2)) ?_
      have := RelV.ref (w := w) (Z := Z) (nx := st.nx) (es := es) (i := e) (j := j + n.toNat * i.esize) h1 h2
      rwa [← Nat.add_assoc, ← Nat.add_assoc, Nat.add_assoc o] at this
    case dref cs j =>
      split at hp <;> simp at hp
      rename_i h0
      subst hp
      cases h3 with | @dref _ _ b o h1 h2 h3 =>
      refine .quiet h (run_value (arrun hk _ _ h0.1 h0.2)) ?_
      have := RelV.dref (inj := inj) (nx := st.nx) (j := j + n.toNat * i.esize) h1 h2 h3
      rwa [← Nat.add_assoc] at this
    case d x =>
      cases x <;> (try simp only [reduceCtorEq] at hp)
      split at hp <;> simp at hp
      rename_i h0
      subst hp
      cases h3 with | d h3 =>
      cases h3 with | box h1 h2 h3 =>
      exact .quiet h (run_value (arrun hk _ _ h0.1 h0.2)) (RelV.dref (inj := inj) (nx := st.nx) (j := n.toNat * i.esize) h1 h2 h3)
end
end Go.Am
