/- WALKING: the operations, one lemma for each kind, with the state laid out. -/
import Derived.Test.YtlchefooafpdlaaAm29
namespace Go.Am
open Go
variable {P : Program} {T : Tab}
section
variable {base : Nat} {ops : Array Oper} {dr : Dr} {l : List Oper} {sl sl1 : List (Nat × V)} {hp hp1 : List (Nat × Blk)} {nx nx1 : Nat} {K : AS → Prop} {ty : TypeId} {pos : String} {af : Array Edge} {t : Tmp} {g : Option (Nat × Bool)} {v : V}

theorem fp_zero {st : AS} {op : Op} (h : touch op = 0) : fp st op = (some [], []) := by
  unfold touch at h
  split at h <;> first | rfl | (simp at h; done) | (exact absurd h (by decide))
theorem okO_ld {dr : Dr} {k : Nat} {st st1 : AS} {t : TypeId} {p : Operand} (h : okF dr k (fp st (.load t p)) = true) : okO dr k st (.load t p) st1 = true := by
  cases dr with
  | none => rfl
  | some F => simp only [okF] at h; simp only [okO, h, Bool.true_and, datNew, touch]
theorem okO_dat {dr : Dr} {k n es : Nat} {st st1 : AS} {op : Op} {xs : List (List DV)} {r : List (Nat × Blk)} (hh : st1.hp = (n, .dat es xs) :: r) (h : okF dr k (fp st op) = true) : okO dr k st op st1 = true := by
  cases dr with
  | none => rfl
  | some F =>
    simp only [okF] at h
    simp only [okO, h, Bool.true_and, datNew, hh]
    split <;> rfl
theorem okO_zero {dr : Dr} {k : Nat} {st st1 : AS} {op : Op} (h : touch op = 0) : okO dr k st op st1 = true := by
  cases dr with
  | none => rfl
  | some F => simp only [okO, fp_zero h, fpLe_nil, Bool.true_and, datNew, h]
theorem ok_s {op : Op} (hg : guardOk ops ⟨sl, hp, nx⟩ ⟨some t, op, ty, pos, af, g⟩ = some true) (ho : opFn T ⟨sl, hp, nx⟩ op = some (v, ⟨sl1, hp1, nx1⟩)) (h : OpsK P T base ops dr l ⟨(t, v) :: sl1, hp1, nx1⟩ K) (hF : okO dr l.length ⟨sl, hp, nx⟩ (op) ⟨sl1, hp1, nx1⟩ = true := by rfl) : OpsK P T base ops dr (⟨some t, op, ty, pos, af, g⟩ :: l) ⟨sl, hp, nx⟩ K :=
  ok_op hg ho h hF
theorem ok_n {op : Op} (hg : guardOk ops ⟨sl, hp, nx⟩ ⟨none, op, ty, pos, af, g⟩ = some true) (ho : opFn T ⟨sl, hp, nx⟩ op = some (v, ⟨sl1, hp1, nx1⟩)) (h : OpsK P T base ops dr l ⟨sl1, hp1, nx1⟩ K) (hF : okO dr l.length ⟨sl, hp, nx⟩ (op) ⟨sl1, hp1, nx1⟩ = true := by rfl) : OpsK P T base ops dr (⟨none, op, ty, pos, af, g⟩ :: l) ⟨sl, hp, nx⟩ K :=
  ok_op hg ho h hF
theorem ok_ss {op : Op} (hg : guardOk ops ⟨sl, hp, nx⟩ ⟨some t, op, ty, pos, af, g⟩ = some false) (h : OpsK P T base ops dr l ⟨(t, .d (.tup [])) :: sl, hp, nx⟩ K) : OpsK P T base ops dr (⟨some t, op, ty, pos, af, g⟩ :: l) ⟨sl, hp, nx⟩ K :=
  ok_skip hg h
theorem ok_call {c : Call} {f : FuncId} {vs : List V} {ds : List DV} {r : DV} (hg : guardOk ops ⟨sl, hp, nx⟩ ⟨some t, .call c, ty, pos, af, g⟩ = some true) (hc : callee ⟨sl, hp, nx⟩ c = some (f, vs)) (hd : allFrozen hp vs = some ds)
    (hs : (vs.all V.isD = true ∨ r.scalar = true)) (hpu : Pure P T f ds r) (h : OpsK P T base ops dr l ⟨(t, .d r) :: sl, hp, nx⟩ K) (hF : okF dr l.length (fpC vs) = true := by rfl) : OpsK P T base ops dr (⟨some t, .call c, ty, pos, af, g⟩ :: l) ⟨sl, hp, nx⟩ K :=
  ok_callP hg rfl hc hd hs hpu h hF

theorem ok_callB {c : Call} {f : FuncId} {vs : List V} {ds : List DV} {b : Bool} (hg : guardOk ops ⟨sl, hp, nx⟩ ⟨some t, .call c, ty, pos, af, g⟩ = some true) (hc : callee ⟨sl, hp, nx⟩ c = some (f, vs)) (hd : allFrozen hp vs = some ds)
    (hpu : Pure P T f ds (.bool b)) (ht : b = true → OpsK P T base ops dr l ⟨(t, .d (.bool true)) :: sl, hp, nx⟩ K) (hf : b = false → OpsK P T base ops dr l ⟨(t, .d (.bool false)) :: sl, hp, nx⟩ K) (hF : okF dr l.length (fpC vs) = true := by rfl) : OpsK P T base ops dr (⟨some t, .call c, ty, pos, af, g⟩ :: l) ⟨sl, hp, nx⟩ K := by
  cases b with
  | true => exact ok_call hg hc hd (.inr rfl) hpu (ht rfl) hF
  | false => exact ok_call hg hc hd (.inr rfl) hpu (hf rfl) hF
theorem fin {ex : Ex} {st : AS} {rs : List ResultVar} {v : V} {r r' : DV} (hx : ex = .nor ∨ ex = .ret) (hv : resV T st rs = some v) (ht : toD st.hp 8 v = some r') (he : r' = r) : (ex = .nor ∨ ex = .ret) ∧ ∃ v r', resV T st rs = some v ∧ toD st.hp 8 v = some r' ∧ DLe r' r :=
  ⟨hx, v, r', hv, ht, he ▸ .refl _⟩

/-! ### Integers -/
theorem ok_add {x y : Operand} {xt yt : TypeId} {a b : Int} (hg : guardOk ops ⟨sl, hp, nx⟩ ⟨some t, .binOp .add xt x y yt, ty, pos, af, g⟩ = some true) (hx : AS.ev ⟨sl, hp, nx⟩ x = some (.d (.int .i64 a))) (hy : AS.ev ⟨sl, hp, nx⟩ y = some (.d (.int .i64 b)))
    (hr : -9223372036854775808 ≤ a + b ∧ a + b ≤ 9223372036854775807) (h : OpsK P T base ops dr l ⟨(t, .d (.int .i64 (a + b))) :: sl, hp, nx⟩ K) : OpsK P T base ops dr (⟨some t, .binOp .add xt x y yt, ty, pos, af, g⟩ :: l) ⟨sl, hp, nx⟩ K :=
  ok_op hg (v := .d (.int .i64 (a + b))) (st1 := ⟨sl, hp, nx⟩) (by simp only [opFn, hx, hy, binD, binI, if_true, wrapI64 hr]; rfl) h (okO_zero rfl)
theorem ok_sub {x y : Operand} {xt yt : TypeId} {a b : Int} (hg : guardOk ops ⟨sl, hp, nx⟩ ⟨some t, .binOp .sub xt x y yt, ty, pos, af, g⟩ = some true) (hx : AS.ev ⟨sl, hp, nx⟩ x = some (.d (.int .i64 a))) (hy : AS.ev ⟨sl, hp, nx⟩ y = some (.d (.int .i64 b)))
    (hr : -9223372036854775808 ≤ a - b ∧ a - b ≤ 9223372036854775807) (h : OpsK P T base ops dr l ⟨(t, .d (.int .i64 (a - b))) :: sl, hp, nx⟩ K) : OpsK P T base ops dr (⟨some t, .binOp .sub xt x y yt, ty, pos, af, g⟩ :: l) ⟨sl, hp, nx⟩ K :=
  ok_op hg (v := .d (.int .i64 (a - b))) (st1 := ⟨sl, hp, nx⟩) (by simp only [opFn, hx, hy, binD, binI, if_true, wrapI64 hr]; rfl) h (okO_zero rfl)
theorem ok_mul {x y : Operand} {xt yt : TypeId} {a b : Int} (hg : guardOk ops ⟨sl, hp, nx⟩ ⟨some t, .binOp .mul xt x y yt, ty, pos, af, g⟩ = some true) (hx : AS.ev ⟨sl, hp, nx⟩ x = some (.d (.int .i64 a))) (hy : AS.ev ⟨sl, hp, nx⟩ y = some (.d (.int .i64 b)))
    (hr : -9223372036854775808 ≤ a * b ∧ a * b ≤ 9223372036854775807) (h : OpsK P T base ops dr l ⟨(t, .d (.int .i64 (a * b))) :: sl, hp, nx⟩ K) : OpsK P T base ops dr (⟨some t, .binOp .mul xt x y yt, ty, pos, af, g⟩ :: l) ⟨sl, hp, nx⟩ K :=
  ok_op hg (v := .d (.int .i64 (a * b))) (st1 := ⟨sl, hp, nx⟩) (by simp only [opFn, hx, hy, binD, binI, if_true, wrapI64 hr]; rfl) h (okO_zero rfl)
theorem ok_neg {x : Operand} {xt : TypeId} {a : Int} (hg : guardOk ops ⟨sl, hp, nx⟩ ⟨some t, .unOp .neg xt x, ty, pos, af, g⟩ = some true) (hx : AS.ev ⟨sl, hp, nx⟩ x = some (.d (.int .i64 a)))
    (hr : -9223372036854775808 ≤ 0 - a ∧ 0 - a ≤ 9223372036854775807) (h : OpsK P T base ops dr l ⟨(t, .d (.int .i64 (0 - a))) :: sl, hp, nx⟩ K) : OpsK P T base ops dr (⟨some t, .unOp .neg xt x, ty, pos, af, g⟩ :: l) ⟨sl, hp, nx⟩ K :=
  ok_op hg (v := .d (.int .i64 (0 - a))) (st1 := ⟨sl, hp, nx⟩) (by simp only [opFn, hx, unD, wrapI64 hr]; rfl) h (okO_zero rfl)

/-! ### Comparisons: both roads -/
theorem ok_lss {x y : Operand} {xt yt : TypeId} {k : IntKind} {a b : Int} (hg : guardOk ops ⟨sl, hp, nx⟩ ⟨some t, .binOp .lss xt x y yt, ty, pos, af, g⟩ = some true) (hx : AS.ev ⟨sl, hp, nx⟩ x = some (.d (.int k a))) (hy : AS.ev ⟨sl, hp, nx⟩ y = some (.d (.int k b)))
    (ht : a < b → OpsK P T base ops dr l ⟨(t, .d (.bool true)) :: sl, hp, nx⟩ K) (hf : b ≤ a → OpsK P T base ops dr l ⟨(t, .d (.bool false)) :: sl, hp, nx⟩ K) : OpsK P T base ops dr (⟨some t, .binOp .lss xt x y yt, ty, pos, af, g⟩ :: l) ⟨sl, hp, nx⟩ K := by
  by_cases h : a < b
  · exact ok_op hg (v := .d (.bool true)) (st1 := ⟨sl, hp, nx⟩) (by simp [opFn, hx, hy, binD, binI, h]) (ht h) (okO_zero rfl)
  · exact ok_op hg (v := .d (.bool false)) (st1 := ⟨sl, hp, nx⟩) (by simp [opFn, hx, hy, binD, binI, h]) (hf (by omega)) (okO_zero rfl)
theorem ok_leq {x y : Operand} {xt yt : TypeId} {k : IntKind} {a b : Int} (hg : guardOk ops ⟨sl, hp, nx⟩ ⟨some t, .binOp .leq xt x y yt, ty, pos, af, g⟩ = some true) (hx : AS.ev ⟨sl, hp, nx⟩ x = some (.d (.int k a))) (hy : AS.ev ⟨sl, hp, nx⟩ y = some (.d (.int k b)))
    (ht : a ≤ b → OpsK P T base ops dr l ⟨(t, .d (.bool true)) :: sl, hp, nx⟩ K) (hf : b < a → OpsK P T base ops dr l ⟨(t, .d (.bool false)) :: sl, hp, nx⟩ K) : OpsK P T base ops dr (⟨some t, .binOp .leq xt x y yt, ty, pos, af, g⟩ :: l) ⟨sl, hp, nx⟩ K := by
  by_cases h : a ≤ b
  · exact ok_op hg (v := .d (.bool true)) (st1 := ⟨sl, hp, nx⟩) (by simp [opFn, hx, hy, binD, binI, h]) (ht h) (okO_zero rfl)
  · exact ok_op hg (v := .d (.bool false)) (st1 := ⟨sl, hp, nx⟩) (by simp [opFn, hx, hy, binD, binI, h]) (hf (by omega)) (okO_zero rfl)
theorem ok_gtr {x y : Operand} {xt yt : TypeId} {k : IntKind} {a b : Int} (hg : guardOk ops ⟨sl, hp, nx⟩ ⟨some t, .binOp .gtr xt x y yt, ty, pos, af, g⟩ = some true) (hx : AS.ev ⟨sl, hp, nx⟩ x = some (.d (.int k a))) (hy : AS.ev ⟨sl, hp, nx⟩ y = some (.d (.int k b)))
    (ht : b < a → OpsK P T base ops dr l ⟨(t, .d (.bool true)) :: sl, hp, nx⟩ K) (hf : a ≤ b → OpsK P T base ops dr l ⟨(t, .d (.bool false)) :: sl, hp, nx⟩ K) : OpsK P T base ops dr (⟨some t, .binOp .gtr xt x y yt, ty, pos, af, g⟩ :: l) ⟨sl, hp, nx⟩ K := by
  by_cases h : b < a
  · exact ok_op hg (v := .d (.bool true)) (st1 := ⟨sl, hp, nx⟩) (by simp [opFn, hx, hy, binD, binI, h]) (ht h) (okO_zero rfl)
  · exact ok_op hg (v := .d (.bool false)) (st1 := ⟨sl, hp, nx⟩) (by simp [opFn, hx, hy, binD, binI, h]) (hf (by omega)) (okO_zero rfl)
theorem ok_geq {x y : Operand} {xt yt : TypeId} {k : IntKind} {a b : Int} (hg : guardOk ops ⟨sl, hp, nx⟩ ⟨some t, .binOp .geq xt x y yt, ty, pos, af, g⟩ = some true) (hx : AS.ev ⟨sl, hp, nx⟩ x = some (.d (.int k a))) (hy : AS.ev ⟨sl, hp, nx⟩ y = some (.d (.int k b)))
    (ht : b ≤ a → OpsK P T base ops dr l ⟨(t, .d (.bool true)) :: sl, hp, nx⟩ K) (hf : a < b → OpsK P T base ops dr l ⟨(t, .d (.bool false)) :: sl, hp, nx⟩ K) : OpsK P T base ops dr (⟨some t, .binOp .geq xt x y yt, ty, pos, af, g⟩ :: l) ⟨sl, hp, nx⟩ K := by
  by_cases h : b ≤ a
  · exact ok_op hg (v := .d (.bool true)) (st1 := ⟨sl, hp, nx⟩) (by simp [opFn, hx, hy, binD, binI, h]) (ht h) (okO_zero rfl)
  · exact ok_op hg (v := .d (.bool false)) (st1 := ⟨sl, hp, nx⟩) (by simp [opFn, hx, hy, binD, binI, h]) (hf (by omega)) (okO_zero rfl)
theorem ok_eql {x y : Operand} {xt yt : TypeId} {k : IntKind} {a b : Int} (hg : guardOk ops ⟨sl, hp, nx⟩ ⟨some t, .binOp .eql xt x y yt, ty, pos, af, g⟩ = some true) (hx : AS.ev ⟨sl, hp, nx⟩ x = some (.d (.int k a))) (hy : AS.ev ⟨sl, hp, nx⟩ y = some (.d (.int k b)))
    (ht : a = b → OpsK P T base ops dr l ⟨(t, .d (.bool true)) :: sl, hp, nx⟩ K) (hf : a ≠ b → OpsK P T base ops dr l ⟨(t, .d (.bool false)) :: sl, hp, nx⟩ K) : OpsK P T base ops dr (⟨some t, .binOp .eql xt x y yt, ty, pos, af, g⟩ :: l) ⟨sl, hp, nx⟩ K := by
  by_cases h : a = b
  · exact ok_op hg (v := .d (.bool true)) (st1 := ⟨sl, hp, nx⟩) (by simp [opFn, hx, hy, binD, binI, h]) (ht h) (okO_zero rfl)
  · exact ok_op hg (v := .d (.bool false)) (st1 := ⟨sl, hp, nx⟩) (by simp [opFn, hx, hy, binD, binI, h]) (hf h) (okO_zero rfl)
theorem ok_neq {x y : Operand} {xt yt : TypeId} {k : IntKind} {a b : Int} (hg : guardOk ops ⟨sl, hp, nx⟩ ⟨some t, .binOp .neq xt x y yt, ty, pos, af, g⟩ = some true) (hx : AS.ev ⟨sl, hp, nx⟩ x = some (.d (.int k a))) (hy : AS.ev ⟨sl, hp, nx⟩ y = some (.d (.int k b)))
    (ht : a ≠ b → OpsK P T base ops dr l ⟨(t, .d (.bool true)) :: sl, hp, nx⟩ K) (hf : a = b → OpsK P T base ops dr l ⟨(t, .d (.bool false)) :: sl, hp, nx⟩ K) : OpsK P T base ops dr (⟨some t, .binOp .neq xt x y yt, ty, pos, af, g⟩ :: l) ⟨sl, hp, nx⟩ K := by
  by_cases h : a = b
  · exact ok_op hg (v := .d (.bool false)) (st1 := ⟨sl, hp, nx⟩) (by simp [opFn, hx, hy, binD, binI, h]) (hf h) (okO_zero rfl)
  · exact ok_op hg (v := .d (.bool true)) (st1 := ⟨sl, hp, nx⟩) (by simp [opFn, hx, hy, binD, binI, h]) (ht h) (okO_zero rfl)

/-! ### Slices -/
/-- An element of frozen data. -/
theorem ok_idx {x y : Operand} {xt : TypeId} {i : TI} {k : IntKind} {n : Int} {es : Nat} {xs : List (List DV)} {cs : List DV} (hg : guardOk ops ⟨sl, hp, nx⟩ ⟨some t, .indexAddr xt x y, ty, pos, af, g⟩ = some true) (hT : T xt = some i)
    (hx : AS.ev ⟨sl, hp, nx⟩ x = some (.d (.sl es xs))) (hy : AS.ev ⟨sl, hp, nx⟩ y = some (.d (.int k n))) (hk : i.kind = .slice) (he : es = i.esize) (h0 : 0 ≤ n) (hi : xs[n.toNat]? = some cs)
    (h : OpsK P T base ops dr l ⟨(t, .dref cs 0) :: sl, hp, nx⟩ K) : OpsK P T base ops dr (⟨some t, .indexAddr xt x y, ty, pos, af, g⟩ :: l) ⟨sl, hp, nx⟩ K :=
  ok_op hg (v := .dref cs 0) (st1 := ⟨sl, hp, nx⟩) (by simp [opFn, hx, hy, hT, indexP, hk, he, h0, hi]) h (okO_zero rfl)
/-- An element of a block of the machine's. -/
theorem ok_idh {x y : Operand} {xt : TypeId} {i : TI} {k : IntKind} {n : Int} {m es off len : Nat} (hg : guardOk ops ⟨sl, hp, nx⟩ ⟨some t, .indexAddr xt x y, ty, pos, af, g⟩ = some true) (hT : T xt = some i)
    (hx : AS.ev ⟨sl, hp, nx⟩ x = some (.hs m es off len)) (hy : AS.ev ⟨sl, hp, nx⟩ y = some (.d (.int k n))) (hk : i.kind = .slice) (he : es = i.esize) (h0 : 0 ≤ n) (hi : n < len)
    (h : OpsK P T base ops dr l ⟨(t, .ref m es (off + n.toNat) 0) :: sl, hp, nx⟩ K) : OpsK P T base ops dr (⟨some t, .indexAddr xt x y, ty, pos, af, g⟩ :: l) ⟨sl, hp, nx⟩ K :=
  ok_op hg (v := .ref m es (off + n.toNat) 0) (st1 := ⟨sl, hp, nx⟩) (by simp [opFn, hx, hy, hT, indexP, hk, he, h0, hi]) h (okO_zero rfl)
/-- A row of a block is loaded. -/
theorem ok_ldh {p : Operand} {xt : TypeId} {i : TI} {m es a j : Nat} {xs : List (List DV)} {cs r : List DV} {w : V} (hg : guardOk ops ⟨sl, hp, nx⟩ ⟨some t, .load xt p, ty, pos, af, g⟩ = some true) (hT : T xt = some i)
    (hx : AS.ev ⟨sl, hp, nx⟩ p = some (.ref m es a j)) (hb : find hp m = some (.dat es xs)) (hi : xs[a]? = some cs) (hs : sub cs j i.size = some r) (hw : (packD i.agg r).map .d = some w)
    (h : OpsK P T base ops dr l ⟨(t, w) :: sl, hp, nx⟩ K) (hF : okF dr l.length (fp ⟨sl, hp, nx⟩ (.load xt p)) = true := by rfl) : OpsK P T base ops dr (⟨some t, .load xt p, ty, pos, af, g⟩ :: l) ⟨sl, hp, nx⟩ K :=
  ok_op hg (v := w) (st1 := ⟨sl, hp, nx⟩) (by simp only [opFn, hx, hT, loadP, AS.blk, hb, Nat.beq_refl, hi, hs, hw, Option.map_some]) h (okO_ld hF)
end
end Go.Am
