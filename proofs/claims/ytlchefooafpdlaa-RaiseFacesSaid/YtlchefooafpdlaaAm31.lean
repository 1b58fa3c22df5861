/- WALKING (2): operations that make a block or write into one; the ends of blocks. -/
import Derived.Test.YtlchefooafpdlaaAm30
namespace Go.Am
open Go
variable {P : Program} {T : Tab}
section
variable {base : Nat} {ops : Array Oper} {dr : Dr} {l : List Oper} {sl : List (Nat × V)} {hp : List (Nat × Blk)} {nx : Nat} {K : AS → Prop} {ty : TypeId} {pos : String} {af : Array Edge} {t : Tmp} {g : Option (Nat × Bool)} {v : V}

theorem ok_alloc {et : TypeId} {i : TI} (hg : guardOk ops ⟨sl, hp, nx⟩ ⟨some t, .alloc et, ty, pos, af, g⟩ = some true) (hT : T et = some i)
    (h : OpsK P T base ops dr l ⟨(t, .ref nx i.size 0 0) :: sl, (nx, .dat i.size [i.zero]) :: hp, nx + 1⟩ K) (hF : okF dr l.length (fp ⟨sl, hp, nx⟩ (.alloc et)) = true := by rfl) : OpsK P T base ops dr (⟨some t, .alloc et, ty, pos, af, g⟩ :: l) ⟨sl, hp, nx⟩ K :=
  ok_op hg (v := .ref nx i.size 0 0) (st1 := ⟨sl, (nx, .dat i.size [i.zero]) :: hp, nx + 1⟩) (by simp only [opFn, hT, Option.map_some]; rfl) h (okO_dat rfl hF)

/-- A variable out of plain data. -/
theorem ok_boxd {et : TypeId} {x : Operand} {i : TI} {u : DV} {cs : List DV} (hg : guardOk ops ⟨sl, hp, nx⟩ ⟨some t, .box et x, ty, pos, af, g⟩ = some true) (hT : T et = some i) (hx : AS.ev ⟨sl, hp, nx⟩ x = some (.d u))
    (hc : cellsOf (.d u) = cs.map .d) (hl : cs.length = i.size) (hk : cs.all isCell = true)
    (h : OpsK P T base ops dr l ⟨(t, .ref nx i.size 0 0) :: sl, (nx, .dat i.size [cs]) :: hp, nx + 1⟩ K) (hF : okF dr l.length (fp ⟨sl, hp, nx⟩ (.box et x)) = true := by rfl) : OpsK P T base ops dr (⟨some t, .box et x, ty, pos, af, g⟩ :: l) ⟨sl, hp, nx⟩ K := by
  refine ok_op hg (v := .ref nx i.size 0 0) (st1 := ⟨sl, (nx, .dat i.size [cs]) :: hp, nx + 1⟩) ?_ h (okO_dat rfl hF)
  have hall : (cellsOf (.d u)).all vCell = true := by
    rw [hc, List.all_map]; exact hk
  have hlen : (cellsOf (.d u)).length = i.size := by rw [hc]; simpa using hl
  simp only [opFn, hT, hx]
  rw [if_pos ⟨hlen, hall⟩, hc]
  simp [mkBlk, AS.new, allD_of_map]

/-- A whole variable of plain data is overwritten. -/
theorem ok_stv {et : TypeId} {p x : Operand} {i : TI} {u : DV} {m es : Nat} {cs ds : List DV} (hg : guardOk ops ⟨sl, hp, nx⟩ ⟨none, .store et p x, ty, pos, af, g⟩ = some true) (hT : T et = some i) (hp' : AS.ev ⟨sl, hp, nx⟩ p = some (.ref m es 0 0)) (hx : AS.ev ⟨sl, hp, nx⟩ x = some (.d u))
    (hb : find hp m = some (.dat es [cs])) (hc : cellsOf (.d u) = ds.map .d) (hl : ds.length = i.size) (hl2 : cs.length = i.size) (hk : ds.all isCell = true)
    (h : OpsK P T base ops dr l ⟨sl, repl hp m (.dat es [ds]), nx⟩ K) (hF : okO dr l.length ⟨sl, hp, nx⟩ (.store et p x) ⟨sl, repl hp m (.dat es [ds]), nx⟩ = true := by rfl) : OpsK P T base ops dr (⟨none, .store et p x, ty, pos, af, g⟩ :: l) ⟨sl, hp, nx⟩ K := by
  refine ok_op hg (v := .dead) (st1 := ⟨sl, repl hp m (.dat es [ds]), nx⟩) ?_ h hF
  have hall : (cellsOf (.d u)).all vCell = true := by
    rw [hc, List.all_map]; exact hk
  have hlen : (cellsOf (.d u)).length = i.size := by rw [hc]; simpa using hl
  have hsp : splice cs 0 ds = ds := by
    unfold splice
    have : cs.drop (0 + ds.length) = [] := by simp; omega
    rw [this]; simp
  simp only [opFn, hT, hp', hx, storeP, AS.blk, hb, Nat.beq_refl]
  simp [hl2, hc, allD_of_map, hsp, AS.setBlk]
  exact ⟨hl, fun x hx => List.all_eq_true.1 hk x hx⟩

theorem sub_one {cs : List DV} {j : Nat} {c : DV} (h : cs[j]? = some c) : sub cs j 1 = some [c] := by
  have hl := lt_size h
  unfold sub
  rw [if_pos (by omega)]
  congr 1
  obtain ⟨h1, h2⟩ := List.getElem?_eq_some_iff.1 h
  rw [List.drop_eq_getElem_cons hl]
  simp [h2]
theorem sub_all {cs : List DV} : sub cs 0 cs.length = some cs := by simp [sub]

/-- One cell of frozen data. -/
theorem ok_ldc {p : Operand} {xt : TypeId} {i : TI} {cs : List DV} {j : Nat} {c : DV} (hg : guardOk ops ⟨sl, hp, nx⟩ ⟨some t, .load xt p, ty, pos, af, g⟩ = some true) (hT : T xt = some i) (hx : AS.ev ⟨sl, hp, nx⟩ p = some (.dref cs j)) (ha : i.agg = false) (hs : i.size = 1) (hc : cs[j]? = some c)
    (h : OpsK P T base ops dr l ⟨(t, .d c) :: sl, hp, nx⟩ K) (hF : okF dr l.length (fp ⟨sl, hp, nx⟩ (.load xt p)) = true := by rfl) : OpsK P T base ops dr (⟨some t, .load xt p, ty, pos, af, g⟩ :: l) ⟨sl, hp, nx⟩ K :=
  ok_op hg (v := .d c) (st1 := ⟨sl, hp, nx⟩) (by simp only [opFn, hx, hT, loadP, hs, sub_one hc, ha, packD]; rfl) h (okO_ld hF)
/-- A whole struct of frozen data. -/
theorem ok_lda {p : Operand} {xt : TypeId} {i : TI} {cs : List DV} (hg : guardOk ops ⟨sl, hp, nx⟩ ⟨some t, .load xt p, ty, pos, af, g⟩ = some true) (hT : T xt = some i) (hx : AS.ev ⟨sl, hp, nx⟩ p = some (.dref cs 0)) (ha : i.agg = true) (hs : i.size = cs.length)
    (h : OpsK P T base ops dr l ⟨(t, .d (.agg cs)) :: sl, hp, nx⟩ K) (hF : okF dr l.length (fp ⟨sl, hp, nx⟩ (.load xt p)) = true := by rfl) : OpsK P T base ops dr (⟨some t, .load xt p, ty, pos, af, g⟩ :: l) ⟨sl, hp, nx⟩ K :=
  ok_op hg (v := .d (.agg cs)) (st1 := ⟨sl, hp, nx⟩) (by simp only [opFn, hx, hT, loadP, hs, sub_all, ha, packD]; rfl) h (okO_ld hF)
/-- One cell of a block. -/
theorem ok_lrc {p : Operand} {xt : TypeId} {i : TI} {m es a j : Nat} {xs : List (List DV)} {cs : List DV} {c : DV} (hg : guardOk ops ⟨sl, hp, nx⟩ ⟨some t, .load xt p, ty, pos, af, g⟩ = some true) (hT : T xt = some i) (hx : AS.ev ⟨sl, hp, nx⟩ p = some (.ref m es a j)) (ha : i.agg = false) (hs : i.size = 1)
    (hb : find hp m = some (.dat es xs)) (hi : xs[a]? = some cs) (hc : cs[j]? = some c)
    (h : OpsK P T base ops dr l ⟨(t, .d c) :: sl, hp, nx⟩ K) (hF : okF dr l.length (fp ⟨sl, hp, nx⟩ (.load xt p)) = true := by rfl) : OpsK P T base ops dr (⟨some t, .load xt p, ty, pos, af, g⟩ :: l) ⟨sl, hp, nx⟩ K :=
  ok_op hg (v := .d c) (st1 := ⟨sl, hp, nx⟩) (by simp only [opFn, hx, hT, loadP, AS.blk, hb, Nat.beq_refl, hi, hs, sub_one hc, ha, packD]; rfl) h (okO_ld hF)
/-- A whole struct of a block. -/
theorem ok_lra {p : Operand} {xt : TypeId} {i : TI} {m es a : Nat} {xs : List (List DV)} {cs : List DV} (hg : guardOk ops ⟨sl, hp, nx⟩ ⟨some t, .load xt p, ty, pos, af, g⟩ = some true) (hT : T xt = some i) (hx : AS.ev ⟨sl, hp, nx⟩ p = some (.ref m es a 0)) (ha : i.agg = true)
    (hb : find hp m = some (.dat es xs)) (hi : xs[a]? = some cs) (hs : i.size = cs.length)
    (h : OpsK P T base ops dr l ⟨(t, .d (.agg cs)) :: sl, hp, nx⟩ K) (hF : okF dr l.length (fp ⟨sl, hp, nx⟩ (.load xt p)) = true := by rfl) : OpsK P T base ops dr (⟨some t, .load xt p, ty, pos, af, g⟩ :: l) ⟨sl, hp, nx⟩ K :=
  ok_op hg (v := .d (.agg cs)) (st1 := ⟨sl, hp, nx⟩) (by simp only [opFn, hx, hT, loadP, AS.blk, hb, Nat.beq_refl, hi, hs, sub_all, ha, packD]; rfl) h (okO_ld hF)

/-- What is appended to a row of the machine's own: the whole row goes on under a new name. -/
theorem ok_app {x y : Operand} {st0 xt : TypeId} {i j : TI} {n es len : Nat} {xs ys : List (List DV)} {yv : V} (hg : guardOk ops ⟨sl, hp, nx⟩ ⟨some t, .call { callee := .builtin .append, args := #[x, y], argTypes := #[st0, xt] }, ty, pos, af, g⟩ = some true)
    (hT : T st0 = some i) (hT2 : T xt = some j) (hx : AS.ev ⟨sl, hp, nx⟩ x = some (.hs n es 0 len)) (hy : AS.ev ⟨sl, hp, nx⟩ y = some yv) (hb : find hp n = some (.dat es xs)) (hl : len = xs.length) (hc : contsD ⟨sl, hp, nx⟩ yv = some ys)
    (hk : i.kind = .slice) (hk2 : j.kind = .slice) (he : es = i.esize) (hf : esFit i.esize yv = true) (hr : (len + ys.length) * (i.ebytes * 4) ≤ 4294967296)
    (h : OpsK P T base ops dr l ⟨(t, .hs nx es 0 (len + ys.length)) :: sl, (nx, .dat es (xs ++ ys)) :: repl hp n .dead, nx + 1⟩ K) (hF : okF dr l.length (fp ⟨sl, hp, nx⟩ (.call { callee := .builtin .append, args := #[x, y], argTypes := #[st0, xt] })) = true := by rfl) : OpsK P T base ops dr (⟨some t, .call { callee := .builtin .append, args := #[x, y], argTypes := #[st0, xt] }, ty, pos, af, g⟩ :: l) ⟨sl, hp, nx⟩ K := by
  refine ok_op hg (v := .hs nx es 0 (len + ys.length)) (st1 := ⟨sl, (nx, .dat es (xs ++ ys)) :: repl hp n .dead, nx + 1⟩) ?_ h (okO_dat rfl hF)
  subst hl
  have e : ((xs.drop 0).take xs.length ++ ys) = xs ++ ys := by simp
  simp only [opFn, evL, hx, hy, builtinV]
  simp only [List.getElem?_toArray, List.getElem?_cons_zero, List.getElem?_cons_succ, hT, hT2]
  rw [if_pos ⟨hk, hk2, hf⟩]
  simp only [appendV, AS.blk, hb, hc]
  rw [if_pos ⟨by omega, trivial, hr, he⟩, e]
  rfl

theorem allD_rows {rows : List (List DV)} : (rows.map (·.map V.d)).mapM allD = some rows := by
  induction rows with
  | nil => rfl
  | cons x r ih => simp [allD_of_map, ih]
/-- A new row of one element. -/
theorem ok_bs1 {bt : TypeId} {x : Operand} {i : TI} {u : DV} {cs : List DV} (hg : guardOk ops ⟨sl, hp, nx⟩ ⟨some t, .buildSlice bt 1 #[(0, x)], ty, pos, af, g⟩ = some true) (hT : T bt = some i) (hx : AS.ev ⟨sl, hp, nx⟩ x = some (.d u))
    (hc : cellsOf (.d u) = cs.map .d) (hl : cs.length = i.esize) (hk : cs.all isCell = true) (hki : i.kind = .slice) (hr : i.esize ≤ 16777216)
    (h : OpsK P T base ops dr l ⟨(t, .hs nx i.esize 0 1) :: sl, (nx, .dat i.esize [cs]) :: hp, nx + 1⟩ K) (hF : okF dr l.length (fp ⟨sl, hp, nx⟩ (.buildSlice bt 1 #[(0, x)])) = true := by rfl) : OpsK P T base ops dr (⟨some t, .buildSlice bt 1 #[(0, x)], ty, pos, af, g⟩ :: l) ⟨sl, hp, nx⟩ K := by
  refine ok_op hg (v := .hs nx i.esize 0 1) (st1 := ⟨sl, (nx, .dat i.esize [cs]) :: hp, nx + 1⟩) ?_ h (okO_dat rfl hF)
  have hall : (cellsOf (.d u)).all vCell = true := by rw [hc, List.all_map]; exact hk
  have hlen : (cellsOf (.d u)).length = i.esize := by rw [hc]; simpa using hl
  have hm : mkBlk i.esize [cs.map V.d] = .dat i.esize [cs] := by
    unfold mkBlk
    rw [show [cs.map V.d] = [cs].map (·.map V.d) from rfl, allD_rows]
  simp only [opFn, hT, evParts, hx, elems]
  rw [if_pos ⟨hlen, hall⟩]
  simp only
  rw [if_pos ⟨hki, by omega⟩, hc]
  simp [fillL, hm, AS.new]

/-! ### The common ones, by their constructors (they fail fast) -/
theorem ok_mv {x : Operand} (hg : guardOk ops ⟨sl, hp, nx⟩ ⟨some t, .move x, ty, pos, af, g⟩ = some true) (hx : AS.ev ⟨sl, hp, nx⟩ x = some v)
    (h : OpsK P T base ops dr l ⟨(t, v) :: sl, hp, nx⟩ K) : OpsK P T base ops dr (⟨some t, .move x, ty, pos, af, g⟩ :: l) ⟨sl, hp, nx⟩ K :=
  ok_op hg (v := v) (st1 := ⟨sl, hp, nx⟩) (by simp only [opFn, hx, Option.map_some]) h (okO_zero rfl)
theorem ok_as {x : Operand} (hg : guardOk ops ⟨sl, hp, nx⟩ ⟨some t, .assign x, ty, pos, af, g⟩ = some true) (hx : AS.ev ⟨sl, hp, nx⟩ x = some v)
    (h : OpsK P T base ops dr l ⟨(t, v) :: sl, hp, nx⟩ K) : OpsK P T base ops dr (⟨some t, .assign x, ty, pos, af, g⟩ :: l) ⟨sl, hp, nx⟩ K :=
  ok_op hg (v := v) (st1 := ⟨sl, hp, nx⟩) (by simp only [opFn, hx, Option.map_some]) h (okO_zero rfl)
theorem ok_sg {op : Op} {j : Nat} {w : Bool} (hg : guardOk ops ⟨sl, hp, nx⟩ ⟨some t, op, ty, pos, af, some (j, w)⟩ = some false) (h : OpsK P T base ops dr l ⟨(t, .d (.tup [])) :: sl, hp, nx⟩ K) : OpsK P T base ops dr (⟨some t, op, ty, pos, af, some (j, w)⟩ :: l) ⟨sl, hp, nx⟩ K :=
  ok_skip hg h
theorem ok_sn {op : Op} {j : Nat} {w : Bool} (hg : guardOk ops ⟨sl, hp, nx⟩ ⟨none, op, ty, pos, af, some (j, w)⟩ = some false) (h : OpsK P T base ops dr l ⟨sl, hp, nx⟩ K) : OpsK P T base ops dr (⟨none, op, ty, pos, af, some (j, w)⟩ :: l) ⟨sl, hp, nx⟩ K :=
  ok_skip hg h
theorem ok_not {xt : TypeId} {x : Operand} {b : Bool} (hg : guardOk ops ⟨sl, hp, nx⟩ ⟨some t, .unOp .not xt x, ty, pos, af, g⟩ = some true) (hx : AS.ev ⟨sl, hp, nx⟩ x = some (.d (.bool b)))
    (h : OpsK P T base ops dr l ⟨(t, .d (.bool (!b))) :: sl, hp, nx⟩ K) : OpsK P T base ops dr (⟨some t, .unOp .not xt x, ty, pos, af, g⟩ :: l) ⟨sl, hp, nx⟩ K :=
  ok_op hg (v := .d (.bool (!b))) (st1 := ⟨sl, hp, nx⟩) (by simp only [opFn, hx, unD]; rfl) h (okO_zero rfl)
theorem ok_fad {xt : TypeId} {x : Operand} {f : Nat} {i : TI} {off s2 : Nat} {ag : Bool} {cs : List DV} {j : Nat} (hg : guardOk ops ⟨sl, hp, nx⟩ ⟨some t, .fieldAddr xt x f, ty, pos, af, g⟩ = some true) (hT : T xt = some i) (hx : AS.ev ⟨sl, hp, nx⟩ x = some (.dref cs j)) (hk : i.kind = .struct) (hf : i.flds[f]? = some (off, s2, ag))
    (h : OpsK P T base ops dr l ⟨(t, .dref cs (j + off)) :: sl, hp, nx⟩ K) : OpsK P T base ops dr (⟨some t, .fieldAddr xt x f, ty, pos, af, g⟩ :: l) ⟨sl, hp, nx⟩ K :=
  ok_op hg (v := .dref cs (j + off)) (st1 := ⟨sl, hp, nx⟩) (by simp only [opFn, hT, hx, hk, hf, fieldP, Option.map_some]) h (okO_zero rfl)
theorem ok_far {xt : TypeId} {x : Operand} {f : Nat} {i : TI} {off s2 : Nat} {ag : Bool} {n es a j : Nat} (hg : guardOk ops ⟨sl, hp, nx⟩ ⟨some t, .fieldAddr xt x f, ty, pos, af, g⟩ = some true) (hT : T xt = some i) (hx : AS.ev ⟨sl, hp, nx⟩ x = some (.ref n es a j)) (hk : i.kind = .struct) (hf : i.flds[f]? = some (off, s2, ag))
    (h : OpsK P T base ops dr l ⟨(t, .ref n es a (j + off)) :: sl, hp, nx⟩ K) : OpsK P T base ops dr (⟨some t, .fieldAddr xt x f, ty, pos, af, g⟩ :: l) ⟨sl, hp, nx⟩ K :=
  ok_op hg (v := .ref n es a (j + off)) (st1 := ⟨sl, hp, nx⟩) (by simp only [opFn, hT, hx, hk, hf, fieldP, Option.map_some]) h (okO_zero rfl)
theorem ok_lenl {x : Operand} {xt : TypeId} {i : TI} {es : Nat} {xs : List (List DV)} {m : Nat} (hg : guardOk ops ⟨sl, hp, nx⟩ ⟨some t, .call { callee := .builtin .len, args := #[x], argTypes := #[xt] }, ty, pos, af, g⟩ = some true) (hT : T xt = some i) (hk : i.kind = .slice) (hx : AS.ev ⟨sl, hp, nx⟩ x = some (.d (.sl es xs))) (hm : xs.length = m)
    (h : OpsK P T base ops dr l ⟨(t, .d (.int .i64 m)) :: sl, hp, nx⟩ K) : OpsK P T base ops dr (⟨some t, .call { callee := .builtin .len, args := #[x], argTypes := #[xt] }, ty, pos, af, g⟩ :: l) ⟨sl, hp, nx⟩ K := by
  subst hm
  exact ok_op hg (v := .d (.int .i64 xs.length)) (st1 := ⟨sl, hp, nx⟩) (by simp only [opFn, evL, hx, builtinV]; simp only [List.getElem?_toArray, List.getElem?_cons_zero, hT, hk]) h (okO_zero rfl)
end
end Go.Am
