/- LIFTING (3): calls walked in place, ranges over functions. -/
import Derived.Test.YtlchefooafpdlaaLf2
namespace Go.Am
open Go

theorem RunK.toEv {P : Program} {T : Tab} {base : Nat} {c : Code} {st : AS} {K : Ex → AS → Prop} (h : RunK P T base [c] st K) : ∃ ex st', EvCode P T base c st ex st' ∧ K ex st' := ck_of_run h

section
variable {P : Program} {T : Tab} {base : Nat} {ops : Array Oper} {l : List Oper} {sl : List (Nat × V)} {hp : List (Nat × Blk)} {nx : Nat} {K : AS → Prop} {ty : TypeId} {pos : String} {af : Array Edge} {dst : Option Tmp} {g : Option (Nat × Bool)}

/-- A call that is walked in place; a cut behind it. -/
theorem ok_callC {β : Type} {c : Call} {f : FuncId} {fn : Func} {cd : Code} (vs : List V) (E : β → Prop) (S : β → AS) (hg : guardOk ops ⟨sl, hp, nx⟩ ⟨dst, .call c, ty, pos, af, g⟩ = some true) (hc : callee ⟨sl, hp, nx⟩ c = some (f, vs))
    (hf : P.funcs[f]? = some fn) (hb : fn.body = some cd) (hname : (fn.name == "runtime.NumGoroutine") = false) (hok : codeOk fn.ntmps cd = true) (hl : Nat.ble vs.length fn.ntmps = true)
    (h : RunK P T nx [cd] ⟨argSlots 0 vs, hp, nx⟩ (fun ex st' => (ex = .nor ∨ ex = .ret) ∧ ∃ v, resV T st' fn.results.toList = some v ∧ ∃ b, E b ∧ WkE base ((⟨sl, st'.hp, st'.nx⟩ : AS).putD dst v) (S b)))
    (hr : ∀ b, E b → OpsK P T base ops none l (S b) K) : OpsK P T base ops none (⟨dst, .call c, ty, pos, af, g⟩ :: l) ⟨sl, hp, nx⟩ K := by
  obtain ⟨ex, st', e, hx, v, hv, b, hb', hw⟩ := h.toEv
  obtain ⟨st2, e2, k2⟩ := hr b hb'
  obtain ⟨ρ, fz, ph, w⟩ := hw
  exact ⟨st2, .callS hg rfl hc (.mk hf hb hname hok (by simpa using hl) e hx hv) (.wk w e2), k2⟩

/-- A round of a loop that ranges over a function: the yield. -/
theorem ok_yieldC {β : Type} {c : Call} {gf : Operand} {n : Nat} {vs : List V} {s : List (Nat × V)} {ps : List Tmp} {assign body A B : Code} (E : β → Prop) (S : β → AS) (hA : assign = A) (hB : body = B) (hg : guardOk ops ⟨sl, hp, nx⟩ ⟨dst, .call c, ty, pos, af, g⟩ = some true)
    (hcal : c.callee = .value gf) (hev : AS.ev ⟨sl, hp, nx⟩ gf = some (.yld n)) (hvs : evL (AS.ev ⟨sl, hp, nx⟩) c.args.toList = some vs) (hb : find hp n = some (.loop s ps A B .ready none)) (hl : ps.length = vs.length)
    (h : RunK P T nx [assign] ⟨setAll s ps vs, hp, nx⟩ (fun ex st1 => ex = .nor ∧ ∃ s1, find st1.hp n = some (.loop s1 ps A B .ready none) ∧
      RunK P T nx [body] (st1.setBlk n (.loop s1 ps A B .busy none)) (fun ex st2 => ∃ s2, find st2.hp n = some (.loop s2 ps A B .busy none) ∧ match ex with
        | .nor => ∃ b, E b ∧ WkE base ((⟨sl, repl st2.hp n (.loop s2 ps A B .ready none), st2.nx⟩ : AS).putD dst (.d (.bool true))) (S b)
        | ex => OpsK P T base ops none l ((⟨sl, repl st2.hp n (.loop s2 ps A B .done ex.code), st2.nx⟩ : AS).putD dst (.d (.bool false))) K)))
    (hr : ∀ b, E b → OpsK P T base ops none l (S b) K) : OpsK P T base ops none (⟨dst, .call c, ty, pos, af, g⟩ :: l) ⟨sl, hp, nx⟩ K := by
  subst hA hB
  obtain ⟨ex1, st1, e1, rfl, s1, hb1, hrun⟩ := h.toEv
  obtain ⟨ex, st2, e2, s2, hb2, hk⟩ := hrun.toEv
  have key : ∀ st3, EvOps P T base ops none l ((⟨sl, repl st2.hp n (.loop s2 ps assign body (if ex = .nor then .ready else .done) ex.code), st2.nx⟩ : AS).putD dst (.d (.bool (decide (ex = .nor))))) st3 → EvOps P T base ops none (⟨dst, .call c, ty, pos, af, g⟩ :: l) ⟨sl, hp, nx⟩ st3 :=
    fun st3 h3 => .callY hg rfl hcal hev hvs hb hl e1 hb1 e2 hb2 h3
  cases ex with
  | nor =>
    obtain ⟨b, hb', ρ, fz, ph, w⟩ := hk
    obtain ⟨st3, e3, k3⟩ := hr b hb'
    exact ⟨st3, key st3 (.wk w e3), k3⟩
  | exit i =>
    obtain ⟨st3, e3, k3⟩ := hk
    exact ⟨st3, key st3 e3, k3⟩
  | ret =>
    obtain ⟨st3, e3, k3⟩ := hk
    exact ⟨st3, key st3 e3, k3⟩
end

section
variable {P : Program} {T : Tab} {base : Nat} {cs : List Code} {sl : List (Nat × V)} {hp : List (Nat × Blk)} {nx : Nat} {K : Ex → AS → Prop}
/-- What stands behind a loop that ranges over a function. -/
def afterK (P : Program) (T : Tab) (base : Nat) (cs : List Code) (K : Ex → AS → Prop) : Ex → AS → Prop := thenK (fun st' => RunK P T base cs st' K) K
/-- A loop that ranges over a function: the function is walked in place. -/
theorem rk_rangeF {gf : Operand} {ps : Array Tmp} {assign body : Code} {f : FuncId} {fn : Func} {cd : Code} (caps : List V)
    (hg : AS.ev ⟨sl, hp, nx⟩ gf = some (.fn f caps) ∨ ∃ ds, AS.ev ⟨sl, hp, nx⟩ gf = some (.d (.fn f ds)) ∧ caps = ds.map .d)
    (hf : P.funcs[f]? = some fn) (hb : fn.body = some cd) (hname : (fn.name == "runtime.NumGoroutine") = false) (hok : codeOk fn.ntmps cd = true) (hl : Nat.ble (caps.length + 1) fn.ntmps = true)
    (h : ∀ A B, assign = A → body = B → RunK P T (nx + 1) [cd] ⟨argSlots 0 (.yld nx :: caps), (nx, .loop sl ps.toList A B .ready none) :: hp, nx + 1⟩ (fun exF stF => (exF = .nor ∨ exF = .ret) ∧ ∃ v, resV T stF fn.results.toList = some v ∧
      ∃ (s : List (Nat × V)) (ls : LoopState) (ex : Ex), find stF.hp nx = some (.loop s ps.toList A B ls ex.code) ∧ ls ≠ .busy ∧ afterK P T base cs K ex ⟨sl, repl stF.hp nx .dead, stF.nx⟩)) :
    RunK P T base (.rangeFunc gf ps assign body :: cs) ⟨sl, hp, nx⟩ K := by
  obtain ⟨exF, stF, e, hx, v, hv, s, ls, ex, h1, h2, h3⟩ := (h assign body rfl rfl).toEv
  exact ⟨ex, _, .rangeF (pe := ex.code) hg (.mk hf hb hname hok (by simpa using hl) e hx hv) h1 h2 rfl, h3⟩
theorem after_nor {st : AS} (h : RunK P T base cs st K) : afterK P T base cs K .nor st := h
theorem after_exit {st : AS} {i : Nat} (h : K (.exit i) st) : afterK P T base cs K (.exit i) st := h
theorem after_ret {st : AS} (h : K .ret st) : afterK P T base cs K .ret st := h
end

/-! ### Forgetting: the loops' own slots -/
inductive WvS (st : AS) (ρ : Nat → Nat) (fz ph : List Nat) (nx : Nat) : List (Nat × V) → List (Nat × V) → Prop
  | nil {s : List (Nat × V)} : WvS st ρ fz ph nx s []
  | cons {s s' : List (Nat × V)} {t : Nat} {v v' : V} : find s t = some v → Wv st ρ fz ph nx v v' → WvS st ρ fz ph nx s s' → WvS st ρ fz ph nx s ((t, v') :: s')
theorem wb_loopS {st : AS} {ρ : Nat → Nat} {fz ph : List Nat} {nx : Nat} {s s' : List (Nat × V)} {ps : List Tmp} {as bo : Code} {dn : LoopState} {pe : Option Code} (h : WvS st ρ fz ph nx s s') : Wb st ρ fz ph nx (.loop s ps as bo dn pe) (.loop s' ps as bo dn pe) := by
  refine .loop fun t v' hv => ?_
  induction h with
  | nil => simp [find] at hv
  | @cons s' t' v v'' h1 h2 _ ih =>
    simp only [find] at hv
    cases hb : Nat.beq t' t with
    | true => rw [hb] at hv; cases hv; obtain rfl := Nat.eq_of_beq_eq_true hb; exact ⟨v, h1, h2⟩
    | false => rw [hb] at hv; exact ih hv

/-! ### Arrays -/
theorem sub_flat {α : Type} {enc : α → List DV} {es : Nat} (hes : ∀ x, (enc x).length = es) {xs : List α} {k : Nat} {v : α} (h : xs[k]? = some v) : sub (xs.flatMap enc) (k * es) es = some (enc v) := by
  induction xs generalizing k with
  | nil => simp at h
  | cons x xs ih =>
    cases k with
    | zero =>
      simp at h; subst h
      have := hes x
      simp [sub, List.flatMap_cons, this]
    | succ k =>
      have h' : xs[k]? = some v := by simpa using h
      have := ih h'
      unfold sub at this ⊢
      have hx := hes x
      have hk : (k + 1) * es = (enc x).length + k * es := by rw [Nat.succ_mul, hx]; omega
      rw [List.flatMap_cons, hk]
      split at this
      · rename_i hle
        rw [if_pos (by rw [List.length_append]; omega), ← List.drop_drop, List.drop_left]
        exact this
      · cases this
theorem splice_flat {α : Type} {enc : α → List DV} {es : Nat} (hes : ∀ x, (enc x).length = es) {xs : List α} {k : Nat} {v : α} (h : k < xs.length) : splice (xs.flatMap enc) (k * es) (enc v) = (xs.set k v).flatMap enc := by
  induction xs generalizing k with
  | nil => simp at h
  | cons x xs ih =>
    have hx := hes x
    have hv := hes v
    cases k with
    | zero =>
      simp only [splice, Nat.zero_mul, List.take_zero, List.nil_append, Nat.zero_add, List.flatMap_cons, List.set_cons_zero]
      rw [hv, ← hx, List.drop_left]
    | succ k =>
      have := ih (k := k) (by simpa using h)
      simp only [splice] at this ⊢
      have hk : (k + 1) * es = (enc x).length + k * es := by rw [Nat.succ_mul, hx]; omega
      rw [List.flatMap_cons, List.set_cons_succ, List.flatMap_cons, hk, ← this]
      rw [List.take_length_add_append, show (enc x).length + k * es + (enc v).length = (enc x).length + (k * es + (enc v).length) by omega, ← List.drop_drop, List.drop_left]
      simp [List.append_assoc]
theorem flat_len {α : Type} {enc : α → List DV} {es : Nat} (hes : ∀ x, (enc x).length = es) (xs : List α) : (xs.flatMap enc).length = xs.length * es := by
  induction xs with
  | nil => simp
  | cons x xs ih => rw [List.flatMap_cons, List.length_append, hes, ih, List.length_cons, Nat.succ_mul]; omega
def idxA {α : Type} (n : Nat) (xs : List α) (i : Int) : Option α := if 0 ≤ i ∧ i < n then xs[i.toNat]? else none
def andI (k : IntKind) (x y : Int) : Int := k.wrap (BitVec.ofInt k.bits x &&& BitVec.ofInt k.bits y).toNat
def orI (k : IntKind) (x y : Int) : Int := k.wrap (BitVec.ofInt k.bits x ||| BitVec.ofInt k.bits y).toNat
def xorI (k : IntKind) (x y : Int) : Int := k.wrap (BitVec.ofInt k.bits x ^^^ BitVec.ofInt k.bits y).toNat
def quoK (k : IntKind) (x y : Int) : Option Int := if y = 0 then none else some (k.wrap (x.tdiv y))
def remK (x y : Int) : Option Int := if y = 0 then none else some (x.tmod y)

section
variable {P : Program} {T : Tab} {base : Nat} {ops : Array Oper} {dr : Dr} {l : List Oper} {sl : List (Nat × V)} {hp : List (Nat × Blk)} {nx : Nat} {K : AS → Prop} {ty : TypeId} {pos : String} {af : Array Edge} {t : Tmp} {g : Option (Nat × Bool)}
theorem ok_quoK {x y : Operand} {xt yt : TypeId} {a b r : Int} {k : IntKind} (hr : quoK k a b = some r) (hg : guardOk ops ⟨sl, hp, nx⟩ ⟨some t, .binOp .quo xt x y yt, ty, pos, af, g⟩ = some true) (hx : AS.ev ⟨sl, hp, nx⟩ x = some (.d (.int k a))) (hy : AS.ev ⟨sl, hp, nx⟩ y = some (.d (.int k b)))
    (h : OpsK P T base ops dr l ⟨(t, .d (.int k r)) :: sl, hp, nx⟩ K) : OpsK P T base ops dr (⟨some t, .binOp .quo xt x y yt, ty, pos, af, g⟩ :: l) ⟨sl, hp, nx⟩ K := by
  unfold quoK at hr
  split at hr
  · cases hr
  · rename_i h0; cases hr
    exact ok_op hg (v := .d (.int k (k.wrap (a.tdiv b)))) (st1 := ⟨sl, hp, nx⟩) (by simp [opFn, hx, hy, binD, binI, h0]) h (okO_zero rfl)
theorem ok_remK {x y : Operand} {xt yt : TypeId} {a b r : Int} {k : IntKind} (hr : remK a b = some r) (hg : guardOk ops ⟨sl, hp, nx⟩ ⟨some t, .binOp .rem xt x y yt, ty, pos, af, g⟩ = some true) (hx : AS.ev ⟨sl, hp, nx⟩ x = some (.d (.int k a))) (hy : AS.ev ⟨sl, hp, nx⟩ y = some (.d (.int k b)))
    (h : OpsK P T base ops dr l ⟨(t, .d (.int k r)) :: sl, hp, nx⟩ K) : OpsK P T base ops dr (⟨some t, .binOp .rem xt x y yt, ty, pos, af, g⟩ :: l) ⟨sl, hp, nx⟩ K := by
  unfold remK at hr
  split at hr
  · cases hr
  · rename_i h0; cases hr
    exact ok_op hg (v := .d (.int k (a.tmod b))) (st1 := ⟨sl, hp, nx⟩) (by simp [opFn, hx, hy, binD, binI, h0]) h (okO_zero rfl)
/-- An element of an array. -/
theorem subMap {α β : Type} (f : α → β) (cs : List α) (j n : Nat) : sub (cs.map f) j n = (sub cs j n).map (·.map f) := by
  unfold sub
  simp only [List.length_map]
  split
  · simp [List.map_take, List.map_drop]
  · rfl
theorem idxA_some {α : Type} {n : Nat} {xs : List α} {i : Int} {v : α} (h : idxA n xs i = some v) : 0 ≤ i ∧ i < n ∧ xs[i.toNat]? = some v := by
  unfold idxA at h
  split at h
  · rename_i h0; exact ⟨h0.1, h0.2, h⟩
  · cases h
theorem ok_ixA {α : Type} {x y : Operand} {xt : TypeId} {i : TI} {k : IntKind} {n : Int} {enc : α → List DV} {v : α} (xs : List α) (w : V) (hv : idxA i.len xs n = some v) (hes : ∀ x, (enc x).length = i.esize) (hg : guardOk ops ⟨sl, hp, nx⟩ ⟨some t, .index xt x y, ty, pos, af, g⟩ = some true) (hT : T xt = some i)
    (hx : AS.ev ⟨sl, hp, nx⟩ x = some (.d (.agg (xs.flatMap enc)))) (hy : AS.ev ⟨sl, hp, nx⟩ y = some (.d (.int k n))) (hk : i.kind = .array) (hw : pack i.eagg ((enc v).map .d) = some w)
    (h : OpsK P T base ops dr l ⟨(t, w) :: sl, hp, nx⟩ K) : OpsK P T base ops dr (⟨some t, .index xt x y, ty, pos, af, g⟩ :: l) ⟨sl, hp, nx⟩ K := by
  obtain ⟨h0, h1, h2⟩ := idxA_some hv
  refine ok_op hg (v := w) (st1 := ⟨sl, hp, nx⟩) ?_ h (okO_zero rfl)
  simp only [opFn, hT, hx, hy, hk, agD]
  rw [if_pos ⟨h0, h1⟩, subMap, sub_flat hes h2]
  simp only [Option.map_some, hw]
theorem ok_iaA {α : Type} {x y : Operand} {xt : TypeId} {i : TI} {k : IntKind} {n : Int} {m es : Nat} {v : α} {xs : List α} (hv : idxA i.len xs n = some v) (hg : guardOk ops ⟨sl, hp, nx⟩ ⟨some t, .indexAddr xt x y, ty, pos, af, g⟩ = some true) (hT : T xt = some i)
    (hx : AS.ev ⟨sl, hp, nx⟩ x = some (.ref m es 0 0)) (hy : AS.ev ⟨sl, hp, nx⟩ y = some (.d (.int k n))) (hk : i.kind = .array)
    (h : OpsK P T base ops dr l ⟨(t, .ref m es 0 (n.toNat * i.esize)) :: sl, hp, nx⟩ K) : OpsK P T base ops dr (⟨some t, .indexAddr xt x y, ty, pos, af, g⟩ :: l) ⟨sl, hp, nx⟩ K := by
  obtain ⟨h0, h1, _⟩ := idxA_some hv
  exact ok_op hg (v := .ref m es 0 (n.toNat * i.esize)) (st1 := ⟨sl, hp, nx⟩) (by simp [opFn, hx, hy, hT, indexP, hk, h0, h1]) h (okO_zero rfl)
theorem ok_ldA {α : Type} {p : Operand} {xt : TypeId} {i : TI} {m es sz ln : Nat} {n : Int} {xs : List α} {enc : α → List DV} {v : α} (w : V) (hv : idxA ln xs n = some v) (hes : ∀ x, (enc x).length = sz) (hg : guardOk ops ⟨sl, hp, nx⟩ ⟨some t, .load xt p, ty, pos, af, g⟩ = some true) (hT : T xt = some i)
    (hx : AS.ev ⟨sl, hp, nx⟩ p = some (.ref m es 0 (n.toNat * sz))) (hb : find hp m = some (.dat es [xs.flatMap enc])) (hs : sz = i.size) (hw : (packD i.agg (enc v)).map .d = some w)
    (h : OpsK P T base ops dr l ⟨(t, w) :: sl, hp, nx⟩ K) (hF : okF dr l.length (fp ⟨sl, hp, nx⟩ (.load xt p)) = true := by rfl) : OpsK P T base ops dr (⟨some t, .load xt p, ty, pos, af, g⟩ :: l) ⟨sl, hp, nx⟩ K :=
  ok_ldh hg hT hx hb rfl (by rw [← hs]; exact sub_flat hes (idxA_some hv).2.2) hw h hF
theorem sub_flat2 {α : Type} {enc : α → List DV} {es : Nat} (hes : ∀ x, (enc x).length = es) {xs : List α} {k off s : Nat} {v : α} {r : List DV} (h : xs[k]? = some v) (hs : sub (enc v) off s = some r) : sub (xs.flatMap enc) (k * es + off) s = some r := by
  have h1 := sub_flat hes h
  unfold sub at h1 hs ⊢
  split at h1
  · rename_i hle
    split at hs
    · rename_i hle2
      rw [hes] at hle2
      have e : ((xs.flatMap enc).drop (k * es)).take es = enc v := Option.some.inj h1
      rw [if_pos (by omega), ← hs, ← e, ← List.drop_drop]
      congr 1
      rw [List.drop_take, List.take_take, Nat.min_eq_left (by omega)]
    · cases hs
  · cases h1
theorem ok_ldAf {α : Type} {p : Operand} {xt : TypeId} {i : TI} {m es sz ln off : Nat} {n : Int} {xs : List α} {enc : α → List DV} {v : α} {r : List DV} (w : V) (hv : idxA ln xs n = some v) (hes : ∀ x, (enc x).length = sz) (hg : guardOk ops ⟨sl, hp, nx⟩ ⟨some t, .load xt p, ty, pos, af, g⟩ = some true) (hT : T xt = some i)
    (hx : AS.ev ⟨sl, hp, nx⟩ p = some (.ref m es 0 (n.toNat * sz + off))) (hb : find hp m = some (.dat es [xs.flatMap enc])) (hs : sub (enc v) off i.size = some r) (hw : (packD i.agg r).map .d = some w)
    (h : OpsK P T base ops dr l ⟨(t, w) :: sl, hp, nx⟩ K) (hF : okF dr l.length (fp ⟨sl, hp, nx⟩ (.load xt p)) = true := by rfl) : OpsK P T base ops dr (⟨some t, .load xt p, ty, pos, af, g⟩ :: l) ⟨sl, hp, nx⟩ K :=
  ok_ldh hg hT hx hb rfl (sub_flat2 hes (idxA_some hv).2.2 hs) hw h hF
theorem ok_stA {α : Type} {p x : Operand} {xt : TypeId} {i : TI} {m es sz ln : Nat} {n : Int} {xs : List α} {enc : α → List DV} {v : α} (v' : α) {u : V} (hv : idxA ln xs n = some v) (hes : ∀ x, (enc x).length = sz) (hg : guardOk ops ⟨sl, hp, nx⟩ ⟨none, .store xt p x, ty, pos, af, g⟩ = some true) (hT : T xt = some i)
    (hp' : AS.ev ⟨sl, hp, nx⟩ p = some (.ref m es 0 (n.toNat * sz))) (hx : AS.ev ⟨sl, hp, nx⟩ x = some u) (hb : find hp m = some (.dat es [xs.flatMap enc])) (hs : sz = i.size) (hc : cellsOf u = (enc v').map .d) (hk : (enc v').all isCell = true)
    (h : OpsK P T base ops dr l ⟨sl, repl hp m (.dat es [(xs.set n.toNat v').flatMap enc]), nx⟩ K) (hF : okO dr l.length ⟨sl, hp, nx⟩ (.store xt p x) ⟨sl, repl hp m (.dat es [(xs.set n.toNat v').flatMap enc]), nx⟩ = true := by rfl) : OpsK P T base ops dr (⟨none, .store xt p x, ty, pos, af, g⟩ :: l) ⟨sl, hp, nx⟩ K := by
  have hlt := lt_size (idxA_some hv).2.2
  refine ok_op hg (v := .dead) (st1 := ⟨sl, repl hp m (.dat es [(xs.set n.toNat v').flatMap enc]), nx⟩) ?_ h hF
  have hall : (cellsOf u).all vCell = true := by rw [hc, List.all_map]; exact hk
  have hlen : (cellsOf u).length = i.size := by rw [hc, List.length_map, hes]; exact hs
  have hle : n.toNat * sz + i.size ≤ (xs.flatMap enc).length := by
    rw [flat_len hes, ← hs, ← Nat.succ_mul]; exact Nat.mul_le_mul_right _ hlt
  simp only [opFn, hT, hp', hx, storeP, AS.blk, hb, Nat.beq_refl]
  rw [if_neg (by simp [hall, hlen])]
  simp only [List.getElem?_cons_zero]
  rw [if_pos hle, hc, allD_of_map]
  simp only [splice_flat hes hlt, AS.setBlk, List.set_cons_zero]
  rfl
theorem wv_frzS {α : Type} {st : AS} {ρ : Nat → Nat} {fz ph : List Nat} {nx n es : Nat} {w : Nat × Nat} {ys : List α} {enc : α → List DV} (hw : w.1 + w.2 ≤ ys.length) (hb : st.blk n = some (.dat es (ys.map enc))) (hn : n ∈ fz) : Wv st ρ fz ph nx (.hs n es w.1 w.2) (.d (.sl es (((ys.drop w.1).take w.2).map enc))) :=
  .frz hb hn (by simpa using hw) (by rw [List.map_take, List.map_drop]) rfl
/-- A call of a function that was handed in. -/
theorem allFrozen_append {hp : List (Nat × Blk)} {vs : List V} {ds C : List DV} (h : allFrozen hp vs = some ds) : allFrozen hp (vs ++ C.map .d) = some (ds ++ C) := by
  induction vs generalizing ds with
  | nil =>
    simp [allFrozen] at h; subst h
    induction C with
    | nil => rfl
    | cons c C ih =>
      simp only [List.nil_append, List.map_cons] at ih ⊢
      simp only [allFrozen]
      rw [show toD hp 8 (.d c) = some c from rfl, ih]
  | cons v vs ih =>
    simp only [allFrozen] at h
    split at h <;> simp at h
    rename_i x l hx hl
    subst h
    simp only [List.cons_append, allFrozen, hx, ih hl]
theorem ok_pf {c : Call} {f : FuncId} {C ds : List DV} {r : DV} (vs : List V) (hpu : Pure P T f (ds ++ C) r) (hg : guardOk ops ⟨sl, hp, nx⟩ ⟨some t, .call c, ty, pos, af, g⟩ = some true) (hc : callee ⟨sl, hp, nx⟩ c = some (f, vs ++ C.map .d)) (hd : allFrozen hp vs = some ds)
    (hs : (vs.all V.isD = true ∨ r.scalar = true)) (h : OpsK P T base ops dr l ⟨(t, .d r) :: sl, hp, nx⟩ K) (hF : okF dr l.length (fpC (vs ++ C.map .d)) = true := by rfl) : OpsK P T base ops dr (⟨some t, .call c, ty, pos, af, g⟩ :: l) ⟨sl, hp, nx⟩ K := by
  refine ok_callP hg rfl hc (allFrozen_append hd) ?_ hpu h hF
  rcases hs with hs | hs
  · left
    rw [List.all_append, hs, Bool.true_and, List.all_map]
    simp [V.isD]
  · exact .inr hs
end
end Go.Am
