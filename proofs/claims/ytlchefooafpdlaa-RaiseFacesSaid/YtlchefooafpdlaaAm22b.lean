/- WHAT AN OPERATION DOES HANGS ON ITS FOOTPRINT. -/
import Derived.Test.YtlchefooafpdlaaAm22
namespace Go.Am
open Go
variable {P : Program} {T : Tab}

/-- Block m lies alike. -/
def AgreeB (x : Fp) (st st2 : AS) : Prop := (∀ m ∈ x.2, find st2.hp m = find st.hp m) ∧ match x.1 with
  | none => ∀ m, find st2.hp m = find st.hp m
  | some r => ∀ m ∈ r, find st2.hp m = find st.hp m

/-- The two kinds of operation: one that makes no block, one that makes one (with whatever number comes next). -/
inductive Out (T : Tab) (st : AS) (op : Op) (v : V) (st1 : AS) : Prop
  | calm : st1.sl = st.sl → st1.nx = st.nx → (∀ m, m ∉ (fp st op).2 → find st1.hp m = find st.hp m) → (∀ m, find st.hp m = none → find st1.hp m = none) →
      (∀ st2, (∀ x ∈ op.operands, st2.ev x = st.ev x) → AgreeB (fp st op) st st2 → ∃ hp3, opFn T st2 op = some (v, ⟨st2.sl, hp3, st2.nx⟩) ∧ (∀ m ∈ (fp st op).2, find hp3 m = find st1.hp m) ∧ (∀ m, m ∉ (fp st op).2 → find hp3 m = find st2.hp m)) → Out T st op v st1
  | new (mk : Nat → V) (b : Blk) (hp1 : List (Nat × Blk)) : ((∃ es, mk = fun n => .ref n es 0 0) ∨ (∃ es l, mk = fun n => .hs n es 0 l)) → v = mk st.nx → st1 = ⟨st.sl, (st.nx, b) :: hp1, st.nx + 1⟩ → st.nx ∈ (fp st op).2 →
      (∀ m, m ∉ (fp st op).2 → find hp1 m = find st.hp m) → (∀ m, find st.hp m = none → find hp1 m = none) →
      (∀ st2, (∀ x ∈ op.operands, st2.ev x = st.ev x) → AgreeB (fp st op) st st2 → ∃ hp3, opFn T st2 op = some (mk st2.nx, ⟨st2.sl, (st2.nx, b) :: hp3, st2.nx + 1⟩) ∧ (∀ m ∈ (fp st op).2, find hp3 m = find hp1 m) ∧ (∀ m, m ∉ (fp st op).2 → find hp3 m = find st2.hp m) ∧ (∀ m c, find hp3 m = some c → c = .dead ∨ find st2.hp m = some c)) → Out T st op v st1

section
variable {st st1 st2 : AS} {v : V}

theorem loadP_fp {i : TI} {p : V} (hh : ∀ m ∈ blkOf p, find st2.hp m = find st.hp m) : loadP st2 i p = loadP st i p := by
  cases p with
  | ref n es a j =>
    have : st2.blk n = st.blk n := hh n (by simp [blkOf])
    simp only [loadP, this]
  | d x => cases x <;> rfl
  | _ => rfl
theorem conts_fp {x : V} (hh : ∀ m ∈ blkOf x, find st2.hp m = find st.hp m) : conts st2 x = conts st x := by
  cases x with
  | hs n es o l =>
    have : st2.blk n = st.blk n := hh n (by simp [blkOf])
    simp only [conts, this]
  | d x => cases x <;> rfl
  | _ => rfl
theorem contsD_fp {x : V} (hh : ∀ m ∈ blkOf x, find st2.hp m = find st.hp m) : contsD st2 x = contsD st x := by
  cases x with
  | hs n es o l =>
    have : st2.blk n = st.blk n := hh n (by simp [blkOf])
    simp only [contsD, this]
  | d x => cases x <;> rfl
  | _ => rfl

theorem find_repl_ne {α : Type} {l : List (Nat × α)} {k t : Nat} {x : α} (h : k ≠ t) : find (repl l k x) t = find l t := by rw [find_repl, if_neg h]
theorem find_repl_none {α : Type} {l : List (Nat × α)} {k t : Nat} {x : α} (h : find l t = none) : find (repl l k x) t = none := by
  rw [find_repl]; split
  · rename_i e; subst e; rw [h]; rfl
  · exact h
theorem find_repl_congr {l l2 : List (Nat × Blk)} {k t : Nat} {x : Blk} (h : find l2 t = find l t) : find (repl l2 k x) t = find (repl l k x) t := by
  rw [find_repl, find_repl]; split
  · rename_i e; subst e; rw [h]
  · exact h
theorem repl_dead {l : List (Nat × Blk)} {k m : Nat} {c : Blk} (h : find (repl l k .dead) m = some c) : c = .dead ∨ find l m = some c := by
  rw [find_repl] at h; split at h
  · cases hf : find l k with
    | none => rw [hf] at h; cases h
    | some b => rw [hf] at h; cases h; exact .inl rfl
  · exact .inr h

theorem storeP_fp {i : TI} {p y : V} (h : storeP st i p y = some st1) : ∃ n b, blkOf p = [n] ∧ st1 = ⟨st.sl, repl st.hp n b, st.nx⟩ ∧ ∀ st2 : AS, find st2.hp n = find st.hp n → storeP st2 i p y = some ⟨st2.sl, repl st2.hp n b, st2.nx⟩ := by
  cases p with
  | ref n k a j =>
    simp only [storeP] at h
    split at h
    · cases h
    · rename_i hc
      have key : ∀ b : Blk, ∀ st2 : AS, st2.setBlk n b = ⟨st2.sl, repl st2.hp n b, st2.nx⟩ := fun _ _ => rfl
      split at h
      · rename_i es xs hb
        split at h
        · rename_i cs e1 e2
          split at h
          · rename_i hle
            split at h
            · rename_i ds hd
              cases h
              refine ⟨n, _, rfl, key _ _, fun st2 e => ?_⟩
              have e' : st2.blk n = st.blk n := e
              simp only [storeP, if_neg hc, e', hb, e1, e2, if_pos hle, hd]
              rfl
            · rename_i hd
              cases h
              refine ⟨n, _, rfl, key _ _, fun st2 e => ?_⟩
              have e' : st2.blk n = st.blk n := e
              simp only [storeP, if_neg hc, e', hb, e1, e2, if_pos hle, hd]
              rfl
          · cases h
        · cases h
      · rename_i es xs hb
        split at h
        · rename_i cs e1 e2
          split at h
          · rename_i hle
            cases h
            refine ⟨n, _, rfl, key _ _, fun st2 e => ?_⟩
            have e' : st2.blk n = st.blk n := e
            simp only [storeP, if_neg hc, e', hb, e1, e2, if_pos hle]
            rfl
          · cases h
        · cases h
      · cases h
  | _ => simp [storeP] at h

theorem copyV_fp {p y : V} (h : copyV st p y = some (v, st1)) : ∃ n b, blkOf p = [n] ∧ st1 = ⟨st.sl, repl st.hp n b, st.nx⟩ ∧ ∀ st2 : AS, find st2.hp n = find st.hp n → (∀ m ∈ blkOf y, find st2.hp m = find st.hp m) → copyV st2 p y = some (v, ⟨st2.sl, repl st2.hp n b, st2.nx⟩) := by
  cases p with
  | hs n es o l =>
    simp only [copyV] at h
    split at h
    · rename_i k xs ys hb hy
      split at h
      · rename_i hc
        cases h
        refine ⟨n, _, rfl, rfl, fun st2 e e2 => ?_⟩
        have e' : st2.blk n = st.blk n := e
        simp only [copyV, e', hb, contsD_fp e2, hy, if_pos hc]
        rfl
      · cases h
    · cases h
  | _ => simp [copyV] at h

theorem appendV_fp {i : TI} {p y : V} (h : appendV st i p y = some (v, st1)) :
    (st1 = st ∧ ∀ st2 : AS, (∀ m ∈ blkOf p ++ blkOf y, find st2.hp m = find st.hp m) → appendV st2 i p y = some (v, st2)) ∨
    (∃ es l b hp1, v = .hs st.nx es 0 l ∧ st1 = ⟨st.sl, (st.nx, b) :: hp1, st.nx + 1⟩ ∧ ((hp1 = st.hp ∧ ∀ st2 : AS, (∀ m ∈ blkOf p ++ blkOf y, find st2.hp m = find st.hp m) → appendV st2 i p y = some (.hs st2.nx es 0 l, ⟨st2.sl, (st2.nx, b) :: st2.hp, st2.nx + 1⟩)) ∨
      (∃ n, n ∈ blkOf p ∧ hp1 = repl st.hp n .dead ∧ ∀ st2 : AS, (∀ m ∈ blkOf p ++ blkOf y, find st2.hp m = find st.hp m) → appendV st2 i p y = some (.hs st2.nx es 0 l, ⟨st2.sl, (st2.nx, b) :: repl st2.hp n .dead, st2.nx + 1⟩)))) := by
  cases p with
  | d x =>
    cases x <;> simp only [appendV, reduceCtorEq] at h
    have hy : ∀ st2 : AS, (∀ m ∈ blkOf (.d .nilsl) ++ blkOf y, find st2.hp m = find st.hp m) → contsD st2 y = contsD st y ∧ conts st2 y = conts st y := fun st2 e =>
      ⟨contsD_fp fun m hm => e m (by simp [hm]), conts_fp fun m hm => e m (by simp [hm])⟩
    split at h
    · rename_i ys hd
      split at h
      · rename_i hle
        split at h
        · rename_i h0
          cases h
          refine .inl ⟨rfl, fun st2 e => ?_⟩
          simp only [appendV, (hy st2 e).1, hd, if_pos hle, if_pos h0]
        · rename_i h0
          cases h
          refine .inr ⟨_, _, _, _, rfl, rfl, .inl ⟨rfl, fun st2 e => ?_⟩⟩
          simp only [appendV, (hy st2 e).1, hd, if_pos hle, if_neg h0]
          rfl
      · cases h
    · rename_i hd
      split at h
      · rename_i ys hc
        split at h
        · rename_i hle
          split at h
          · rename_i h0
            cases h
            refine .inl ⟨rfl, fun st2 e => ?_⟩
            simp only [appendV, (hy st2 e).1, (hy st2 e).2, hd, hc, if_pos hle, if_pos h0]
          · rename_i h0
            cases h
            refine .inr ⟨_, _, _, _, rfl, rfl, .inl ⟨rfl, fun st2 e => ?_⟩⟩
            simp only [appendV, (hy st2 e).1, (hy st2 e).2, hd, hc, if_pos hle, if_neg h0]
            rfl
        · cases h
      · cases h
  | hs n es o l =>
    have hy : ∀ st2 : AS, (∀ m ∈ blkOf (.hs n es o l) ++ blkOf y, find st2.hp m = find st.hp m) → contsD st2 y = contsD st y ∧ conts st2 y = conts st y ∧ st2.blk n = st.blk n := fun st2 e =>
      ⟨contsD_fp fun m hm => e m (by simp [hm]), conts_fp fun m hm => e m (by simp [hm]), e n (by simp [blkOf])⟩
    simp only [appendV] at h
    split at h
    · rename_i k xs ys hb hd
      split at h
      · rename_i hc
        cases h
        refine .inr ⟨_, _, _, _, rfl, rfl, .inr ⟨n, by simp [blkOf], rfl, fun st2 e => ?_⟩⟩
        obtain ⟨e1, _, e3⟩ := hy st2 e
        simp only [appendV, e1, e3, hb, hd, if_pos hc]
        rfl
      · cases h
    · rename_i k xs hb hd
      split at h
      · rename_i ys hcy
        split at h
        · rename_i hc
          cases h
          refine .inr ⟨_, _, _, _, rfl, rfl, .inr ⟨n, by simp [blkOf], rfl, fun st2 e => ?_⟩⟩
          obtain ⟨e1, e2, e3⟩ := hy st2 e
          simp only [appendV, e1, e2, e3, hb, hd, hcy, if_pos hc]
          rfl
        · cases h
      · cases h
    · rename_i k xs hb
      split at h
      · rename_i ys hcy
        split at h
        · rename_i hc
          cases h
          refine .inr ⟨_, _, _, _, rfl, rfl, .inr ⟨n, by simp [blkOf], rfl, fun st2 e => ?_⟩⟩
          obtain ⟨e1, e2, e3⟩ := hy st2 e
          simp only [appendV, e1, e2, e3, hb, hcy, if_pos hc]
          rfl
        · cases h
      · cases h
    · cases h
  | _ => simp [appendV] at h

theorem evr {op : Op} {x : Operand} (h : ∀ x ∈ op.operands, st2.ev x = st.ev x) (hx : x ∈ op.operands) : st2.ev x = st.ev x := h x hx

/-- An operation that hangs on the slots alone. -/
theorem out_zero {op : Op} (h : opFn T st op = some (v, st1)) (ht : touch op = 0) : Out T st op v st1 := by
  have h0 := (op_local (st2 := st) h (by omega) (fun e => absurd ht e) (fun _ _ => rfl)).1
  subst h0
  refine .calm rfl rfl (fun _ _ => rfl) (fun _ h => h) fun st2 he ha => ?_
  have h2 := (op_local (st2 := st2) h (by omega) (fun e => absurd ht e) he).2
  exact ⟨st2.hp, h2, fun m hm => ha.1 m hm, fun _ _ => rfl⟩

theorem out_load {t : TypeId} {p : Operand} (h : opFn T st (.load t p) = some (v, st1)) : Out T st (.load t p) v st1 := by
  simp only [opFn] at h
  cases hT : T t with
  | none => simp [hT] at h
  | some i =>
    cases hp : st.ev p with
    | none => simp [hT, hp] at h
    | some x =>
      simp only [hT, hp] at h
      obtain ⟨rfl, hl⟩ := map_loc (st2 := st) h
      have hfp : fp st1 (.load t p) = (some (blkOf x), []) := by simp only [fp, hp]
      refine .calm rfl rfl (fun _ _ => rfl) (fun _ h => h) fun st2 he ha => ?_
      rw [hfp] at ha
      refine ⟨st2.hp, ?_, fun m hm => by rw [hfp] at hm; simp at hm, fun _ _ => rfl⟩
      simp only [opFn, hT, he p (by simp [Op.operands]), hp, loadP_fp (st := st1) (st2 := st2) ha.2]
      exact (map_loc (st2 := st2) hl).2

theorem out_new {op : Op} {mk : Nat → V} {b : Blk} (hk : (∃ es, mk = fun n => .ref n es 0 0) ∨ (∃ es l, mk = fun n => .hs n es 0 l)) (hv : v = mk st.nx) (h1 : st1 = st.new b) (hf : fp st op = (some [], [st.nx]))
    (h2 : ∀ st2 : AS, (∀ x ∈ op.operands, st2.ev x = st.ev x) → opFn T st2 op = some (mk st2.nx, st2.new b)) : Out T st op v st1 := by
  refine .new mk b st.hp hk hv h1 (by rw [hf]; simp) (fun _ _ => rfl) (fun _ h => h) fun st2 he ha => ⟨st2.hp, h2 st2 he, fun m hm => ha.1 m hm, fun _ _ => rfl, fun m c hc => .inr hc⟩

theorem out_store {t : TypeId} {p x : Operand} (h : opFn T st (.store t p x) = some (v, st1)) : Out T st (.store t p x) v st1 := by
  simp only [opFn] at h
  cases hT : T t with
  | none => simp [hT] at h
  | some i =>
    cases hp : st.ev p with
    | none => simp [hT, hp] at h
    | some pv =>
      cases hx : st.ev x with
      | none => simp [hT, hp, hx] at h
      | some xv =>
        simp only [hT, hp, hx] at h
        cases hs : storeP st i pv xv with
        | none => simp [hs] at h
        | some r =>
          simp only [hs, Option.map_some, Option.some.injEq, Prod.mk.injEq] at h
          obtain ⟨rfl, rfl⟩ := h
          obtain ⟨n, b, hn, rfl, hall⟩ := storeP_fp hs
          have hfp : fp st (.store t p x) = (some [n], [n]) := by simp only [fp, hp, hn]
          refine .calm rfl rfl (fun m hm => ?_) (fun m hm => find_repl_none hm) fun st2 he ha => ?_
          · rw [hfp] at hm; exact find_repl_ne (by simp at hm; omega)
          · rw [hfp] at ha ⊢
            refine ⟨repl st2.hp n b, ?_, fun m hm => find_repl_congr (ha.1 m hm), fun m hm => find_repl_ne (by simp at hm; omega)⟩
            simp only [opFn, hT, he p (by simp [Op.operands]), he x (by simp [Op.operands]), hp, hx, hall st2 (ha.1 n (by simp)), Option.map_some]

theorem fp_append {args : Array Operand} {ats : Array TypeId} {s x : V} (h : evL st.ev args.toList = some [s, x]) : fp st (.call { callee := .builtin .append, args := args, argTypes := ats }) = (some (blkOf s ++ blkOf x), st.nx :: blkOf s) := by
  simp only [fp, h]
theorem fp_copy {args : Array Operand} {ats : Array TypeId} {s x : V} (h : evL st.ev args.toList = some [s, x]) : fp st (.call { callee := .builtin .copy, args := args, argTypes := ats }) = (some (blkOf s ++ blkOf x), blkOf s) := by
  simp only [fp, h]

theorem out_builtin {b : Builtin} {args : Array Operand} {ats : Array TypeId} (h : opFn T st (.call { callee := .builtin b, args := args, argTypes := ats }) = some (v, st1)) : Out T st (.call { callee := .builtin b, args := args, argTypes := ats }) v st1 := by
  have h0 := h
  simp only [opFn] at h
  cases hv : evL st.ev args.toList with
  | none => simp [hv] at h
  | some vs =>
    simp only [hv] at h
    have hev : ∀ st2 : AS, (∀ x ∈ (Op.call { callee := .builtin b, args := args, argTypes := ats }).operands, st2.ev x = st.ev x) → evL st2.ev args.toList = some vs := fun st2 he => by
      rw [evL_congr fun x hx => he x (by simpa [Op.operands, Call.operands] using hx)]; exact hv
    cases b
    case append =>
      match vs, h with
      | [s, x], h =>
        have hf := fp_append (ats := ats) hv
        simp only [builtinV] at h
        split at h
        · rename_i t u e1 e2
          split at h
          · rename_i i j e3 e4
            split at h
            · rename_i hc
              have hop : ∀ st2 : AS, (∀ x ∈ (Op.call { callee := .builtin .append, args := args, argTypes := ats }).operands, st2.ev x = st.ev x) → opFn T st2 (.call { callee := .builtin .append, args := args, argTypes := ats }) = appendV st2 i s x := fun st2 he => by
                simp only [opFn, hev st2 he, builtinV, e1, e2, e3, e4, if_pos hc]
              rcases appendV_fp h with ⟨rfl, hall⟩ | ⟨es, l, b, hp1, rfl, rfl, ⟨rfl, hall⟩ | ⟨n, hn, rfl, hall⟩⟩
              · refine .calm rfl rfl (fun _ _ => rfl) (fun _ h => h) fun st2 he ha => ?_
                rw [hf] at ha
                exact ⟨st2.hp, (hop st2 he).trans (hall st2 ha.2), fun m hm => ha.1 m (by rw [hf] at hm; exact hm), fun _ _ => rfl⟩
              · refine .new (fun n => .hs n es 0 l) b _ (.inr ⟨_, _, rfl⟩) rfl rfl (by rw [hf]; simp) (fun _ _ => rfl) (fun _ h => h) fun st2 he ha => ?_
                rw [hf] at ha
                exact ⟨st2.hp, (hop st2 he).trans (hall st2 ha.2), fun m hm => ha.1 m (by rw [hf] at hm; exact hm), fun _ _ => rfl, fun m c hc => .inr hc⟩
              · have hne : ∀ m, m ∉ (fp st (.call { callee := .builtin .append, args := args, argTypes := ats })).2 → n ≠ m := fun m hm e => by
                  rw [hf] at hm; exact hm (by rw [← e]; simp [hn])
                refine .new (fun n => .hs n es 0 l) b _ (.inr ⟨_, _, rfl⟩) rfl rfl (by rw [hf]; simp) (fun m hm => find_repl_ne (hne m hm)) (fun m hm => find_repl_none hm) fun st2 he ha => ?_
                rw [hf] at ha
                exact ⟨repl st2.hp n .dead, (hop st2 he).trans (hall st2 ha.2), fun m hm => find_repl_congr (ha.1 m (by rw [hf] at hm; exact hm)), fun m hm => find_repl_ne (hne m hm), fun m c hc => repl_dead hc⟩
            · cases h
          · cases h
        · cases h
    case copy =>
      match vs, h with
      | [s, x], h =>
        have hf := fp_copy (ats := ats) hv
        simp only [builtinV] at h
        split at h
        · rename_i t u e1 e2
          split at h
          · rename_i i j e3 e4
            split at h
            · rename_i hc
              have hop : ∀ st2 : AS, (∀ x ∈ (Op.call { callee := .builtin .copy, args := args, argTypes := ats }).operands, st2.ev x = st.ev x) → opFn T st2 (.call { callee := .builtin .copy, args := args, argTypes := ats }) = copyV st2 s x := fun st2 he => by
                simp only [opFn, hev st2 he, builtinV, e1, e2, e3, e4, if_pos hc]
              obtain ⟨n, b, hn, rfl, hall⟩ := copyV_fp h
              refine .calm rfl rfl (fun m hm => ?_) (fun m hm => find_repl_none hm) fun st2 he ha => ?_
              · rw [hf, hn] at hm; exact find_repl_ne (by simp at hm; omega)
              · rw [hf] at ha ⊢
                refine ⟨repl st2.hp n b, (hop st2 he).trans (hall st2 (ha.1 n (by simp [hn])) fun m hm => ha.2 m (by simp [hm])), fun m hm => find_repl_congr (ha.1 m hm), fun m hm => find_repl_ne (by rw [hn] at hm; simp at hm; omega)⟩
            · cases h
          · cases h
        · cases h
    case len => exact out_zero h0 rfl
    case min => exact out_zero h0 rfl
    case max => exact out_zero h0 rfl
    all_goals simp [builtinV] at h

theorem op_any {op : Op} (h : opFn T st op = some (v, st1)) : Out T st op v st1 := by
  cases op
  case load t p => exact out_load h
  case store t p x => exact out_store h
  case call c =>
    obtain ⟨cal, args, ats⟩ := c
    cases cal with
    | builtin b => exact out_builtin h
    | value f => simp [opFn] at h
    | invoke r n => simp [opFn] at h
  case alloc t =>
    simp only [opFn] at h
    cases hT : T t with
    | none => simp [hT] at h
    | some i =>
      simp only [hT, Option.map_some, Option.some.injEq, Prod.mk.injEq] at h
      obtain ⟨rfl, rfl⟩ := h
      exact out_new (mk := fun n => .ref n i.size 0 0) (.inl ⟨_, rfl⟩) rfl rfl rfl fun st2 _ => by simp only [opFn, hT]; rfl
  case box t x =>
    simp only [opFn] at h
    cases hT : T t with
    | none => simp [hT] at h
    | some i =>
      cases hx : st.ev x with
      | none => simp [hT, hx] at h
      | some xv =>
        simp only [hT, hx] at h
        split at h
        · rename_i hc
          simp only [Option.some.injEq, Prod.mk.injEq] at h
          obtain ⟨rfl, rfl⟩ := h
          exact out_new (mk := fun n => .ref n i.size 0 0) (.inl ⟨_, rfl⟩) rfl rfl rfl fun st2 he => by simp only [opFn, hT, he x (by simp [Op.operands]), hx, if_pos hc]
        · cases h
  case buildSlice t len ps =>
    simp only [opFn] at h
    cases hT : T t with
    | none => simp [hT] at h
    | some i =>
      cases hx : evParts st.ev ps.toList with
      | none => simp [hT, hx] at h
      | some vs =>
        simp only [hT, hx] at h
        split at h
        · rename_i l hl
          split at h
          · rename_i hc
            cases hf : fillL (List.replicate len (i.ezero.map .d)) l with
            | none => simp [hf] at h
            | some xs =>
              simp only [hf, Option.map_some, Option.some.injEq, Prod.mk.injEq] at h
              obtain ⟨rfl, rfl⟩ := h
              exact out_new (mk := fun n => .hs n i.esize 0 len) (.inr ⟨_, _, rfl⟩) rfl rfl rfl fun st2 he => by
                have e := evParts_congr (ev := st.ev) (ev' := st2.ev) (l := ps.toList) (fun x hx => he x (by simpa [Op.operands] using hx))
                simp only [opFn, hT, e, hx, hl, if_pos hc, hf, Option.map_some]
          · cases h
        · cases h
  case makeSlice t l c =>
    have h' := h
    simp only [opFn] at h
    split at h
    · rename_i i k n k' m e1 e2 e3
      split at h
      · rename_i hc
        simp only [Option.some.injEq, Prod.mk.injEq] at h
        obtain ⟨rfl, rfl⟩ := h
        exact out_new (mk := fun q => .hs q i.esize 0 n.toNat) (.inr ⟨_, _, rfl⟩) rfl rfl rfl fun st2 he => by
          simp only [opFn, e1, he l (by simp [Op.operands]), he c (by simp [Op.operands]), e2, e3, if_pos hc]
      · cases h
    · cases h
  all_goals first | exact out_zero h rfl | (simp [opFn] at h; done)
end
end Go.Am
