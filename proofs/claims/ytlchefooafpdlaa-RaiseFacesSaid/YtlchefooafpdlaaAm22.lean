/- WHAT A QUIET OPERATION DOES HANGS ON WHAT IT READS. -/
import Derived.Test.YtlchefooafpdlaaAm21
namespace Go.Am
open Go
variable {P : Program} {T : Tab}
section
variable {st st1 st2 : AS} {v : V}

theorem map_loc {α : Type} {x : Option α} {f : α → V} : (x.map fun a => (f a, st)) = some (v, st1) → st1 = st ∧ (x.map fun a => (f a, st2)) = some (v, st2) := by
  cases x <;> simp
  rintro rfl rfl; simp
theorem evParts_congr {ev ev' : Operand → Option V} : ∀ {l : List (Nat × Operand)}, (∀ x ∈ l.map (·.2), ev' x = ev x) → evParts ev' l = evParts ev l
  | [], _ => rfl
  | (i, o) :: r, h => by
    have h1 := h o (by simp)
    have h2 := evParts_congr (l := r) (fun x hx => h x (by simp at hx ⊢; exact .inr hx))
    simp only [evParts, h1, h2]
theorem evL_congr {ev ev' : Operand → Option V} : ∀ {l : List Operand}, (∀ x ∈ l, ev' x = ev x) → evL ev' l = evL ev l
  | [], _ => rfl
  | o :: r, h => by
    have h1 := h o (by simp)
    have h2 := evL_congr (l := r) (fun x hx => h x (by simp [hx]))
    simp only [evL, h1, h2]
theorem loadP_congr {i : TI} (hh : st2.hp = st.hp) : loadP st2 i v = loadP st i v := by
  cases v <;> simp only [loadP, AS.blk, hh]

theorem builtinV_local {b : Builtin} {ts : Array TypeId} {vs : List V} (h : builtinV T st b ts vs = some (v, st1)) (hb : b = .len ∨ b = .min ∨ b = .max) : st1 = st ∧ builtinV T st2 b ts vs = some (v, st2) := by
  rcases hb with rfl | rfl | rfl
  · rcases vs with _ | ⟨x, _ | ⟨y, r⟩⟩
    · simp [builtinV] at h
    · simp only [builtinV] at h ⊢
      revert h; split
      · split
        · split
          · simp; rintro rfl rfl; simp
          · split <;> simp
            all_goals rintro rfl rfl; simp
          · split <;> simp
            all_goals rintro rfl rfl; simp
          · simp
        · simp
      · simp
    · simp [builtinV] at h
  · rcases vs with _ | ⟨x, r⟩
    · simp [builtinV] at h
    · simp only [builtinV] at h ⊢
      revert h; exact map_loc
  · rcases vs with _ | ⟨x, r⟩
    · simp [builtinV] at h
    · simp only [builtinV] at h ⊢
      revert h; exact map_loc

theorem op_local {op : Op} (h : opFn T st op = some (v, st1)) (ht : touch op ≤ 1) (hh : touch op ≠ 0 → st2.hp = st.hp) (hev : ∀ x ∈ op.operands, st2.ev x = st.ev x) : st1 = st ∧ opFn T st2 op = some (v, st2) := by
  cases op <;> simp only [opFn, reduceCtorEq] at h <;> simp only [touch, Nat.reduceLeDiff] at ht
  case move x => 
    simp only [opFn, hev x (by simp [Op.operands])] at h ⊢
    revert h; exact map_loc
  case assign x =>
    simp only [opFn, hev x (by simp [Op.operands])] at h ⊢
    revert h; exact map_loc
  case pick c x y =>
    simp only [opFn, hev c (by simp [Op.operands]), hev x (by simp [Op.operands]), hev y (by simp [Op.operands])] at h ⊢
    revert h; split
    · exact map_loc
    · exact map_loc
    · simp
  case load t p =>
    simp only [opFn, hev p (by simp [Op.operands])] at h ⊢
    revert h; split
    · rw [loadP_congr (hh (by simp [touch]))]
      exact map_loc
    · simp
  case build t ps =>
    have := evParts_congr (ev := st.ev) (ev' := st2.ev) (l := ps.toList) (fun x hx => hev x (by simpa [Op.operands] using hx))
    simp only [opFn, this] at h ⊢
    revert h; split
    · split
      · split
        · exact map_loc
        · simp
      · simp
    · simp
  case binOp op t x y u =>
    simp only [opFn, hev x (by simp [Op.operands]), hev y (by simp [Op.operands])] at h ⊢
    revert h; split
    · split
      · split
        · split <;> simp
          · rintro rfl rfl; simp
          · rintro rfl rfl; simp
        · simp
      · simp
    · exact map_loc
    · split
      · exact map_loc
      · simp
    · simp
  case unOp op t x =>
    simp only [opFn, hev x (by simp [Op.operands])] at h ⊢
    revert h; split
    · exact map_loc
    · simp
  case convert s d x =>
    simp only [opFn, hev x (by simp [Op.operands])] at h ⊢
    revert h; split
    · split <;> simp
      rintro rfl rfl; simp
    · simp
  case makeFunc fn first caps =>
    cases fn <;> simp only [reduceCtorEq, opFn] at h ⊢
    have := evL_congr (ev := st.ev) (ev' := st2.ev) (l := caps.toList) (fun x hx => hev x (by simp [Op.operands] at hx ⊢; exact .inr hx))
    rw [this]
    revert h; split
    · exact map_loc
    · simp
  case slice t x lo hi mx =>
    have hb : ∀ (d : Nat) (o : Option Operand), (o = lo ∨ o = hi) → bound st2 d o = bound st d o := by
      rintro d o ho
      cases o with
      | none => rfl
      | some o =>
        simp only [bound]
        rw [hev o (by rcases ho with rfl | rfl <;> simp [Op.operands])]
    simp only [opFn, hev x (by simp [Op.operands])] at h ⊢
    revert h; split
    · split
      · split
        · rename_i n _
          rw [hb 0 lo (.inl rfl), hb n hi (.inr rfl)]
          split
          · exact map_loc
          · simp
        · simp
      · simp
    · simp
  case fieldAddr s p f =>
    simp only [opFn, hev p (by simp [Op.operands])] at h ⊢
    revert h; split
    · split
      · exact map_loc
      · simp
    · simp
  case field s x f =>
    simp only [opFn, hev x (by simp [Op.operands])] at h ⊢
    revert h; split
    · split
      · split
        · exact map_loc
        · simp
      · simp
    · simp
  case indexAddr t x ix =>
    simp only [opFn, hev x (by simp [Op.operands]), hev ix (by simp [Op.operands])] at h ⊢
    revert h; split
    · exact map_loc
    · simp
  case index t x ix =>
    simp only [opFn, hev x (by simp [Op.operands]), hev ix (by simp [Op.operands])] at h ⊢
    revert h; split
    · split
      · split
        · split
          · exact map_loc
          · simp
        · simp
      · split
        · exact map_loc
        · simp
      · simp
    · simp
  case extract x k =>
    simp only [opFn, hev x (by simp [Op.operands])] at h ⊢
    revert h; split
    · exact map_loc
    · exact map_loc
    · simp
  case nilCheck x =>
    simp only [opFn, hev x (by simp [Op.operands])] at h ⊢
    revert h; split <;> simp
    all_goals rintro rfl rfl; simp
  case call c =>
    obtain ⟨cal, args, argTypes⟩ := c
    cases cal <;> simp only [reduceCtorEq] at h
    rename_i b
    have := evL_congr (ev := st.ev) (ev' := st2.ev) (l := args.toList) (fun x hx => hev x (by simpa [Op.operands, Call.operands] using hx))
    simp only [opFn, this] at h ⊢
    revert h; split
    · have hb : b = .len ∨ b = .min ∨ b = .max := by
        revert ht; cases b <;> simp [touch]
      intro h
      exact builtinV_local h hb
    · simp

/-! ### Operations that write, or make a block: they ask nothing of the slots but what they read -/
def slOn (s : List (Nat × V)) (p : V × AS) : V × AS := (p.1, { p.2 with sl := s })
theorem blk_sl (s : List (Nat × V)) (n : Nat) : ({ st with sl := s } : AS).blk n = st.blk n := rfl
theorem conts_sl (s : List (Nat × V)) (x : V) : conts { st with sl := s } x = conts st x := by unfold conts; rfl
theorem contsD_sl (s : List (Nat × V)) (x : V) : contsD { st with sl := s } x = contsD st x := by unfold contsD; rfl
theorem storeP_sl (s : List (Nat × V)) (i : TI) (p y : V) : storeP { st with sl := s } i p y = (storeP st i p y).map fun r => { r with sl := s } := by
  unfold storeP
  simp only [blk_sl]
  repeat' split
  all_goals first | rfl | (simp_all; done) | skip
theorem appendV_sl (s : List (Nat × V)) (i : TI) (p y : V) : appendV { st with sl := s } i p y = (appendV st i p y).map (slOn s) := by
  unfold appendV
  simp only [blk_sl, conts_sl, contsD_sl]
  repeat' split
  all_goals first | rfl | (simp_all; done) | skip
theorem copyV_sl (s : List (Nat × V)) (p y : V) : copyV { st with sl := s } p y = (copyV st p y).map (slOn s) := by
  unfold copyV
  simp only [blk_sl, contsD_sl]
  repeat' split
  all_goals first | rfl | (simp_all; done) | skip

theorem op_local2 {op : Op} (h : opFn T st op = some (v, st1)) (ht : touch op = 2) (hh : st2.hp = st.hp) (hn : st2.nx = st.nx) (hev : ∀ x ∈ op.operands, st2.ev x = st.ev x) : st1.sl = st.sl ∧ opFn T st2 op = some (v, { st1 with sl := st2.sl }) := by
  obtain ⟨s, hp, nx⟩ := st2
  simp only at hh hn
  subst hh hn
  have fin : ∀ {R : AS → Option (V × AS)}, R { st with sl := s } = (R st).map (slOn s) → R { st with sl := st.sl } = (R st).map (slOn st.sl) → R st = some (v, st1) → st1.sl = st.sl ∧ R { st with sl := s } = some (v, { st1 with sl := s }) := by
    intro R h1 h2 h3
    rw [h3] at h1 h2
    refine ⟨?_, h1⟩
    have := congrArg AS.sl (Prod.mk.inj (Option.some.inj h2)).2
    exact this
  cases op <;> simp only [opFn, reduceCtorEq] at h <;> simp only [touch, Nat.reduceEqDiff] at ht
  case alloc t =>
    simp only [opFn]
    cases hT : T t with
    | none => simp [hT] at h
    | some i => simp [hT] at h; obtain ⟨rfl, rfl⟩ := h; exact ⟨rfl, rfl⟩
  case box t x =>
    have e := hev x (by simp [Op.operands])
    simp only [opFn, e]
    revert h; split
    · split
      · intro h; simp at h; obtain ⟨rfl, rfl⟩ := h; exact ⟨rfl, rfl⟩
      · simp
    · simp
  case buildSlice t len ps =>
    have e := evParts_congr (ev := st.ev) (ev' := ({ sl := s, hp := st.hp, nx := st.nx } : AS).ev) (l := ps.toList) (fun x hx => hev x (by simpa [Op.operands] using hx))
    simp only [opFn, e]
    revert h; split
    · split
      · split
        · intro h
          simp only [Option.map_eq_some_iff, Prod.mk.injEq] at h ⊢
          obtain ⟨xs, hx, rfl, rfl⟩ := h
          exact ⟨rfl, xs, hx, rfl, rfl⟩
        · simp
      · simp
    · simp
  case store t p x =>
    have e1 := hev p (by simp [Op.operands])
    have e2 := hev x (by simp [Op.operands])
    simp only [opFn, e1, e2]
    revert h; split
    · rename_i i u y _ _ _
      have := storeP_sl (st := st) s i u y
      rw [show storeP { sl := s, hp := st.hp, nx := st.nx } i u y = storeP { st with sl := s } i u y from rfl, this]
      have h2 := storeP_sl (st := st) st.sl i u y
      cases hs : storeP st i u y with
      | none => simp
      | some r =>
        intro h; simp at h; obtain ⟨rfl, rfl⟩ := h
        rw [show ({ st with sl := st.sl } : AS) = st from rfl, hs] at h2
        have h3 := congrArg AS.sl (Option.some.inj h2)
        exact ⟨h3, rfl⟩
    · simp
  case makeSlice t l c =>
    have e1 := hev l (by simp [Op.operands])
    have e2 := hev c (by simp [Op.operands])
    simp only [opFn, e1, e2]
    revert h; split
    · split
      · intro h; simp at h; obtain ⟨rfl, rfl⟩ := h; exact ⟨rfl, rfl⟩
      · simp
    · simp
  case call c =>
    obtain ⟨cal, args, argTypes⟩ := c
    cases cal <;> simp only [reduceCtorEq] at h
    rename_i b
    have e := evL_congr (ev := st.ev) (ev' := ({ sl := s, hp := st.hp, nx := st.nx } : AS).ev) (l := args.toList) (fun x hx => hev x (by simpa [Op.operands, Call.operands] using hx))
    simp only [opFn, e]
    revert h; split
    · rename_i vs _
      have hsl : ∀ s, builtinV T { st with sl := s } b argTypes vs = (builtinV T st b argTypes vs).map (slOn s) := by
        intro s
        have hb : b ≠ .len ∧ b ≠ .min ∧ b ≠ .max := by
          refine ⟨?_, ?_, ?_⟩ <;> rintro rfl <;> simp at ht
        obtain ⟨b1, b2, b3⟩ := hb
        cases b
        case len => exact absurd rfl b1
        case min => exact absurd rfl b2
        case max => exact absurd rfl b3
        case append =>
          match vs with
          | [] => rfl
          | [_] => rfl
          | _ :: _ :: _ :: _ => rfl
          | [x, y] =>
            simp only [builtinV]
            split
            · split
              · split
                · exact appendV_sl s _ _ _
                · rfl
              · rfl
            · rfl
        case copy =>
          match vs with
          | [] => rfl
          | [_] => rfl
          | _ :: _ :: _ :: _ => rfl
          | [x, y] =>
            simp only [builtinV]
            split
            · split
              · split
                · exact copyV_sl s _ _
                · rfl
              · rfl
            · rfl
        all_goals rfl
      intro h
      exact fin (R := fun st => builtinV T st b argTypes vs) (hsl s) (hsl st.sl) h
    · simp
end
end Go.Am
