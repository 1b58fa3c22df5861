/- LIFTING: the program's functions as plain functions in Lean, and the lemmas by which a walk is tied to them. -/
import Derived.Test.YtlchefooafpdlaaAm31
namespace Go.Am
open Go

/-! ### The plain side -/
def iter {α β : Type} (f : α → Option (α ⊕ β)) : Nat → α → Option β
  | 0, _ => none
  | n + 1, a => match f a with
    | none => none
    | some (.inl a') => iter f n a'
    | some (.inr b) => some b

theorem iter_mono {α β : Type} {f : α → Option (α ⊕ β)} : ∀ {n : Nat} {a : α} {b : β}, iter f n a = some b → ∀ m, n ≤ m → iter f m a = some b
  | 0, _, _, h, _, _ => by simp [iter] at h
  | n + 1, a, b, h, m, hm => by
    obtain ⟨k, rfl⟩ : ∃ k, m = k + 1 := ⟨m - 1, by omega⟩
    simp only [iter] at h ⊢
    split at h
    · simp at h
    · rename_i a' he; exact iter_mono h k (by omega)
    · exact h

theorem iter_det {α β : Type} {f : α → Option (α ⊕ β)} {n m : Nat} {a : α} {b c : β} (h : iter f n a = some b) (h' : iter f m a = some c) : b = c := by
  have h1 := iter_mono h (max n m) (by omega)
  have h2 := iter_mono h' (max n m) (by omega)
  rw [h1] at h2; exact Option.some.inj h2

open Classical in
/-- A loop: the body hands back the next state, or what the loop ends with. None: it panics, or never ends. -/
noncomputable def loop {α β : Type} (f : α → Option (α ⊕ β)) (a : α) : Option β :=
  if h : ∃ b n, iter f n a = some b then some h.choose else none

theorem loop_iff {α β : Type} {f : α → Option (α ⊕ β)} {a : α} {b : β} : loop f a = some b ↔ ∃ n, iter f n a = some b := by
  unfold loop
  split
  · rename_i h
    constructor
    · intro e; cases e; exact h.choose_spec
    · rintro ⟨n, hn⟩
      obtain ⟨m, hm⟩ := h.choose_spec
      rw [iter_det hm hn]
  · rename_i h
    constructor
    · intro e; cases e
    · rintro ⟨n, hn⟩; exact absurd ⟨b, n, hn⟩ h

theorem loop_next {α β : Type} {f : α → Option (α ⊕ β)} {a a' : α} (h : f a = some (.inl a')) : loop f a = loop f a' := by
  apply Option.ext
  intro b
  rw [loop_iff, loop_iff]
  constructor
  · rintro ⟨n, hn⟩
    cases n with
    | zero => simp [iter] at hn
    | succ n => simp only [iter, h] at hn; exact ⟨n, hn⟩
  · rintro ⟨n, hn⟩
    exact ⟨n + 1, by simp only [iter, h]; exact hn⟩
theorem loop_done {α β : Type} {f : α → Option (α ⊕ β)} {a : α} {b : β} (h : f a = some (.inr b)) : loop f a = some b :=
  loop_iff.2 ⟨1, by simp [iter, h]⟩

/-- Total correctness of a loop. -/
theorem loop_inv {α β : Type} {f : α → Option (α ⊕ β)} (I : α → Prop) (μ : α → Nat) (Q : β → Prop) (step : ∀ a, I a → (∃ a', f a = some (.inl a') ∧ I a' ∧ μ a' < μ a) ∨ ∃ b, f a = some (.inr b) ∧ Q b) {a : α} (h : I a) : ∃ b, loop f a = some b ∧ Q b := by
  generalize hn : μ a = n
  induction n using Nat.strongRecOn generalizing a with
  | _ n ih =>
    rcases step a h with ⟨a', h1, h2, h3⟩ | ⟨b, h1, h2⟩
    · rw [loop_next h1]; exact ih _ (hn ▸ h3) h2 rfl
    · exact ⟨b, loop_done h1, h2⟩

def w64 (x : Int) : Int := IntKind.i64.wrap x
theorem w64_id {x : Int} (h : -9223372036854775808 ≤ x ∧ x ≤ 9223372036854775807) : w64 x = x := wrapI64 h
def idx {α : Type} (xs : List α) (i : Int) : Option α := if 0 ≤ i then xs[i.toNat]? else none
def quo64 (x y : Int) : Option Int := if y = 0 then none else some (w64 (x.tdiv y))
def rem64 (x y : Int) : Option Int := if y = 0 then none else some (x.tmod y)
def app {α : Type} (c : Nat) (xs ys : List α) : Option (List α) := if (xs.length + ys.length) * (c * 4) ≤ 4294967296 then some (xs ++ ys) else none
def slc {α : Type} (xs : List α) (a b : Int) : Option (List α) := if 0 ≤ a ∧ a ≤ b ∧ b ≤ xs.length then some ((xs.drop a.toNat).take (b.toNat - a.toNat)) else none
def mks {α : Type} (c : Nat) (n : Int) (z : α) : Option (List α) := if 0 ≤ n ∧ n * (c * 4) ≤ 4294967296 then some (List.replicate n.toNat z) else none
/-- The bounds of a part: where it begins, and how long it is. -/
def sub2 (n : Nat) (a b : Int) : Option (Nat × Nat) := if 0 ≤ a ∧ a ≤ b ∧ b ≤ n then some (a.toNat, b.toNat - a.toNat) else none
/-- copy into the part w of xs. -/
def cpyw {α : Type} (xs : List α) (w : Nat × Nat) (ys : List α) : List α := splice xs w.1 (ys.take (min ys.length w.2))

theorem leb {n m : Nat} (h : Nat.ble n m = true) : n ≤ m := by simpa using h
theorem cpyw_len {α : Type} {xs ys : List α} {w : Nat × Nat} (h : w.1 + w.2 ≤ xs.length) : (cpyw xs w ys).length = xs.length := by
  simp [cpyw, splice]; omega
theorem ltd {n m : Nat} (h : Nat.blt n m = true) : n < m := by simpa [Nat.blt_eq] using h
def eI (k : IntKind) (x : Int) : List DV := [.int k x]
def eB (b : Bool) : List DV := [.bool b]

theorem idx_some {α : Type} {xs : List α} {i : Int} {v : α} (h : idx xs i = some v) : 0 ≤ i ∧ xs[i.toNat]? = some v ∧ i.toNat < xs.length := by
  unfold idx at h
  split at h
  · rename_i h0; exact ⟨h0, h, lt_size h⟩
  · cases h

theorem bindE {α β : Type} {o : Option α} {f : α → Option β} {x : β} (h : o.bind f = some x) : ∃ v, o = some v ∧ f v = some x := by
  cases o with
  | none => cases h
  | some v => exact ⟨v, rfl, h⟩
theorem someE {α : Type} {a b : α} (h : some a = some b) : a = b := Option.some.inj h
theorem inrE {α β : Type} {a b : β} (h : (some (.inr a) : Option (α ⊕ β)) = some (.inr b)) : b = a := (Sum.inr.inj (Option.some.inj h)).symm
theorem inlrE {α β : Type} {a : α} {b : β} (h : (some (.inl a) : Option (α ⊕ β)) = some (.inr b)) : False := by cases h

section
variable {P : Program} {T : Tab} {base : Nat} {cs : List Code} {st : AS} {K : Ex → AS → Prop}

/-! ### Code -/
theorem RunK.mono {K' : Ex → AS → Prop} : ∀ {cs : List Code} {st : AS}, RunK P T base cs st K → (∀ ex st, K ex st → K' ex st) → RunK P T base cs st K'
  | [], _, h, hk => hk _ _ h
  | c :: cs, st, h, hk => CodeK.mono h fun ex st h => by
    cases ex with
    | nor => exact RunK.mono (cs := cs) h hk
    | exit i => exact hk _ _ h
    | ret => exact hk _ _ h

theorem rk_condH {α : Type} {c : Operand} {a b : Code} {t : Bool} {X Y : Option α} {x : α} (hc : st.ev c = some (.d (.bool t))) (h : cond t X Y = some x) (ht : t = true → X = some x → RunK P T base (a :: cs) st K) (hf : t = false → Y = some x → RunK P T base (b :: cs) st K) :
    RunK P T base (.cond c a b :: cs) st K := by
  cases t with
  | true => exact rk_condT hc (ht rfl h)
  | false => exact rk_condF hc (hf rfl h)

theorem rk_loopF {α β : Type} {body : Code} (f : α → Option (α ⊕ β)) (S : α → AS) (a0 : α) (m : β) (hm : loop f a0 = some m) (h0 : WkE base st (S a0))
    (round : ∀ a y, f a = some y → RunK P T base [body] (S a) (fun ex st' => match ex with
      | .nor => ∃ a', y = .inl a' ∧ WkE base st' (S a')
      | ex => ∃ b, y = .inr b ∧ (b = m → K ex st'))) : RunK P T base (.loop body :: cs) st K := by
  obtain ⟨n, hn⟩ := loop_iff.1 hm
  refine rk_loop (fun x : Nat × α => S x.2) (fun x => iter f x.1 x.2 = some m) (fun x => x.1) (n, a0) h0 hn ?_
  rintro ⟨k, a⟩ hk
  cases k with
  | zero => simp [iter] at hk
  | succ k =>
    simp only [iter] at hk
    split at hk
    · cases hk
    · rename_i a' he
      refine (round a _ he).mono ?_
      intro ex st' h
      cases ex with
      | nor =>
        obtain ⟨a'', h1, h2⟩ := h
        cases h1
        exact ⟨(k, a'), hk, by simp, h2⟩
      | exit i => obtain ⟨b, h1, _⟩ := h; cases h1
      | ret => obtain ⟨b, h1, _⟩ := h; cases h1
    · rename_i b he
      cases hk
      refine (round a _ he).mono ?_
      intro ex st' h
      cases ex with
      | nor => obtain ⟨a'', h1, _⟩ := h; cases h1
      | exit i => obtain ⟨b', h1, h2⟩ := h; cases h1; exact h2 rfl
      | ret => obtain ⟨b', h1, h2⟩ := h; cases h1; exact h2 rfl

theorem blk_eq {id : Nat} {N : AS → Prop} (h : N st) : blockK id N K (.exit id) st := by simpa [blockK] using h
theorem blk_ne {id i : Nat} {N : AS → Prop} (hi : i ≠ id) (h : K (.exit i) st) : blockK id N K (.exit i) st := by simpa [blockK, hi] using h
theorem blk_nor {id : Nat} {N : AS → Prop} (h : N st) : blockK id N K .nor st := h
/-- A cut behind a piece of code: what its ends have in common. -/
theorem rk_cut {β : Type} {c : Code} (E : β → Prop) (S : β → AS) (hne : cs ≠ []) (hc : RunK P T base [c] st (thenK (fun st' => ∃ b, E b ∧ WkE base st' (S b)) K)) (hrest : ∀ b, E b → RunK P T base cs (S b) K) : RunK P T base (c :: cs) st K := by
  obtain ⟨ex, st1, e1, k1⟩ := ck_of_run hc
  refine ⟨ex, st1, e1, ?_⟩
  cases ex with
  | nor => obtain ⟨b, hb, hw⟩ := k1; exact rk_wk hw (hrest b hb) hne
  | exit i => exact k1
  | ret => exact k1
theorem rk_blockcut {β : Type} {id : Nat} {a : Code} (E : β → Prop) (S : β → AS) (hne : cs ≠ []) (hc : RunK P T base [a] st (blockK id (fun st' => ∃ b, E b ∧ WkE base st' (S b)) K)) (hrest : ∀ b, E b → RunK P T base cs (S b) K) : RunK P T base (.block id a :: cs) st K := by
  refine rk_block (hc.mono ?_)
  intro ex st' h
  cases ex with
  | nor => obtain ⟨b, hb, hw⟩ := h; exact rk_wk hw (hrest b hb) hne
  | ret => exact h
  | exit i =>
    simp only [blockK] at h ⊢
    split
    · rename_i hi; rw [if_pos hi] at h; obtain ⟨b, hb, hw⟩ := h; exact rk_wk hw (hrest b hb) hne
    · rename_i hi; rw [if_neg hi] at h; exact h
/-- The same, where the code behind it is not of this row. -/
theorem rk_blockcut0 {β : Type} {id : Nat} {a : Code} (E : β → Prop) (S : β → AS) (hc : RunK P T base [a] st (blockK id (fun st' => ∃ b, E b ∧ WkE base st' (S b)) K)) (hrest : ∀ b st', E b → WkE base st' (S b) → K .nor st') : RunK P T base [.block id a] st K := by
  refine rk_block (hc.mono ?_)
  intro ex st' h
  cases ex with
  | nor => obtain ⟨b, hb, hw⟩ := h; exact hrest b st' hb hw
  | ret => exact h
  | exit i =>
    simp only [blockK] at h ⊢
    split
    · rename_i hi; rw [if_pos hi] at h; obtain ⟨b, hb, hw⟩ := h; exact hrest b st' hb hw
    · rename_i hi; rw [if_neg hi] at h; exact h
theorem rk_cut0 {β : Type} {c : Code} (E : β → Prop) (S : β → AS) (hc : RunK P T base [c] st (thenK (fun st' => ∃ b, E b ∧ WkE base st' (S b)) K)) (hrest : ∀ b st', E b → WkE base st' (S b) → K .nor st') : RunK P T base [c] st K := by
  refine hc.mono ?_
  intro ex st' h
  cases ex with
  | nor => obtain ⟨b, hb, hw⟩ := h; exact hrest b st' hb hw
  | exit i => exact h
  | ret => exact h
end

section
variable {P : Program} {T : Tab} {base : Nat} {ops : Array Oper} {dr : Dr} {l : List Oper} {sl : List (Nat × V)} {hp : List (Nat × Blk)} {nx : Nat} {K : AS → Prop} {ty : TypeId} {pos : String} {af : Array Edge} {t : Tmp} {g : Option (Nat × Bool)}

/-! ### Operations -/
/-- A value is made; the blocks stay. -/
theorem ok_v {op : Op} (v : V) (hg : guardOk ops ⟨sl, hp, nx⟩ ⟨some t, op, ty, pos, af, g⟩ = some true) (ho : opFn T ⟨sl, hp, nx⟩ op = some (v, ⟨sl, hp, nx⟩)) (h : OpsK P T base ops dr l ⟨(t, v) :: sl, hp, nx⟩ K) (hF : okO dr l.length ⟨sl, hp, nx⟩ (op) ⟨sl, hp, nx⟩ = true := by rfl) : OpsK P T base ops dr (⟨some t, op, ty, pos, af, g⟩ :: l) ⟨sl, hp, nx⟩ K :=
  ok_op hg ho h hF
/-- A block is made. -/
theorem ok_new {op : Op} (v : V) (b : Blk) (hg : guardOk ops ⟨sl, hp, nx⟩ ⟨some t, op, ty, pos, af, g⟩ = some true) (ho : opFn T ⟨sl, hp, nx⟩ op = some (v, ⟨sl, (nx, b) :: hp, nx + 1⟩)) (h : OpsK P T base ops dr l ⟨(t, v) :: sl, (nx, b) :: hp, nx + 1⟩ K) (hF : okO dr l.length ⟨sl, hp, nx⟩ (op) ⟨sl, (nx, b) :: hp, nx + 1⟩ = true := by rfl) : OpsK P T base ops dr (⟨some t, op, ty, pos, af, g⟩ :: l) ⟨sl, hp, nx⟩ K :=
  ok_op hg ho h hF
/-- A row is made, and frozen at once. -/
theorem ok_fzn {op : Op} {es len : Nat} (xs : List (List DV)) (hg : guardOk ops ⟨sl, hp, nx⟩ ⟨some t, op, ty, pos, af, g⟩ = some true) (ho : opFn T ⟨sl, hp, nx⟩ op = some (.hs nx es 0 len, ⟨sl, (nx, .dat es xs) :: hp, nx + 1⟩)) (hl : len = xs.length) (ht : touch op = 2) (hf : find hp nx = none) (h : OpsK P T base ops dr l ⟨(t, .d (.sl es xs)) :: sl, hp, nx + 1⟩ K) (hF : okF dr l.length (fp ⟨sl, hp, nx⟩ op) = true := by rfl) : OpsK P T base ops dr (⟨some t, op, ty, pos, af, g⟩ :: l) ⟨sl, hp, nx⟩ K := by
  subst hl
  exact ok_opF (n := nx) (hp2 := hp) (st1 := ⟨sl, (nx, .dat es xs) :: hp, nx + 1⟩) hg ho ht ⟨rfl, rfl⟩ rfl hf h hF
/-- A block is written into. -/
theorem ok_sto {op : Op} (n : Nat) (b : Blk) (hg : guardOk ops ⟨sl, hp, nx⟩ ⟨none, op, ty, pos, af, g⟩ = some true) (ho : opFn T ⟨sl, hp, nx⟩ op = some (.dead, ⟨sl, repl hp n b, nx⟩)) (h : OpsK P T base ops dr l ⟨sl, repl hp n b, nx⟩ K) (hF : okO dr l.length ⟨sl, hp, nx⟩ (op) ⟨sl, repl hp n b, nx⟩ = true := by rfl) : OpsK P T base ops dr (⟨none, op, ty, pos, af, g⟩ :: l) ⟨sl, hp, nx⟩ K :=
  ok_op hg ho h hF
/-- The guard's bool: both roads. -/
theorem ok_mvB {α : Type} {x : Operand} {b : Bool} {X Y : Option α} {m : α} (hg : guardOk ops ⟨sl, hp, nx⟩ ⟨some t, .move x, ty, pos, af, g⟩ = some true) (hx : AS.ev ⟨sl, hp, nx⟩ x = some (.d (.bool b))) (h : cond b X Y = some m)
    (ht : X = some m → OpsK P T base ops dr l ⟨(t, .d (.bool true)) :: sl, hp, nx⟩ K) (hf : Y = some m → OpsK P T base ops dr l ⟨(t, .d (.bool false)) :: sl, hp, nx⟩ K) : OpsK P T base ops dr (⟨some t, .move x, ty, pos, af, g⟩ :: l) ⟨sl, hp, nx⟩ K := by
  cases b with
  | true => exact ok_mv hg hx (ht h)
  | false => exact ok_mv hg hx (hf h)
theorem evops_append {dr : Dr} (hd : dr = none) {l1 l2 : List Oper} {st st1 st2 : AS} : EvOps P T base ops dr l1 st st1 → EvOps P T base ops dr l2 st1 st2 → EvOps P T base ops dr (l1 ++ l2) st st2
  | .nil, h2 => h2
  | .skip a b, h2 => .skip a (evops_append hd b h2)
  | .op a b _ c, h2 => .op a b (by subst hd; rfl) (evops_append hd c h2)
  | .opF a b c d e f _ g, h2 => .opF a b c d e f (by subst hd; rfl) (evops_append hd g h2)
  | .callP a b c d e f g h _ i, h2 => .callP a b c d e f g h (by subst hd; rfl) (evops_append hd i h2)
  | .callS a b c d e, h2 => .callS a b c d (evops_append hd e h2)
  | .callF a b c d e f g h i, h2 => .callF a b c d e f g h (evops_append hd i h2)
  | .callY a b c d e f g h i j k l, h2 => .callY a b c d e f g h i j k (evops_append hd l h2)
  | .wk a b, h2 => .wk a (evops_append hd b h2)
theorem fpAt_drop {F : List Fp} {m k : Nat} : fpAt (F.drop m) k = fpAt F (k + m) := by
  unfold fpAt
  rw [List.getElem?_drop, Nat.add_comm]
theorem okO_app {F : List Fp} {l l2 : List Oper} {dr : Dr} (hd : dr = some (F.drop l2.length)) {st st1 : AS} {op : Op} (h : okO dr l.length st op st1 = true) : okO (some F) (l ++ l2).length st op st1 = true := by
  subst hd
  simp only [okO, fpAt_drop] at h
  simpa only [okO, List.length_append] using h
theorem okF_app {F : List Fp} {l l2 : List Oper} {dr : Dr} (hd : dr = some (F.drop l2.length)) {x : Fp} (h : okF dr l.length x = true) : okF (some F) (l ++ l2).length x = true := by
  subst hd
  simp only [okF, fpAt_drop] at h
  simpa only [okF, List.length_append] using h
theorem evops_appendF {F : List Fp} {l2 : List Oper} {dr : Dr} {k : Dr} (hk : k = some F) (hd : dr = some (F.drop l2.length)) {l1 : List Oper} {st st1 st2 : AS} (h1 : EvOps P T base ops dr l1 st st1) (h2 : EvOps P T base ops k l2 st1 st2) : EvOps P T base ops k (l1 ++ l2) st st2 := by
  subst hk
  induction l1 generalizing st with
  | nil => cases h1 with
    | nil => exact h2
    | wk _ _ => cases hd
  | cons o l ih =>
    cases h1 with
    | skip a b => exact .skip a (ih b)
    | op a b c d => exact .op a b (okO_app hd c) (ih d)
    | opF a b c d e f g h => exact .opF a b c d e f (okF_app hd g) (ih h)
    | callP a b c d e f g h i j => exact .callP a b c d e f g h (okF_app hd i) (ih j)
    | callS _ _ _ _ _ => cases hd
    | callF _ _ _ _ _ _ _ _ _ => cases hd
    | callY _ _ _ _ _ _ _ _ _ _ _ _ => cases hd
    | wk _ _ => cases hd
def drShift (dr : Dr) (k : Nat) : Dr := match dr with
  | none => none
  | some F => some (F.drop k)
theorem evops_appendD {dr : Dr} {l1 l2 : List Oper} {st st1 st2 : AS} (h1 : EvOps P T base ops (drShift dr l2.length) l1 st st1) (h2 : EvOps P T base ops dr l2 st1 st2) : EvOps P T base ops dr (l1 ++ l2) st st2 := by
  cases dr with
  | none => exact evops_append rfl h1 h2
  | some F => exact evops_appendF rfl rfl h1 h2
theorem ok_cutQ (n : Nat) (Q : (List (Nat × V) → AS) → AS → Prop) (h1 : OpsK P T base ops (drShift dr (l.drop n).length) (l.take n) ⟨sl, hp, nx⟩ (Q fun p => ⟨p ++ sl, hp, nx⟩)) (h2 : ∀ st', Q (fun p => ⟨p ++ sl, hp, nx⟩) st' → OpsK P T base ops dr (l.drop n) st' K) : OpsK P T base ops dr l ⟨sl, hp, nx⟩ K := by
  obtain ⟨st1, e1, k1⟩ := h1
  obtain ⟨st2, e2, k2⟩ := h2 st1 k1
  refine ⟨st2, ?_, k2⟩
  have := evops_appendD e1 e2
  rwa [List.take_append_drop] at this

/-- An element of frozen data. -/
theorem ok_ix {α : Type} {x y : Operand} {xt : TypeId} {i : TI} {k : IntKind} {n : Int} {es : Nat} {xs : List α} {enc : α → List DV} {v : α} (hv : idx xs n = some v) (hg : guardOk ops ⟨sl, hp, nx⟩ ⟨some t, .indexAddr xt x y, ty, pos, af, g⟩ = some true) (hT : T xt = some i)
    (hx : AS.ev ⟨sl, hp, nx⟩ x = some (.d (.sl es (xs.map enc)))) (hy : AS.ev ⟨sl, hp, nx⟩ y = some (.d (.int k n))) (hk : i.kind = .slice) (he : es = i.esize)
    (h : OpsK P T base ops dr l ⟨(t, .dref (enc v) 0) :: sl, hp, nx⟩ K) : OpsK P T base ops dr (⟨some t, .indexAddr xt x y, ty, pos, af, g⟩ :: l) ⟨sl, hp, nx⟩ K := by
  obtain ⟨h0, h1, _⟩ := idx_some hv
  exact ok_op hg (v := .dref (enc v) 0) (st1 := ⟨sl, hp, nx⟩) (by simp [opFn, hx, hy, hT, indexP, hk, he, h0, h1]) h (okO_zero rfl)
/-- An element of a block of the machine's. -/
theorem ok_ih {α : Type} {x y : Operand} {xt : TypeId} {i : TI} {k : IntKind} {n : Int} {m es len : Nat} {xs : List α} {v : α} (hv : idx xs n = some v) (hl : len = xs.length) (hg : guardOk ops ⟨sl, hp, nx⟩ ⟨some t, .indexAddr xt x y, ty, pos, af, g⟩ = some true) (hT : T xt = some i)
    (hx : AS.ev ⟨sl, hp, nx⟩ x = some (.hs m es 0 len)) (hy : AS.ev ⟨sl, hp, nx⟩ y = some (.d (.int k n))) (hk : i.kind = .slice) (he : es = i.esize)
    (h : OpsK P T base ops dr l ⟨(t, .ref m es n.toNat 0) :: sl, hp, nx⟩ K) : OpsK P T base ops dr (⟨some t, .indexAddr xt x y, ty, pos, af, g⟩ :: l) ⟨sl, hp, nx⟩ K := by
  subst hl
  obtain ⟨h0, _, h1⟩ := idx_some hv
  exact ok_op hg (v := .ref m es n.toNat 0) (st1 := ⟨sl, hp, nx⟩) (by simp [opFn, hx, hy, hT, indexP, hk, he, h0]; omega) h (okO_zero rfl)
/-- A row of a block is loaded. -/
theorem ok_lh {α : Type} {p : Operand} {xt : TypeId} {i : TI} {m es j : Nat} {n : Int} {xs : List α} {enc : α → List DV} {r : List DV} {v : α} (w : V) (hv : idx xs n = some v) (hg : guardOk ops ⟨sl, hp, nx⟩ ⟨some t, .load xt p, ty, pos, af, g⟩ = some true) (hT : T xt = some i)
    (hx : AS.ev ⟨sl, hp, nx⟩ p = some (.ref m es n.toNat j)) (hb : find hp m = some (.dat es (xs.map enc))) (hs : sub (enc v) j i.size = some r) (hw : (packD i.agg r).map .d = some w)
    (h : OpsK P T base ops dr l ⟨(t, w) :: sl, hp, nx⟩ K) (hF : okF dr l.length (fp ⟨sl, hp, nx⟩ (.load xt p)) = true := by rfl) : OpsK P T base ops dr (⟨some t, .load xt p, ty, pos, af, g⟩ :: l) ⟨sl, hp, nx⟩ K :=
  ok_ldh hg hT hx hb (by rw [List.getElem?_map, (idx_some hv).2.1]; rfl) hs hw h hF
/-- A part of a row of a block is written. -/
theorem ok_sh {α : Type} {p x : Operand} {xt : TypeId} {i : TI} {m es j : Nat} {n : Int} {xs : List α} {enc : α → List DV} {v : α} (v' : α) {u : V} {ds : List DV} (hv : idx xs n = some v) (hg : guardOk ops ⟨sl, hp, nx⟩ ⟨none, .store xt p x, ty, pos, af, g⟩ = some true) (hT : T xt = some i)
    (hp' : AS.ev ⟨sl, hp, nx⟩ p = some (.ref m es n.toNat j)) (hx : AS.ev ⟨sl, hp, nx⟩ x = some u) (hb : find hp m = some (.dat es (xs.map enc))) (hc : cellsOf u = ds.map .d) (hl : ds.length = i.size) (hk : ds.all isCell = true) (hj : j + i.size ≤ (enc v).length) (hs : splice (enc v) j ds = enc v')
    (h : OpsK P T base ops dr l ⟨sl, repl hp m (.dat es ((xs.set n.toNat v').map enc)), nx⟩ K) (hF : okO dr l.length ⟨sl, hp, nx⟩ (.store xt p x) ⟨sl, repl hp m (.dat es ((xs.set n.toNat v').map enc)), nx⟩ = true := by rfl) : OpsK P T base ops dr (⟨none, .store xt p x, ty, pos, af, g⟩ :: l) ⟨sl, hp, nx⟩ K := by
  refine ok_op hg (v := .dead) (st1 := ⟨sl, repl hp m (.dat es ((xs.set n.toNat v').map enc)), nx⟩) ?_ h hF
  have hall : (cellsOf u).all vCell = true := by rw [hc, List.all_map]; exact hk
  have hlen : (cellsOf u).length = i.size := by rw [hc]; simpa using hl
  have hrow : (xs.map enc)[n.toNat]? = some (enc v) := by rw [List.getElem?_map, (idx_some hv).2.1]; rfl
  simp only [opFn, hT, hp', hx, storeP, AS.blk, hb, Nat.beq_refl, hrow]
  rw [if_neg (by simp [hall, hlen]), if_pos hj, hc, allD_of_map]
  simp only [hs, List.map_set, AS.setBlk]
  rfl
/-- The length. -/
theorem ok_ln {α : Type} {x : Operand} {xt : TypeId} {i : TI} {es : Nat} {xs : List α} {enc : α → List DV} (hg : guardOk ops ⟨sl, hp, nx⟩ ⟨some t, .call { callee := .builtin .len, args := #[x], argTypes := #[xt] }, ty, pos, af, g⟩ = some true) (hT : T xt = some i) (hk : i.kind = .slice) (hx : AS.ev ⟨sl, hp, nx⟩ x = some (.d (.sl es (xs.map enc))))
    (h : OpsK P T base ops dr l ⟨(t, .d (.int .i64 (xs.length : Int))) :: sl, hp, nx⟩ K) : OpsK P T base ops dr (⟨some t, .call { callee := .builtin .len, args := #[x], argTypes := #[xt] }, ty, pos, af, g⟩ :: l) ⟨sl, hp, nx⟩ K :=
  ok_lenl hg hT hk hx (by simp) h

/-- append onto a row of the machine's own. -/
theorem ok_ap {α : Type} {x y : Operand} {st0 xt : TypeId} {i j : TI} {n es len : Nat} {xs ys zs : List α} {enc : α → List DV} (yv : V) (hz : app i.ebytes xs ys = some zs) (hlen : len = xs.length) (hg : guardOk ops ⟨sl, hp, nx⟩ ⟨some t, .call { callee := .builtin .append, args := #[x, y], argTypes := #[st0, xt] }, ty, pos, af, g⟩ = some true)
    (hT : T st0 = some i) (hT2 : T xt = some j) (hx : AS.ev ⟨sl, hp, nx⟩ x = some (.hs n es 0 len)) (hy : AS.ev ⟨sl, hp, nx⟩ y = some yv) (hb : find hp n = some (.dat es (xs.map enc))) (hc : contsD ⟨sl, hp, nx⟩ yv = some (ys.map enc))
    (hk : i.kind = .slice) (hk2 : j.kind = .slice) (he : es = i.esize) (hf : esFit i.esize yv = true)
    (h : OpsK P T base ops dr l ⟨(t, .hs nx es 0 zs.length) :: sl, (nx, .dat es (zs.map enc)) :: repl hp n .dead, nx + 1⟩ K) (hF : okF dr l.length (fp ⟨sl, hp, nx⟩ (.call { callee := .builtin .append, args := #[x, y], argTypes := #[st0, xt] })) = true := by rfl) : OpsK P T base ops dr (⟨some t, .call { callee := .builtin .append, args := #[x, y], argTypes := #[st0, xt] }, ty, pos, af, g⟩ :: l) ⟨sl, hp, nx⟩ K := by
  subst hlen
  unfold app at hz
  split at hz
  · rename_i hr
    cases hz
    refine ok_app hg hT hT2 hx hy hb (by simp) hc hk hk2 he hf (by simpa [Nat.mul_assoc] using hr) ?_ hF
    simpa using h
  · cases hz
/-- append onto nil. -/
theorem ok_ap0 {α : Type} {x y : Operand} {st0 xt : TypeId} {i j : TI} {ys zs : List α} {enc : α → List DV} (yv : V) (hz : app i.ebytes [] ys = some zs) (hne : ys ≠ []) (hg : guardOk ops ⟨sl, hp, nx⟩ ⟨some t, .call { callee := .builtin .append, args := #[x, y], argTypes := #[st0, xt] }, ty, pos, af, g⟩ = some true)
    (hT : T st0 = some i) (hT2 : T xt = some j) (hx : AS.ev ⟨sl, hp, nx⟩ x = some (.d .nilsl)) (hy : AS.ev ⟨sl, hp, nx⟩ y = some yv) (hc : contsD ⟨sl, hp, nx⟩ yv = some (ys.map enc))
    (hk : i.kind = .slice) (hk2 : j.kind = .slice) (hf : esFit i.esize yv = true)
    (h : OpsK P T base ops dr l ⟨(t, .hs nx i.esize 0 zs.length) :: sl, (nx, .dat i.esize (zs.map enc)) :: hp, nx + 1⟩ K) (hF : okF dr l.length (fp ⟨sl, hp, nx⟩ (.call { callee := .builtin .append, args := #[x, y], argTypes := #[st0, xt] })) = true := by rfl) : OpsK P T base ops dr (⟨some t, .call { callee := .builtin .append, args := #[x, y], argTypes := #[st0, xt] }, ty, pos, af, g⟩ :: l) ⟨sl, hp, nx⟩ K := by
  unfold app at hz
  split at hz
  · rename_i hr
    cases hz
    refine ok_op hg (v := .hs nx i.esize 0 ys.length) (st1 := ⟨sl, (nx, .dat i.esize (ys.map enc)) :: hp, nx + 1⟩) ?_ (by simp at h; exact h) (okO_dat rfl hF)
    simp only [opFn, evL, hx, hy, builtinV]
    simp only [List.getElem?_toArray, List.getElem?_cons_zero, List.getElem?_cons_succ, hT, hT2]
    rw [if_pos ⟨hk, hk2, hf⟩]
    have hl : ys.length ≠ 0 := by simpa using hne
    simp only [appendV, hc]
    rw [if_pos (by simpa [Nat.mul_assoc, room] using hr), if_neg (by simpa using hl)]
    simp [AS.new]
  · cases hz
theorem conts_hs {α : Type} {n es len : Nat} {ys : List α} {enc : α → List DV} (hlen : len = ys.length) (hb : find hp n = some (.dat es (ys.map enc))) : contsD ⟨sl, hp, nx⟩ (.hs n es 0 len) = some (ys.map enc) := by
  subst hlen
  simp only [contsD, AS.blk, hb]
  rw [if_pos (by simp), List.drop_zero, List.take_of_length_le (by simp)]
theorem contsDsl {α : Type} {es : Nat} {ys : List α} {enc : α → List DV} : contsD ⟨sl, hp, nx⟩ (.d (.sl es (ys.map enc))) = some (ys.map enc) := rfl

/-- A part of frozen data. -/
theorem ok_slc {α : Type} {x : Operand} {xt : TypeId} {lo hi : Option Operand} {i : TI} {es : Nat} {a b : Int} {xs zs : List α} {enc : α → List DV} (hz : slc xs a b = some zs) (hg : guardOk ops ⟨sl, hp, nx⟩ ⟨some t, .slice xt x lo hi none, ty, pos, af, g⟩ = some true) (hT : T xt = some i) (hk : i.kind = .slice) (he : es = i.esize)
    (hx : AS.ev ⟨sl, hp, nx⟩ x = some (.d (.sl es (xs.map enc)))) (hlo : 0 ≤ a → bound ⟨sl, hp, nx⟩ 0 lo = some a.toNat) (hhi : 0 ≤ b → bound ⟨sl, hp, nx⟩ xs.length hi = some b.toNat)
    (h : OpsK P T base ops dr l ⟨(t, .d (.sl es (zs.map enc))) :: sl, hp, nx⟩ K) : OpsK P T base ops dr (⟨some t, .slice xt x lo hi none, ty, pos, af, g⟩ :: l) ⟨sl, hp, nx⟩ K := by
  unfold slc at hz
  split at hz
  · rename_i hr
    cases hz
    refine ok_op hg (v := .d (.sl es ((((xs.drop a.toNat).take (b.toNat - a.toNat))).map enc))) (st1 := ⟨sl, hp, nx⟩) ?_ h (okO_zero rfl)
    simp only [opFn, hT, hx, hk, lenV, List.length_map, hlo hr.1, hhi (by omega), sliceV]
    rw [if_pos ⟨trivial, rfl⟩]
    rw [if_pos ⟨by omega, by simp; omega, he⟩]
    simp [List.map_take, List.map_drop]
  · cases hz
theorem bound_v {o : Operand} {k : IntKind} {a : Int} {d : Nat} {st : AS} (h : st.ev o = some (.d (.int k a))) (h0 : 0 ≤ a) : bound st d (some o) = some a.toNat := by
  simp [bound, h, h0]

/-- A part of a row of the machine's own. -/
theorem ok_slh {x : Operand} {xt : TypeId} {lo hi : Option Operand} {i : TI} {n es len : Nat} {a b : Int} {w : Nat × Nat} (hz : sub2 len a b = some w) (hg : guardOk ops ⟨sl, hp, nx⟩ ⟨some t, .slice xt x lo hi none, ty, pos, af, g⟩ = some true) (hT : T xt = some i) (hk : i.kind = .slice) (he : es = i.esize)
    (hx : AS.ev ⟨sl, hp, nx⟩ x = some (.hs n es 0 len)) (hlo : 0 ≤ a → bound ⟨sl, hp, nx⟩ 0 lo = some a.toNat) (hhi : 0 ≤ b → bound ⟨sl, hp, nx⟩ len hi = some b.toNat)
    (h : OpsK P T base ops dr l ⟨(t, .hs n es w.1 w.2) :: sl, hp, nx⟩ K) : OpsK P T base ops dr (⟨some t, .slice xt x lo hi none, ty, pos, af, g⟩ :: l) ⟨sl, hp, nx⟩ K := by
  unfold sub2 at hz
  split at hz
  · rename_i hr
    cases hz
    refine ok_op hg (v := .hs n es a.toNat (b.toNat - a.toNat)) (st1 := ⟨sl, hp, nx⟩) ?_ h (okO_zero rfl)
    simp only [opFn, hT, hx, hk, lenV, hlo hr.1, hhi (by omega), sliceV]
    rw [if_pos ⟨trivial, rfl⟩]
    rw [if_pos ⟨by omega, by omega, he⟩]
    simp
  · cases hz
theorem sub2_some {n : Nat} {a b : Int} {w : Nat × Nat} (h : sub2 n a b = some w) : w.1 + w.2 ≤ n := by
  unfold sub2 at h
  split at h
  · cases h; simp only; omega
  · cases h
theorem splice_map {α β : Type} (f : α → β) (xs ys : List α) (j : Nat) : splice (xs.map f) j (ys.map f) = (splice xs j ys).map f := by
  simp [splice, List.map_take, List.map_drop]
/-- copy into a part of a row of the machine's own. -/
theorem ok_cpy {α : Type} {x y : Operand} {st0 xt : TypeId} {i j : TI} {n es : Nat} {w : Nat × Nat} {xs ys : List α} {enc : α → List DV} (yv : V) (hw : w.1 + w.2 ≤ xs.length) (hg : guardOk ops ⟨sl, hp, nx⟩ ⟨some t, .call { callee := .builtin .copy, args := #[x, y], argTypes := #[st0, xt] }, ty, pos, af, g⟩ = some true)
    (hT : T st0 = some i) (hT2 : T xt = some j) (hx : AS.ev ⟨sl, hp, nx⟩ x = some (.hs n es w.1 w.2)) (hy : AS.ev ⟨sl, hp, nx⟩ y = some yv) (hb : find hp n = some (.dat es (xs.map enc))) (hc : contsD ⟨sl, hp, nx⟩ yv = some (ys.map enc))
    (hk : i.kind = .slice) (hk2 : j.kind = .slice) (he : es = i.esize) (hf : esFit i.esize yv = true)
    (h : OpsK P T base ops dr l ⟨(t, .d (.int .i64 (min ys.length w.2 : Nat))) :: sl, repl hp n (.dat es ((cpyw xs w ys).map enc)), nx⟩ K) (hF : okO dr l.length ⟨sl, hp, nx⟩ (.call { callee := .builtin .copy, args := #[x, y], argTypes := #[st0, xt] }) ⟨sl, repl hp n (.dat es ((cpyw xs w ys).map enc)), nx⟩ = true := by rfl) : OpsK P T base ops dr (⟨some t, .call { callee := .builtin .copy, args := #[x, y], argTypes := #[st0, xt] }, ty, pos, af, g⟩ :: l) ⟨sl, hp, nx⟩ K := by
  refine ok_op hg (v := .d (.int .i64 (min ys.length w.2 : Nat))) (st1 := ⟨sl, repl hp n (.dat es ((cpyw xs w ys).map enc)), nx⟩) ?_ h hF
  simp only [opFn, evL, hx, hy, builtinV]
  simp only [List.getElem?_toArray, List.getElem?_cons_zero, List.getElem?_cons_succ, hT, hT2]
  rw [if_pos ⟨hk, hk2, by simp [esFit, he], hf⟩]
  simp only [copyV, AS.blk, hb, hc]
  rw [if_pos ⟨by simpa using hw, trivial⟩]
  simp only [List.length_map, cpyw, ← List.map_take, splice_map, AS.setBlk]
theorem conts_sub {α : Type} {n es : Nat} {w : Nat × Nat} {ys : List α} {enc : α → List DV} (hw : w.1 + w.2 ≤ ys.length) (hb : find hp n = some (.dat es (ys.map enc))) : contsD ⟨sl, hp, nx⟩ (.hs n es w.1 w.2) = some (((ys.drop w.1).take w.2).map enc) := by
  simp only [contsD, AS.blk, hb]
  rw [if_pos ⟨by simpa using hw, trivial⟩, List.map_take, List.map_drop]
theorem td_sub {α : Type} {k n es : Nat} {w : Nat × Nat} {ys : List α} {enc : α → List DV} (hw : w.1 + w.2 ≤ ys.length) (hb : find hp n = some (.dat es (ys.map enc))) : toD hp (k + 1) (.hs n es w.1 w.2) = some (.sl es (((ys.drop w.1).take w.2).map enc)) := by
  simp only [toD, hb]
  rw [if_pos ⟨by simpa using hw, trivial⟩, List.map_take, List.map_drop]

/-- A slice of zeros. -/
theorem ok_mks {α : Type} {c ln : Operand} {xt : TypeId} {i : TI} {k k' : IntKind} {n : Int} {z : α} {zs : List α} {enc : α → List DV} (hz : mks i.ebytes n z = some zs) (hg : guardOk ops ⟨sl, hp, nx⟩ ⟨some t, .makeSlice xt ln c, ty, pos, af, g⟩ = some true) (hT : T xt = some i) (hk : i.kind = .slice)
    (hx : AS.ev ⟨sl, hp, nx⟩ ln = some (.d (.int k n))) (hy : AS.ev ⟨sl, hp, nx⟩ c = some (.d (.int k' n))) (he : enc z = i.ezero)
    (h : OpsK P T base ops dr l ⟨(t, .hs nx i.esize 0 zs.length) :: sl, (nx, .dat i.esize (zs.map enc)) :: hp, nx + 1⟩ K) (hF : okF dr l.length (fp ⟨sl, hp, nx⟩ (.makeSlice xt ln c)) = true := by rfl) : OpsK P T base ops dr (⟨some t, .makeSlice xt ln c, ty, pos, af, g⟩ :: l) ⟨sl, hp, nx⟩ K := by
  unfold mks at hz
  split at hz
  · rename_i hr
    cases hz
    refine ok_op hg (v := .hs nx i.esize 0 n.toNat) (st1 := ⟨sl, (nx, .dat i.esize (List.replicate n.toNat i.ezero)) :: hp, nx + 1⟩) ?_ (by simp [he] at h; exact h) (okO_dat rfl hF)
    simp only [opFn, hT, hx, hy]
    rw [if_pos ⟨hk, hr.1, by omega, by have := hr.2; simpa [room] using this⟩]
    rfl
  · cases hz

/-- min and max. -/
theorem minI_min {k k' : IntKind} {a b : Int} {r : List V} : minI false (.d (.int k a)) (.d (.int k' b) :: r) = minI false (.d (.int k (min a b))) r := by
  simp only [minI]
  congr 3
  simp only [cond_false]
  split <;> omega
theorem minI_max {k k' : IntKind} {a b : Int} {r : List V} : minI true (.d (.int k a)) (.d (.int k' b) :: r) = minI true (.d (.int k (max a b))) r := by
  simp only [minI]
  congr 3
  simp only [cond_true]
  split <;> omega
theorem ok_min {xs : Array Operand} {ats : Array TypeId} {vs : List V} {k : IntKind} {a : Int} {r : Int} (hg : guardOk ops ⟨sl, hp, nx⟩ ⟨some t, .call { callee := .builtin .min, args := xs, argTypes := ats }, ty, pos, af, g⟩ = some true) (hx : evL (AS.ev ⟨sl, hp, nx⟩) xs.toList = some (.d (.int k a) :: vs)) (hr : minI false (.d (.int k a)) vs = some (.d (.int k r)))
    (h : OpsK P T base ops dr l ⟨(t, .d (.int k r)) :: sl, hp, nx⟩ K) : OpsK P T base ops dr (⟨some t, .call { callee := .builtin .min, args := xs, argTypes := ats }, ty, pos, af, g⟩ :: l) ⟨sl, hp, nx⟩ K :=
  ok_op hg (v := .d (.int k r)) (st1 := ⟨sl, hp, nx⟩) (by simp [opFn, hx, builtinV, hr]) h (okO_zero rfl)
theorem ok_max {xs : Array Operand} {ats : Array TypeId} {vs : List V} {k : IntKind} {a : Int} {r : Int} (hg : guardOk ops ⟨sl, hp, nx⟩ ⟨some t, .call { callee := .builtin .max, args := xs, argTypes := ats }, ty, pos, af, g⟩ = some true) (hx : evL (AS.ev ⟨sl, hp, nx⟩) xs.toList = some (.d (.int k a) :: vs)) (hr : minI true (.d (.int k a)) vs = some (.d (.int k r)))
    (h : OpsK P T base ops dr l ⟨(t, .d (.int k r)) :: sl, hp, nx⟩ K) : OpsK P T base ops dr (⟨some t, .call { callee := .builtin .max, args := xs, argTypes := ats }, ty, pos, af, g⟩ :: l) ⟨sl, hp, nx⟩ K :=
  ok_op hg (v := .d (.int k r)) (st1 := ⟨sl, hp, nx⟩) (by simp [opFn, hx, builtinV, hr]) h (okO_zero rfl)
/-- Division. -/
theorem ok_quo {x y : Operand} {xt yt : TypeId} {a b r : Int} (hr : quo64 a b = some r) (hg : guardOk ops ⟨sl, hp, nx⟩ ⟨some t, .binOp .quo xt x y yt, ty, pos, af, g⟩ = some true) (hx : AS.ev ⟨sl, hp, nx⟩ x = some (.d (.int .i64 a))) (hy : AS.ev ⟨sl, hp, nx⟩ y = some (.d (.int .i64 b)))
    (h : OpsK P T base ops dr l ⟨(t, .d (.int .i64 r)) :: sl, hp, nx⟩ K) : OpsK P T base ops dr (⟨some t, .binOp .quo xt x y yt, ty, pos, af, g⟩ :: l) ⟨sl, hp, nx⟩ K := by
  unfold quo64 at hr
  split at hr
  · cases hr
  · rename_i h0; cases hr
    exact ok_op hg (v := .d (.int .i64 (w64 (a.tdiv b)))) (st1 := ⟨sl, hp, nx⟩) (by simp [opFn, hx, hy, binD, binI, h0]; rfl) h (okO_zero rfl)
theorem ok_rem {x y : Operand} {xt yt : TypeId} {a b r : Int} (hr : rem64 a b = some r) (hg : guardOk ops ⟨sl, hp, nx⟩ ⟨some t, .binOp .rem xt x y yt, ty, pos, af, g⟩ = some true) (hx : AS.ev ⟨sl, hp, nx⟩ x = some (.d (.int .i64 a))) (hy : AS.ev ⟨sl, hp, nx⟩ y = some (.d (.int .i64 b)))
    (h : OpsK P T base ops dr l ⟨(t, .d (.int .i64 r)) :: sl, hp, nx⟩ K) : OpsK P T base ops dr (⟨some t, .binOp .rem xt x y yt, ty, pos, af, g⟩ :: l) ⟨sl, hp, nx⟩ K := by
  unfold rem64 at hr
  split at hr
  · cases hr
  · rename_i h0; cases hr
    exact ok_op hg (v := .d (.int .i64 (a.tmod b))) (st1 := ⟨sl, hp, nx⟩) (by simp [opFn, hx, hy, binD, binI, h0]) h (okO_zero rfl)

/-! ### Calls -/
theorem ok_pc {c : Call} {f : FuncId} {ds : List DV} {r : DV} (vs : List V) (hpu : Pure P T f ds r) (hg : guardOk ops ⟨sl, hp, nx⟩ ⟨some t, .call c, ty, pos, af, g⟩ = some true) (hc : callee ⟨sl, hp, nx⟩ c = some (f, vs)) (hd : allFrozen hp vs = some ds)
    (hs : (vs.all V.isD = true ∨ r.scalar = true)) (h : OpsK P T base ops dr l ⟨(t, .d r) :: sl, hp, nx⟩ K) (hF : okF dr l.length (fpC vs) = true := by rfl) : OpsK P T base ops dr (⟨some t, .call c, ty, pos, af, g⟩ :: l) ⟨sl, hp, nx⟩ K :=
  ok_callP hg rfl hc hd hs hpu h hF
theorem af_cons {hp : List (Nat × Blk)} {v : V} {d : DV} {vs : List V} {ds : List DV} (h : toD hp 8 v = some d) (h2 : allFrozen hp vs = some ds) : allFrozen hp (v :: vs) = some (d :: ds) := by
  simp [allFrozen, h, h2]
theorem td_hs {α : Type} {k n es len : Nat} {ys : List α} {enc : α → List DV} (hlen : len = ys.length) (hb : find hp n = some (.dat es (ys.map enc))) : toD hp (k + 1) (.hs n es 0 len) = some (.sl es (ys.map enc)) := by
  subst hlen
  simp only [toD, hb]
  rw [if_pos (by simp), List.drop_zero, List.take_of_length_le (by simp)]
theorem td_tup {k : Nat} {vs : List V} {ds : List DV} (h : mapM' (toD hp k) vs = some ds) : toD hp (k + 1) (.tup vs) = some (.tup ds) := by simp [toD, h]
theorem td_agg {k : Nat} {vs : List V} {ds : List DV} (h : mapM' (toD hp k) vs = some ds) : toD hp (k + 1) (.agg vs) = some (.agg ds) := by simp [toD, h]
theorem td_fn {k : Nat} {f : FuncId} {vs : List V} {ds : List DV} (h : mapM' (toD hp k) vs = some ds) : toD hp (k + 1) (.fn f vs) = some (.fn f ds) := by simp [toD, h]
theorem mm_cons {k : Nat} {v : V} {d : DV} {vs : List V} {ds : List DV} (h : toD hp k v = some d) (h2 : mapM' (toD hp k) vs = some ds) : mapM' (toD hp k) (v :: vs) = some (d :: ds) := by simp [mapM', h, h2]

inductive DLeL : List DV → List DV → Prop
  | nil : DLeL [] []
  | cons {x y : DV} {xs ys : List DV} : DLe x y → DLeL xs ys → DLeL (x :: xs) (y :: ys)
theorem DLeL.len {xs ys : List DV} (h : DLeL xs ys) : xs.length = ys.length := by
  induction h with
  | nil => rfl
  | cons _ _ ih => simp [ih]
theorem DLeL.get {xs ys : List DV} (h : DLeL xs ys) : ∀ (i : Nat) (x y : DV), xs[i]? = some x → ys[i]? = some y → DLe x y := by
  induction h with
  | nil => intro i x y h; simp at h
  | cons h1 _ ih =>
    intro i x y hx hy
    cases i with
    | zero => simp at hx hy; subst hx hy; exact h1
    | succ i => exact ih i x y (by simpa using hx) (by simpa using hy)
theorem dle_tup {xs ys : List DV} (h : DLeL xs ys) : DLe (.tup xs) (.tup ys) := .tup h.len h.get
theorem dle_agg {xs ys : List DV} (h : DLeL xs ys) : DLe (.agg xs) (.agg ys) := .agg h.len h.get

theorem finD {ex : Ex} {st : AS} {rs : List ResultVar} {v : V} {r r' : DV} (hx : ex = .nor ∨ ex = .ret) (hv : resV T st rs = some v) (ht : toD st.hp 8 v = some r') (he : DLe r' r) : (ex = .nor ∨ ex = .ret) ∧ ∃ v r', resV T st rs = some v ∧ toD st.hp 8 v = some r' ∧ DLe r' r :=
  ⟨hx, v, r', hv, ht, he⟩
end

/-! ### Forgetting: cells -/
theorem wv_frz {α : Type} {st : AS} {ρ : Nat → Nat} {fz ph : List Nat} {nx n es len : Nat} {ys : List α} {enc : α → List DV} (hl : len = ys.length) (hb : st.blk n = some (.dat es (ys.map enc))) (hn : n ∈ fz) : Wv st ρ fz ph nx (.hs n es 0 len) (.d (.sl es (ys.map enc))) := by
  subst hl
  exact .frz hb hn (by simp) (by rw [List.drop_zero, List.take_of_length_le (by simp)]) rfl
theorem wv_hsL {st : AS} {ρ : Nat → Nat} {fz ph : List Nat} {nx n m es o l l' : Nat} (hl : l = l') (h1 : ρ m = n) (h2 : m ∉ ph) (h3 : m < nx) : Wv st ρ fz ph nx (.hs n es o l) (.hs m es o l') := hl ▸ .hs h1 h2 h3
inductive WvC (st : AS) (ρ : Nat → Nat) (fz ph : List Nat) (nx : Nat) : List V → List V → Prop
  | nil : WvC st ρ fz ph nx [] []
  | cons {c d : V} {cs ds : List V} : Wv st ρ fz ph nx c d → vCell d = true → WvC st ρ fz ph nx cs ds → WvC st ρ fz ph nx (c :: cs) (d :: ds)
theorem WvC.len {st : AS} {ρ : Nat → Nat} {fz ph : List Nat} {nx : Nat} {cs ds : List V} (h : WvC st ρ fz ph nx cs ds) : cs.length = ds.length := by
  induction h with
  | nil => rfl
  | cons _ _ _ ih => simp [ih]
theorem WvC.get {st : AS} {ρ : Nat → Nat} {fz ph : List Nat} {nx : Nat} {cs ds : List V} (h : WvC st ρ fz ph nx cs ds) : ∀ (j : Nat) (c d : V), cs[j]? = some c → ds[j]? = some d → Wv st ρ fz ph nx c d ∧ vCell d = true := by
  induction h with
  | nil => intro i x y h; simp at h
  | cons h1 h2 _ ih =>
    intro i x y hx hy
    cases i with
    | zero => simp at hx hy; subst hx hy; exact ⟨h1, h2⟩
    | succ i => exact ih i x y (by simpa using hx) (by simpa using hy)
theorem wb_cel1 {st : AS} {ρ : Nat → Nat} {fz ph : List Nat} {nx es : Nat} {cs ds : List V} (h : WvC st ρ fz ph nx cs ds) : Wb st ρ fz ph nx (.cel es [cs]) (.cel es [ds]) := by
  refine .cel rfl fun i x y hx hy => ?_
  cases i with
  | zero => simp at hx hy; subst hx hy; exact ⟨h.len, h.get⟩
  | succ i => simp at hx
theorem wb_datcel1 {st : AS} {ρ : Nat → Nat} {fz ph : List Nat} {nx es : Nat} {cs : List DV} {ds : List V} (h : WvC st ρ fz ph nx (cs.map .d) ds) : Wb st ρ fz ph nx (.dat es [cs]) (.cel es [ds]) := by
  refine .datcel rfl fun i x y hx hy => ?_
  cases i with
  | zero =>
    simp at hx hy; subst hx hy
    exact ⟨by simpa using h.len, fun j c d hc hd => h.get j (.d c) d (by simp [hc]) hd⟩
  | succ i => simp at hx
inductive WvL (st : AS) (ρ : Nat → Nat) (fz ph : List Nat) (nx : Nat) : List V → List V → Prop
  | nil : WvL st ρ fz ph nx [] []
  | cons {c d : V} {cs ds : List V} : Wv st ρ fz ph nx c d → WvL st ρ fz ph nx cs ds → WvL st ρ fz ph nx (c :: cs) (d :: ds)
theorem WvL.len {st : AS} {ρ : Nat → Nat} {fz ph : List Nat} {nx : Nat} {cs ds : List V} (h : WvL st ρ fz ph nx cs ds) : cs.length = ds.length := by
  induction h with
  | nil => rfl
  | cons _ _ ih => simp [ih]
theorem WvL.get {st : AS} {ρ : Nat → Nat} {fz ph : List Nat} {nx : Nat} {cs ds : List V} (h : WvL st ρ fz ph nx cs ds) : ∀ (j : Nat) (c d : V), cs[j]? = some c → ds[j]? = some d → Wv st ρ fz ph nx c d := by
  induction h with
  | nil => intro i x y h; simp at h
  | cons h1 _ ih =>
    intro i x y hx hy
    cases i with
    | zero => simp at hx hy; subst hx hy; exact h1
    | succ i => exact ih i x y (by simpa using hx) (by simpa using hy)
theorem wv_fn {st : AS} {ρ : Nat → Nat} {fz ph : List Nat} {nx : Nat} {f : FuncId} {cs ds : List V} (h : WvL st ρ fz ph nx cs ds) : Wv st ρ fz ph nx (.fn f cs) (.fn f ds) := .fn h.len h.get
theorem wv_tup {st : AS} {ρ : Nat → Nat} {fz ph : List Nat} {nx : Nat} {cs ds : List V} (h : WvL st ρ fz ph nx cs ds) : Wv st ρ fz ph nx (.tup cs) (.tup ds) := .tup h.len h.get
theorem wv_agg {st : AS} {ρ : Nat → Nat} {fz ph : List Nat} {nx : Nat} {cs ds : List V} (h : WvL st ρ fz ph nx cs ds) : Wv st ρ fz ph nx (.agg cs) (.agg ds) := .agg h.len h.get

/-! ### nil handed in -/
theorem evcall_le {P : Program} {T : Tab} {f : FuncId} {ds ds' : List DV} (hl : DLeL ds' ds) {vs : List V} {hp hp' : List (Nat × Blk)} {nx nx' : Nat} {v : V} : EvCall P T f vs hp nx v hp' nx' → vs = ds.map .d → hp = [] → nx = 0 → EvCall P T f (ds'.map .d) [] 0 v hp' nx'
  | .wk e w, hv, hh, hn => by
    have h := evcall_le hl e hv hh hn
    subst hh hn
    exact .wk h w
  | .mk h1 h2 h3 h4 h5 h6 h7 h8, hv, hh, hn => by
    subst hv hh hn
    refine .mk h1 h2 h3 h4 (by simpa [hl.len] using h5) (.wk (ρ := fun n => n) (fz := []) (ph := []) ⟨?_, ?_, ?_, ?_, ?_, ?_, ?_, ?_⟩ h6) h7 h8
    · intro t v' hv
      simp only [AS.get, argSlots_get] at hv ⊢
      simp only [Nat.zero_le, if_true, Nat.sub_zero, List.getElem?_map, Option.map_eq_some_iff] at hv ⊢
      obtain ⟨y, hy, rfl⟩ := hv
      obtain ⟨x, hx⟩ := ex_get (xs := ds') (i := t) (by rw [hl.len]; exact lt_size hy)
      exact ⟨_, ⟨x, hx, rfl⟩, .d (hl.get t x y hx hy)⟩
    · intro n b h; simp [AS.blk, find] at h
    · intro n m b c h; simp [AS.blk, find] at h
    · intro n b h; simp [AS.blk, find] at h
    · intro n h; rfl
    · exact Nat.le_refl _
    · intro n h; cases h
    · intro n h; cases h
theorem pure_le {P : Program} {T : Tab} {f : FuncId} {ds ds' : List DV} {r : DV} (hl : DLeL ds' ds) (h : Pure P T f ds r) : Pure P T f ds' r := by
  obtain ⟨v, hp, nx, r', e, ht, hle⟩ := h
  exact ⟨v, hp, nx, r', evcall_le hl e rfl rfl rfl, ht, hle⟩
end Go.Am
