/- LIFTING (4): functions that write into what they are handed. -/
import Derived.Test.YtlchefooafpdlaaLf3
namespace Go.Am
open Go

theorem wk_mk {base : Nat} {st st' : AS} (l : List (Nat × Nat)) (fz ph : List Nat) (hok : wkOk base l fz ph st'.hp st'.nx = true) (hs : WkL st (rho l) fz ph st'.nx st'.sl) (hh : WkH st (rho l) fz ph st'.nx st'.hp) : Wk base (rho l) fz ph st st' := by
  simp only [wkOk, Bool.and_eq_true, Nat.ble_eq, List.all_eq_true] at hok
  obtain ⟨⟨⟨⟨h1, h2⟩, h3⟩, h5⟩, h4⟩ := hok
  refine ⟨?_, ?_, ?_, ?_, ?_, h1, ?_, ?_⟩
  · exact fun t v' h => hs.get (find_mem h)
  · exact fun n b' h => hh.get (find_mem h)
  · intro n m b c hn hm hpn hpm he
    have := h4 _ (find_mem hn)
    simp only [Bool.or_eq_true, Bool.and_eq_true, memN_iff, List.all_eq_true, Bool.not_eq_true'] at this
    rcases this with h | h
    · exact absurd h hpn
    · have := h.2 _ (find_mem hm)
      rcases this with (h' | h') | h'
      · exact absurd h' hpm
      · rw [he] at h'; simp at h'
      · exact Nat.eq_of_beq_eq_true h'
  · intro n b hn hpn hc
    have := h4 _ (find_mem hn)
    simp only [Bool.or_eq_true, Bool.and_eq_true, memN_iff, Bool.not_eq_true'] at this
    rcases this with h | h
    · exact absurd h hpn
    · rw [memN_iff.2 hc] at h; exact absurd h.1 (by simp)
  · intro n hn
    unfold rho
    split
    · rename_i m hm
      have := h2 _ (find_mem hm)
      simp at this; omega
    · rfl
  · exact fun n hn => h3 n hn
  · exact fun n hn => h5 n hn

def backOk (l l3 : List (Nat × Nat)) (k k' nx nxN : Nat) : Bool :=
  (List.range k).all (fun i => Nat.blt (rho l i) nx && Nat.beq (rho l3 (rho l i)) i) && (List.range nx).all (fun m => (Nat.blt (rho l3 m) k && Nat.beq (rho l (rho l3 m)) m) || Nat.ble k' (rho l3 m)) && Nat.ble nx nxN
def OldL (l : List (Nat × Nat)) (k : Nat) (hp hpR : List (Nat × Blk)) : List (Nat × Blk) → Prop
  | [] => True
  | (m, b) :: r => (find hpR m = some b ∨ (find hp m = some b ∧ (List.range k).all (fun i => !(Nat.beq (rho l i) m)) = true)) ∧ OldL l k hp hpR r
theorem OldL.get {l : List (Nat × Nat)} {k : Nat} {hp hpR : List (Nat × Blk)} : ∀ {r : List (Nat × Blk)}, OldL l k hp hpR r → ∀ m b, (m, b) ∈ r → find hpR m = some b ∨ (find hp m = some b ∧ ∀ i, i < k → rho l i ≠ m)
  | [], _, m, b, h => by cases h
  | (m', b') :: r, h, m, b, hm => by
    rcases List.mem_cons.1 hm with e | hm
    · cases e
      refine h.1.imp (fun x => x) fun ⟨h1, h2⟩ => ⟨h1, fun i hi e => ?_⟩
      have := List.all_eq_true.1 h2 i (List.mem_range.2 hi)
      rw [e] at this; simp at this
    · exact OldL.get h.2 m b hm

section
variable {P : Program} {T : Tab} {base : Nat} {ops : Array Oper} {l : List Oper} {sl : List (Nat × V)} {hp : List (Nat × Blk)} {nx : Nat} {K : AS → Prop} {ty : TypeId} {pos : String} {af : Array Edge} {dst : Option Tmp} {g : Option (Nat × Bool)}
/-- A call of a function that sees some blocks. -/
theorem ok_callF {c : Call} {f : FuncId} {vs' : List V} {hp0 hpR : List (Nat × Blk)} {k nR : Nat} {vR : V} (l1 l3 : List (Nat × Nat)) (vs : List V) (vN : V) (hpRn hpN : List (Nat × Blk)) (nxN : Nat) (he : EvCall P T f vs' hp0 k vR hpR nR) (hg : guardOk ops ⟨sl, hp, nx⟩ ⟨dst, .call c, ty, pos, af, g⟩ = some true) (hc : callee ⟨sl, hp, nx⟩ c = some (f, vs)) (hlen : vs.length = vs'.length)
    (hw1 : Wk 0 (rho l1) [] [] ⟨argSlots 0 vs, hp, nx⟩ ⟨argSlots 0 vs', hp0, k⟩) (hw3 : Wk 0 (rho l3) [] [] ⟨[(0, vR)], hpR, nR⟩ ⟨[(0, vN)], hpRn, nxN⟩) (hb : backOk l1 l3 k nR nx nxN = true) (hold : OldL l1 k hp hpRn hpN)
    (h : OpsK P T base ops none l ((⟨sl, hpN, nxN⟩ : AS).putD dst vN) K) : OpsK P T base ops none (⟨dst, .call c, ty, pos, af, g⟩ :: l) ⟨sl, hp, nx⟩ K := by
  obtain ⟨st2, e2, k2⟩ := h
  refine ⟨st2, .callF hg rfl hc hlen hw1 he hw3 ⟨?_, ?_, ?_, ?_, ?_⟩ e2, k2⟩
  · intro i hi
    simp only [backOk, Bool.and_eq_true, List.all_eq_true, List.mem_range] at hb
    have := hb.1.1 i hi
    exact ⟨by simpa [Nat.blt_eq] using this.1, Nat.eq_of_beq_eq_true this.2⟩
  · intro m hm
    simp only [backOk, Bool.and_eq_true, List.all_eq_true, List.mem_range, Bool.or_eq_true] at hb
    rcases hb.1.2 m hm with h1 | h1
    · exact .inl ⟨by simpa [Nat.blt_eq] using h1.1, Nat.eq_of_beq_eq_true h1.2⟩
    · exact .inr (by simpa using h1)
  · intro m hm; cases hm
  · exact fun m b h1 => hold.get m b (find_mem h1)
  · simp only [backOk, Bool.and_eq_true] at hb
    simpa using hb.2
end
/-- A call's contract out of the body's run. -/
theorem eff_of_run {P : Program} {T : Tab} {f : FuncId} {fn : Func} {c : Code} {vs : List V} {hp hpR : List (Nat × Blk)} {nx nR : Nat} {vR : V} (hf : P.funcs[f]? = some fn) (hb : fn.body = some c) (hname : (fn.name == "runtime.NumGoroutine") = false) (hok : codeOk fn.ntmps c = true) (hl : Nat.ble vs.length fn.ntmps = true)
    (h : RunK P T nx [c] ⟨argSlots 0 vs, hp, nx⟩ (fun ex st => (ex = .nor ∨ ex = .ret) ∧ ∃ v, resV T st fn.results.toList = some v ∧ WkE nx ⟨[(0, v)], st.hp, st.nx⟩ ⟨[(0, vR)], hpR, nR⟩)) : EvCall P T f vs hp nx vR hpR nR := by
  obtain ⟨ex, st', e, hx, v, hv, ρ, fz, ph, w⟩ := ck_of_run h
  exact .wk (.mk hf hb hname hok (by simpa using hl) e hx hv) w
def shlK (k : IntKind) (x y : Int) : Option Int := if y < 0 then none else some (k.wrap (x * 2 ^ (min y.toNat k.bits)))
def shrK (k : IntKind) (x y : Int) : Option Int := if y < 0 then none else some (x.fdiv (2 ^ (min y.toNat k.bits)))
section
variable {P : Program} {T : Tab} {base : Nat} {ops : Array Oper} {dr : Dr} {l : List Oper} {sl : List (Nat × V)} {hp : List (Nat × Blk)} {nx : Nat} {K : AS → Prop} {ty : TypeId} {pos : String} {af : Array Edge} {t : Tmp} {g : Option (Nat × Bool)}
theorem ok_shlK {x y : Operand} {xt yt : TypeId} {a b r : Int} {k k' : IntKind} (hr : shlK k a b = some r) (hg : guardOk ops ⟨sl, hp, nx⟩ ⟨some t, .binOp .shl xt x y yt, ty, pos, af, g⟩ = some true) (hx : AS.ev ⟨sl, hp, nx⟩ x = some (.d (.int k a))) (hy : AS.ev ⟨sl, hp, nx⟩ y = some (.d (.int k' b)))
    (h : OpsK P T base ops dr l ⟨(t, .d (.int k r)) :: sl, hp, nx⟩ K) : OpsK P T base ops dr (⟨some t, .binOp .shl xt x y yt, ty, pos, af, g⟩ :: l) ⟨sl, hp, nx⟩ K := by
  unfold shlK at hr
  split at hr
  · cases hr
  · rename_i h0; cases hr
    exact ok_op hg (v := .d (.int k (k.wrap (a * 2 ^ (min b.toNat k.bits))))) (st1 := ⟨sl, hp, nx⟩) (by simp [opFn, hx, hy, binD, shiftI, h0]) h (okO_zero rfl)
theorem ok_shrK {x y : Operand} {xt yt : TypeId} {a b r : Int} {k k' : IntKind} (hr : shrK k a b = some r) (hg : guardOk ops ⟨sl, hp, nx⟩ ⟨some t, .binOp .shr xt x y yt, ty, pos, af, g⟩ = some true) (hx : AS.ev ⟨sl, hp, nx⟩ x = some (.d (.int k a))) (hy : AS.ev ⟨sl, hp, nx⟩ y = some (.d (.int k' b)))
    (h : OpsK P T base ops dr l ⟨(t, .d (.int k r)) :: sl, hp, nx⟩ K) : OpsK P T base ops dr (⟨some t, .binOp .shr xt x y yt, ty, pos, af, g⟩ :: l) ⟨sl, hp, nx⟩ K := by
  unfold shrK at hr
  split at hr
  · cases hr
  · rename_i h0; cases hr
    exact ok_op hg (v := .d (.int k (a.fdiv (2 ^ (min b.toNat k.bits))))) (st1 := ⟨sl, hp, nx⟩) (by simp [opFn, hx, hy, binD, shiftI, h0]) h (okO_zero rfl)
end
/-- Two lengths that must be the same. -/
def lenEq (n m : Nat) : Option Unit := if n = m then some () else none
theorem lenEq_some {n m : Nat} {u : Unit} (h : lenEq n m = some u) : n = m := by
  unfold lenEq at h
  split at h
  · assumption
  · cases h
/-- A byte of a string. -/
def strIdx (s : ByteArray) (i : Int) : Option Int := (if 0 ≤ i then s[i.toNat]? else none).map fun b => (b.toNat : Int)
theorem ok_ixS {P : Program} {T : Tab} {base : Nat} {ops : Array Oper} {dr : Dr} {l : List Oper} {sl : List (Nat × V)} {hp : List (Nat × Blk)} {nx : Nat} {K : AS → Prop} {ty : TypeId} {pos : String} {af : Array Edge} {t : Tmp} {g : Option (Nat × Bool)} {x y : Operand} {xt : TypeId} {i : TI} {k : IntKind} {n v : Int} (s : ByteArray) (hv : strIdx s n = some v) (hg : guardOk ops ⟨sl, hp, nx⟩ ⟨some t, .index xt x y, ty, pos, af, g⟩ = some true) (hT : T xt = some i)
    (hx : AS.ev ⟨sl, hp, nx⟩ x = some (.d (.str s))) (hy : AS.ev ⟨sl, hp, nx⟩ y = some (.d (.int k n))) (hk : i.kind = .str)
    (h : OpsK P T base ops dr l ⟨(t, .d (.int .u8 v)) :: sl, hp, nx⟩ K) : OpsK P T base ops dr (⟨some t, .index xt x y, ty, pos, af, g⟩ :: l) ⟨sl, hp, nx⟩ K := by
  unfold strIdx at hv
  rw [Option.map_eq_some_iff] at hv
  obtain ⟨b, hb, rfl⟩ := hv
  refine ok_op hg (v := .d (.int .u8 b.toNat)) (st1 := ⟨sl, hp, nx⟩) ?_ h (okO_zero rfl)
  simp only [opFn, hT, hx, hy, hk, hb, Option.map_some]
open Classical in
/-- What a function with fuel comes to. -/
noncomputable def lim {α : Type} (f : Nat → Option α) : Option α := if h : ∃ r n, f n = some r then some h.choose else none
theorem lim_some {α : Type} {f : Nat → Option α} {r : α} (h : lim f = some r) : ∃ n, f n = some r := by
  unfold lim at h
  split at h
  · rename_i hh; cases h; exact hh.choose_spec
  · cases h
theorem lim_ex {α : Type} {f : Nat → Option α} {n : Nat} {r : α} (h : f n = some r) : ∃ r', lim f = some r' := by
  unfold lim
  rw [dif_pos ⟨r, n, h⟩]
  exact ⟨_, rfl⟩
/-! ### A whole array out of its elements -/
def arr2 {α : Type} (xs : List α) : Option (α × α) := match xs with
  | [a0, a1] => some (a0, a1)
  | _ => none
theorem arr2_flat {α : Type} {xs : List α} {v : α × α} {enc : α → List DV} (h : arr2 xs = some v) : xs.flatMap enc = enc v.1 ++ (enc v.2) := by
  unfold arr2 at h
  split at h
  · cases h; simp
  · cases h
theorem arr2_of {α : Type} {a0 a1 : α} : arr2 [a0, a1] = some (a0, a1) := rfl
def arr3 {α : Type} (xs : List α) : Option (α × α × α) := match xs with
  | [a0, a1, a2] => some (a0, a1, a2)
  | _ => none
theorem arr3_flat {α : Type} {xs : List α} {v : α × α × α} {enc : α → List DV} (h : arr3 xs = some v) : xs.flatMap enc = enc v.1 ++ (enc v.2.1 ++ (enc v.2.2)) := by
  unfold arr3 at h
  split at h
  · cases h; simp
  · cases h
theorem arr3_of {α : Type} {a0 a1 a2 : α} : arr3 [a0, a1, a2] = some (a0, a1, a2) := rfl
def arr4 {α : Type} (xs : List α) : Option (α × α × α × α) := match xs with
  | [a0, a1, a2, a3] => some (a0, a1, a2, a3)
  | _ => none
theorem arr4_flat {α : Type} {xs : List α} {v : α × α × α × α} {enc : α → List DV} (h : arr4 xs = some v) : xs.flatMap enc = enc v.1 ++ (enc v.2.1 ++ (enc v.2.2.1 ++ (enc v.2.2.2))) := by
  unfold arr4 at h
  split at h
  · cases h; simp
  · cases h
theorem arr4_of {α : Type} {a0 a1 a2 a3 : α} : arr4 [a0, a1, a2, a3] = some (a0, a1, a2, a3) := rfl
def arr5 {α : Type} (xs : List α) : Option (α × α × α × α × α) := match xs with
  | [a0, a1, a2, a3, a4] => some (a0, a1, a2, a3, a4)
  | _ => none
theorem arr5_flat {α : Type} {xs : List α} {v : α × α × α × α × α} {enc : α → List DV} (h : arr5 xs = some v) : xs.flatMap enc = enc v.1 ++ (enc v.2.1 ++ (enc v.2.2.1 ++ (enc v.2.2.2.1 ++ (enc v.2.2.2.2)))) := by
  unfold arr5 at h
  split at h
  · cases h; simp
  · cases h
theorem arr5_of {α : Type} {a0 a1 a2 a3 a4 : α} : arr5 [a0, a1, a2, a3, a4] = some (a0, a1, a2, a3, a4) := rfl
def arr6 {α : Type} (xs : List α) : Option (α × α × α × α × α × α) := match xs with
  | [a0, a1, a2, a3, a4, a5] => some (a0, a1, a2, a3, a4, a5)
  | _ => none
theorem arr6_flat {α : Type} {xs : List α} {v : α × α × α × α × α × α} {enc : α → List DV} (h : arr6 xs = some v) : xs.flatMap enc = enc v.1 ++ (enc v.2.1 ++ (enc v.2.2.1 ++ (enc v.2.2.2.1 ++ (enc v.2.2.2.2.1 ++ (enc v.2.2.2.2.2))))) := by
  unfold arr6 at h
  split at h
  · cases h; simp
  · cases h
theorem arr6_of {α : Type} {a0 a1 a2 a3 a4 a5 : α} : arr6 [a0, a1, a2, a3, a4, a5] = some (a0, a1, a2, a3, a4, a5) := rfl
def arr7 {α : Type} (xs : List α) : Option (α × α × α × α × α × α × α) := match xs with
  | [a0, a1, a2, a3, a4, a5, a6] => some (a0, a1, a2, a3, a4, a5, a6)
  | _ => none
theorem arr7_flat {α : Type} {xs : List α} {v : α × α × α × α × α × α × α} {enc : α → List DV} (h : arr7 xs = some v) : xs.flatMap enc = enc v.1 ++ (enc v.2.1 ++ (enc v.2.2.1 ++ (enc v.2.2.2.1 ++ (enc v.2.2.2.2.1 ++ (enc v.2.2.2.2.2.1 ++ (enc v.2.2.2.2.2.2)))))) := by
  unfold arr7 at h
  split at h
  · cases h; simp
  · cases h
theorem arr7_of {α : Type} {a0 a1 a2 a3 a4 a5 a6 : α} : arr7 [a0, a1, a2, a3, a4, a5, a6] = some (a0, a1, a2, a3, a4, a5, a6) := rfl
def arr8 {α : Type} (xs : List α) : Option (α × α × α × α × α × α × α × α) := match xs with
  | [a0, a1, a2, a3, a4, a5, a6, a7] => some (a0, a1, a2, a3, a4, a5, a6, a7)
  | _ => none
theorem arr8_flat {α : Type} {xs : List α} {v : α × α × α × α × α × α × α × α} {enc : α → List DV} (h : arr8 xs = some v) : xs.flatMap enc = enc v.1 ++ (enc v.2.1 ++ (enc v.2.2.1 ++ (enc v.2.2.2.1 ++ (enc v.2.2.2.2.1 ++ (enc v.2.2.2.2.2.1 ++ (enc v.2.2.2.2.2.2.1 ++ (enc v.2.2.2.2.2.2.2))))))) := by
  unfold arr8 at h
  split at h
  · cases h; simp
  · cases h
theorem arr8_of {α : Type} {a0 a1 a2 a3 a4 a5 a6 a7 : α} : arr8 [a0, a1, a2, a3, a4, a5, a6, a7] = some (a0, a1, a2, a3, a4, a5, a6, a7) := rfl
section
variable {P : Program} {T : Tab} {base : Nat} {ops : Array Oper} {dr : Dr} {l : List Oper} {sl : List (Nat × V)} {hp : List (Nat × Blk)} {nx : Nat} {K : AS → Prop} {ty : TypeId} {pos : String} {af : Array Edge} {t : Tmp} {g : Option (Nat × Bool)}
theorem ok_ldW {α : Type} {p : Operand} {xt : TypeId} {i : TI} {m es : Nat} {xs : List α} {enc : α → List DV} {cs : List DV} (w : V) (hfl : xs.flatMap enc = cs) (hg : guardOk ops ⟨sl, hp, nx⟩ ⟨some t, .load xt p, ty, pos, af, g⟩ = some true) (hT : T xt = some i)
    (hx : AS.ev ⟨sl, hp, nx⟩ p = some (.ref m es 0 0)) (hb : find hp m = some (.dat es [xs.flatMap enc])) (hs : i.size = cs.length) (hw : (packD i.agg cs).map .d = some w)
    (h : OpsK P T base ops dr l ⟨(t, w) :: sl, hp, nx⟩ K) (hF : okF dr l.length (fp ⟨sl, hp, nx⟩ (.load xt p)) = true := by rfl) : OpsK P T base ops dr (⟨some t, .load xt p, ty, pos, af, g⟩ :: l) ⟨sl, hp, nx⟩ K := by
  rw [hfl] at hb
  exact ok_ldh hg hT hx hb rfl (by rw [hs]; exact sub_all) hw h hF
end
end Go.Am
