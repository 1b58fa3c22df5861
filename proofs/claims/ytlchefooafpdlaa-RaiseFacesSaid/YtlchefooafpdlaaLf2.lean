/- LIFTING (2): what typed arguments are, as plain data. -/
import Derived.Test.YtlchefooafpdlaaLf1
namespace Go.Am
open Go

theorem ty_int {k : IntKind} {d : DV} (h : Ty (.int k) d) : ∃ n : Int, d = .int k n ∧ (Lit.int k n).wf = true := by
  cases h with | int hw => exact ⟨_, rfl, hw⟩
theorem ty_bool {d : DV} (h : Ty .bool d) : ∃ b : Bool, d = .bool b := by
  cases h with | bool b => exact ⟨b, rfl⟩
/-- A row of typed cells. -/
def RowTy (l : List CT) (x : List DV) : Prop := x.length = l.length ∧ ∀ (j : Nat) (c : CT) (d : DV), l[j]? = some c → x[j]? = some d → Ty c d
theorem rowTy_nil {x : List DV} (h : RowTy [] x) : x = [] := List.length_eq_zero_iff.1 h.1
theorem rowTy_cons {c : CT} {l : List CT} {x : List DV} (h : RowTy (c :: l) x) : ∃ d r, x = d :: r ∧ Ty c d ∧ RowTy l r := by
  obtain ⟨h1, h2⟩ := h
  cases x with
  | nil => simp at h1
  | cons d r => exact ⟨d, r, rfl, h2 0 c d rfl rfl, by simpa using h1, fun j c' d' hc hd => h2 (j + 1) c' d' (by simpa using hc) (by simpa using hd)⟩
theorem ty_sl {α : Type} {l : List CT} {enc : α → List DV} {wf : α → Prop} (row : ∀ x, RowTy l x → ∃ a, x = enc a ∧ wf a) {d : DV} (h : Ty (.sl l) d) : ∃ xs : List α, DLe d (.sl l.length (xs.map enc)) ∧ (∀ x ∈ xs, wf x) ∧ xs.length ≤ maxLen := by
  cases h with
  | nil => exact ⟨[], .nil _, by simp, by simp⟩
  | @sl _ xs hl h1 h2 =>
    have key : ∀ ys : List (List DV), (∀ y ∈ ys, RowTy l y) → ∃ zs : List α, ys = zs.map enc ∧ ∀ z ∈ zs, wf z := by
      intro ys
      induction ys with
      | nil => intro _; exact ⟨[], rfl, by simp⟩
      | cons y ys ih =>
        intro hy
        obtain ⟨a, rfl, ha⟩ := row y (hy y (by simp))
        obtain ⟨zs, rfl, hz⟩ := ih fun z hz => hy z (by simp [hz])
        exact ⟨a :: zs, rfl, by simpa using ⟨ha, hz⟩⟩
    obtain ⟨zs, rfl, hz⟩ := key xs fun y hy => by
      obtain ⟨i, hi⟩ := List.getElem?_of_mem hy
      exact ⟨h1 i y hi, fun j c d hc hd => h2 i y j c d hi hc hd⟩
    exact ⟨zs, .refl _, hz, by simpa using hl⟩
theorem wf_i64 {n : Int} (h : (Lit.int .i64 n).wf = true) : -9223372036854775808 ≤ n ∧ n ≤ 9223372036854775807 := by
  simp [Lit.wf, IntKind.min, IntKind.max, IntKind.signed, IntKind.bits] at h
  omega
theorem args_nil {xs : List DV} (h : ArgsTy [] xs) : xs = [] := by cases h; rfl
theorem args_one {c : CT} {ps : List (Bool × List CT)} {xs : List DV} (h : ArgsTy ((false, [c]) :: ps) xs) : ∃ d r, xs = d :: r ∧ Ty c d ∧ ArgsTy ps r := by
  cases h with | one h1 h2 => exact ⟨_, _, rfl, h1, h2⟩
theorem args_agg {l : List CT} {ps : List (Bool × List CT)} {xs : List DV} (h : ArgsTy ((true, l) :: ps) xs) : ∃ x r, xs = .agg x :: r ∧ RowTy l x ∧ ArgsTy ps r := by
  cases h with | agg h1 h2 h3 => exact ⟨_, _, rfl, ⟨h1, h2⟩, h3⟩
end Go.Am
