/- THE LAW SplitPoints, for every input: the call returns true, and the arguments read afterwards as they read before. No condition. -/
import Derived.Test.YtbfdjpffambpfaaPs6
import Derived.Test.YtbfdjpffambpfaaWSplitPoints
import Derived.Test.YtbfdjpffambpfaaLf2
import Derived.ProofKit
namespace Go.Proofs.Ytbfdjpffambpfaa
open Go Go.Am Go.Sh
open Go.ChangeShapes Go.WideShapes Go.ChangeAt Go.RowKit

theorem Try.own : ownKnob Try.prog.godebug = none := by kernel_rfl
theorem Try.laidOut : laidOutB Try.prog = true := by kernel_rfl

theorem row_3 {x : List DV} (h : RowTy [.int .i64] x) : ∃ a : Int, x = (eI .i64) a ∧ (I64 a) := by
  obtain ⟨d0, r0, rfl, h0, g0⟩ := rowTy_cons h
  obtain rfl := rowTy_nil g0
  obtain ⟨a0, rfl, w0⟩ := ty_int h0
  exact ⟨a0, rfl, wf_i64 w0⟩

theorem splitPoints_pure (xs : List DV) (h : ArgsTy [(false, [.sl [.int .i64]]), (false, [.int .i64])] xs) : Pure Try.prog tab 9 xs (.bool true) := by
  obtain ⟨d0, r0, rfl, h0, h⟩ := args_one h
  obtain ⟨d1, r1, rfl, h1, h⟩ := args_one h
  obtain rfl := args_nil h
  obtain ⟨p0, s0, w0, l0⟩ := ty_sl (enc := (eI .i64)) (fun _ => row_3) h0
  obtain ⟨p1, rfl, w1⟩ := ty_int h1
  replace w1 : I64 p1 := wf_i64 w1
  exact pure_le (.cons s0 (.cons (.refl _) .nil)) (l23_SplitPoints_ok p0 p1 true (splitPoints p0 p1))

set_option maxRecDepth 100000 in
theorem splitPoints_lifted (os : Os) (started : os.Started) (H : Type) (enc : TypeId × Value → H) :
    ReturnsInHanded {} Try.checked os 9 .any (Rows.splitPointsSpec.pre6 enc Try.prog Try.f9 Rows.splitPointsRow.domain false) (Rows.splitPointsSpec.post enc Try.prog Try.f9 false true false false) := by
  refine returnsInHanded_of_change (C := Try.checked) Try.own started (by kernel_rfl) Try.func9
    (ChangeSpec.witness6 (enc := enc) (C := Try.checked) false ⟨#[], #[.slice none 0 0, .int .i64 0], []⟩ 8 (by kernel_rfl) (by kernel_rfl) (by kernel_rfl) (by kernel_rfl)) ?_
  intro W base args ds gs before hval0 hW hcnd _
  have hread : (Try.f9.params.toList.all fun t => Try.prog.readableRec t && decide (t < Try.prog.types.size)) = true := by kernel_rfl
  have hps : Try.f9.params.toList.map (fun t => (aggT Try.prog t, tyL Try.prog 8 t)) = ([(false, [.sl [.int .i64]]), (false, [.int .i64])] : List (Bool × List CT)).map (fun x => (x.1, some x.2)) := by kernel_rfl
  refine contract (P := Try.prog) (f := Try.f9) (F := 9) (s := Rows.splitPointsSpec) (tb := 4) (fuel := 8) (base := base) tabOk mixed Try.laidOut rfl (by kernel_rfl) (by kernel_rfl) (fun t ht => ?_) hps (fun ds hd => ?_) splitPoints_pure hval0 hW
  · have := List.all_eq_true.1 hread t ht
    simpa using this
  · have hd : ds.length = 2 := hd
    match ds, hd with
    | [a0, a1], _ => rfl

theorem splitPoints_holds : Rows.SplitPointsSaid :=
  OpenClaim.holds_of_wide 9 Try.f9 rfl rfl rfl rfl rfl rfl rfl ⟨rfl, rfl, rfl, rfl, rfl⟩ rfl rfl rfl rfl rfl (by kernel_rfl) Try.func9 (by kernel_rfl)
    (of_decide_eq_true (by kernel_rfl)) (by unfold Func.isWrapper; first | (rw [if_pos (by decide +kernel)]; kernel_rfl) | (rw [if_neg (by decide +kernel)]; exact ⟨rfl, rfl⟩))
    (fun os started H enc _ => splitPoints_lifted os started H enc)
end Go.Proofs.Ytbfdjpffambpfaa
