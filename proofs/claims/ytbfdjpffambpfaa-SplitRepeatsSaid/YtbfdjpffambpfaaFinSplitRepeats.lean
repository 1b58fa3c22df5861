/- THE LAW SplitRepeats, for every input: the call returns true, and the arguments read afterwards as they read before. No condition. -/
import Derived.Test.YtbfdjpffambpfaaPs6
import Derived.Test.YtbfdjpffambpfaaWSplitRepeats
import Derived.Test.YtbfdjpffambpfaaLf2
import Derived.ProofKit
namespace Go.Proofs.Ytbfdjpffambpfaa
open Go Go.Am Go.Sh
open Go.ChangeShapes Go.WideShapes Go.ChangeAt Go.RowKit

theorem Try.own : ownKnob Try.prog.godebug = none := by kernel_rfl
theorem Try.laidOut : laidOutB Try.prog = true := by kernel_rfl


theorem splitRepeats_pure (xs : List DV) (h : ArgsTy [(false, [.int .i64]), (false, [.int .i64])] xs) : Pure Try.prog tab 8 xs (.bool true) := by
  obtain ⟨d0, r0, rfl, h0, h⟩ := args_one h
  obtain ⟨d1, r1, rfl, h1, h⟩ := args_one h
  obtain rfl := args_nil h
  obtain ⟨p0, rfl, w0⟩ := ty_int h0
  replace w0 : I64 p0 := wf_i64 w0
  obtain ⟨p1, rfl, w1⟩ := ty_int h1
  replace w1 : I64 p1 := wf_i64 w1
  exact pure_le (.cons (.refl _) (.cons (.refl _) .nil)) (l23_SplitRepeats_ok p0 p1 true (splitRepeats p0 p1))

set_option maxRecDepth 100000 in
theorem splitRepeats_lifted (os : Os) (started : os.Started) (H : Type) (enc : TypeId × Value → H) :
    ReturnsInHanded {} Try.checked os 8 .any (Rows.splitRepeatsSpec.pre6 enc Try.prog Try.f8 Rows.splitRepeatsRow.domain false) (Rows.splitRepeatsSpec.post enc Try.prog Try.f8 false true false false) := by
  refine returnsInHanded_of_change (C := Try.checked) Try.own started (by kernel_rfl) Try.func8
    (ChangeSpec.witness6 (enc := enc) (C := Try.checked) false ⟨#[], #[.int .i64 0, .int .i64 0], []⟩ 8 (by kernel_rfl) (by kernel_rfl) (by kernel_rfl) (by kernel_rfl)) ?_
  intro W base args ds gs before hval0 hW hcnd _
  have hread : (Try.f8.params.toList.all fun t => Try.prog.readableRec t && decide (t < Try.prog.types.size)) = true := by kernel_rfl
  have hps : Try.f8.params.toList.map (fun t => (aggT Try.prog t, tyL Try.prog 8 t)) = ([(false, [.int .i64]), (false, [.int .i64])] : List (Bool × List CT)).map (fun x => (x.1, some x.2)) := by kernel_rfl
  refine contract (P := Try.prog) (f := Try.f8) (F := 8) (s := Rows.splitRepeatsSpec) (tb := 4) (fuel := 8) (base := base) tabOk mixed Try.laidOut rfl (by kernel_rfl) (by kernel_rfl) (fun t ht => ?_) hps (fun ds hd => ?_) splitRepeats_pure hval0 hW
  · have := List.all_eq_true.1 hread t ht
    simpa using this
  · have hd : ds.length = 2 := hd
    match ds, hd with
    | [a0, a1], _ => rfl

theorem splitRepeats_holds : Rows.SplitRepeatsSaid :=
  OpenClaim.holds_of_wide 8 Try.f8 rfl rfl rfl rfl rfl rfl rfl ⟨rfl, rfl, rfl, rfl, rfl⟩ rfl rfl rfl rfl rfl (by kernel_rfl) Try.func8 (by kernel_rfl)
    (of_decide_eq_true (by kernel_rfl)) (by unfold Func.isWrapper; first | (rw [if_pos (by decide +kernel)]; kernel_rfl) | (rw [if_neg (by decide +kernel)]; exact ⟨rfl, rfl⟩))
    (fun os started H enc _ => splitRepeats_lifted os started H enc)
end Go.Proofs.Ytbfdjpffambpfaa
