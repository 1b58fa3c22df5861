/- THE LAW SplitNames, for every input: the call returns true, and the arguments read afterwards as they read before. No condition. -/
import Derived.Test.YtbfdjpffambpfaaPs7
import Derived.Test.YtbfdjpffambpfaaWSplitNames
import Derived.Test.YtbfdjpffambpfaaLf2
import Derived.ProofKit
namespace Go.Proofs.Ytbfdjpffambpfaa
open Go Go.Am Go.Sh
open Go.ChangeShapes Go.WideShapes Go.ChangeAt Go.RowKit

theorem Try.own : ownKnob Try.prog.godebug = none := by kernel_rfl
theorem Try.laidOut : laidOutB Try.prog = true := by kernel_rfl


theorem splitNames_pure (xs : List DV) (h : ArgsTy [] xs) : Pure Try.prog tab 10 xs (.bool true) := by
  obtain rfl := args_nil h
  exact pure_le .nil (l23_SplitNames_ok  true (splitNames))

set_option maxRecDepth 100000 in
theorem splitNames_lifted (os : Os) (started : os.Started) (H : Type) (enc : TypeId × Value → H) :
    ReturnsInHanded {} Try.checked os 10 .any (Rows.splitNamesSpec.pre6 enc Try.prog Try.f10 Rows.splitNamesRow.domain false) (Rows.splitNamesSpec.post enc Try.prog Try.f10 false true false false) := by
  refine returnsInHanded_of_change (C := Try.checked) Try.own started (by kernel_rfl) Try.func10
    (ChangeSpec.witness6 (enc := enc) (C := Try.checked) false ⟨#[], #[], []⟩ 8 (by kernel_rfl) (by kernel_rfl) (by kernel_rfl) (by kernel_rfl)) ?_
  intro W base args ds gs before hval0 hW hcnd _
  have hread : (Try.f10.params.toList.all fun t => Try.prog.readableRec t && decide (t < Try.prog.types.size)) = true := by kernel_rfl
  have hps : Try.f10.params.toList.map (fun t => (aggT Try.prog t, tyL Try.prog 8 t)) = ([] : List (Bool × List CT)).map (fun x => (x.1, some x.2)) := by kernel_rfl
  refine contract (P := Try.prog) (f := Try.f10) (F := 10) (s := Rows.splitNamesSpec) (tb := 4) (fuel := 8) (base := base) tabOk mixed Try.laidOut rfl (by kernel_rfl) (by kernel_rfl) (fun t ht => ?_) hps (fun ds hd => ?_) splitNames_pure hval0 hW
  · have := List.all_eq_true.1 hread t ht
    simpa using this
  · have hd : ds.length = 0 := hd
    match ds, hd with
    | [], _ => rfl

theorem splitNames_holds : Rows.SplitNamesSaid :=
  OpenClaim.holds_of_wide 10 Try.f10 rfl rfl rfl rfl rfl rfl rfl ⟨rfl, rfl, rfl, rfl, rfl⟩ rfl rfl rfl rfl rfl (by kernel_rfl) Try.func10 (by kernel_rfl)
    (of_decide_eq_true (by kernel_rfl)) (by unfold Func.isWrapper; first | (rw [if_pos (by decide +kernel)]; kernel_rfl) | (rw [if_neg (by decide +kernel)]; exact ⟨rfl, rfl⟩))
    (fun os started H enc _ => splitNames_lifted os started H enc)
end Go.Proofs.Ytbfdjpffambpfaa
