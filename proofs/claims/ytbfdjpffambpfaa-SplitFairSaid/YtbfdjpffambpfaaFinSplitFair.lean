/- THE LAW SplitFair, for every input: the call returns true, and the arguments read afterwards as they read before. No condition. -/
import Derived.Test.YtbfdjpffambpfaaPs6
import Derived.Test.YtbfdjpffambpfaaWSplitFair
import Derived.Test.YtbfdjpffambpfaaLf2
import Derived.ProofKit
namespace Go.Proofs.Ytbfdjpffambpfaa
open Go Go.Am Go.Sh
open Go.ChangeShapes Go.WideShapes Go.ChangeAt Go.RowKit

theorem Try.own : ownKnob Try.prog.godebug = none := by kernel_rfl
theorem Try.laidOut : laidOutB Try.prog = true := by kernel_rfl

theorem row_3 {x : List DV} (h : RowTy [.int .i64] x) : ∃ a : Int, x = (eI .i64) a ∧ (I64 a) := by
  obtain ⟨d0, r0, rfl, h0, g0⟩ := rowTy_cons h
  obtain rfl := rowTy_nil g0
  obtain ⟨a0, rfl, w0⟩ := ty_int h0
  exact ⟨a0, rfl, wf_i64 w0⟩

theorem splitFair_pure (xs : List DV) (h : ArgsTy [(false, [.int .i64]), (false, [.sl [.int .i64]])] xs) : Pure Try.prog tab 7 xs (.bool true) := by
  obtain ⟨d0, r0, rfl, h0, h⟩ := args_one h
  obtain ⟨d1, r1, rfl, h1, h⟩ := args_one h
  obtain rfl := args_nil h
  obtain ⟨p0, rfl, w0⟩ := ty_int h0
  replace w0 : I64 p0 := wf_i64 w0
  obtain ⟨p1, s1, w1, l1⟩ := ty_sl (enc := (eI .i64)) (fun _ => row_3) h1
  exact pure_le (.cons (.refl _) (.cons s1 .nil)) (l23_SplitFair_ok p0 p1 true (splitFair p0 p1))

set_option maxRecDepth 100000 in
theorem splitFair_lifted (os : Os) (started : os.Started) (H : Type) (enc : TypeId × Value → H) :
    ReturnsInHanded {} Try.checked os 7 .any (Rows.splitFairSpec.pre6 enc Try.prog Try.f7 Rows.splitFairRow.domain false) (Rows.splitFairSpec.post enc Try.prog Try.f7 false true false false) := by
  refine returnsInHanded_of_change (C := Try.checked) Try.own started (by kernel_rfl) Try.func7
    (ChangeSpec.witness6 (enc := enc) (C := Try.checked) false ⟨#[], #[.int .i64 0, .slice none 0 0], []⟩ 8 (by kernel_rfl) (by kernel_rfl) (by kernel_rfl) (by kernel_rfl)) ?_
  intro W base args ds gs before hval0 hW hcnd _
  have hread : (Try.f7.params.toList.all fun t => Try.prog.readableRec t && decide (t < Try.prog.types.size)) = true := by kernel_rfl
  have hps : Try.f7.params.toList.map (fun t => (aggT Try.prog t, tyL Try.prog 8 t)) = ([(false, [.int .i64]), (false, [.sl [.int .i64]])] : List (Bool × List CT)).map (fun x => (x.1, some x.2)) := by kernel_rfl
  refine contract (P := Try.prog) (f := Try.f7) (F := 7) (s := Rows.splitFairSpec) (tb := 4) (fuel := 8) (base := base) tabOk mixed Try.laidOut rfl (by kernel_rfl) (by kernel_rfl) (fun t ht => ?_) hps (fun ds hd => ?_) splitFair_pure hval0 hW
  · have := List.all_eq_true.1 hread t ht
    simpa using this
  · have hd : ds.length = 2 := hd
    match ds, hd with
    | [a0, a1], _ => rfl

theorem splitFair_holds : Rows.SplitFairSaid :=
  OpenClaim.holds_of_wide 7 Try.f7 rfl rfl rfl rfl rfl rfl rfl ⟨rfl, rfl, rfl, rfl, rfl⟩ rfl rfl rfl rfl rfl (by kernel_rfl) Try.func7 (by kernel_rfl)
    (of_decide_eq_true (by kernel_rfl)) (by unfold Func.isWrapper; first | (rw [if_pos (by decide +kernel)]; kernel_rfl) | (rw [if_neg (by decide +kernel)]; exact ⟨rfl, rfl⟩))
    (fun os started H enc _ => splitFair_lifted os started H enc)
end Go.Proofs.Ytbfdjpffambpfaa
