/- THE LAW SplitWhole, for every input: the call returns true, and the arguments read afterwards as they read before. No condition. -/
import Derived.Test.YtbfdjpffambpfaaPs5
import Derived.Test.YtbfdjpffambpfaaWSplitWhole
import Derived.Test.YtbfdjpffambpfaaLf2
import Derived.ProofKit
namespace Go.Proofs.Ytbfdjpffambpfaa
open Go Go.Am Go.Sh
open Go.ChangeShapes Go.WideShapes Go.ChangeAt Go.RowKit

theorem Try.own : ownKnob Try.prog.godebug = none := by kernel_rfl
theorem Try.laidOut : laidOutB Try.prog = true := by kernel_rfl

theorem row_60 {x : List DV} (h : RowTy [.int .u8, .int .i64, .int .i64, .int .i64] x) : ∃ a : api_Part, x = enc_api_Part a ∧ ((Lit.int .u8 a.Kind).wf = true ∧ I64 a.Size ∧ (I64 a.Share.Num ∧ I64 a.Share.Den)) := by
  obtain ⟨d0, r0, rfl, h0, g0⟩ := rowTy_cons h
  obtain ⟨d1, r1, rfl, h1, g1⟩ := rowTy_cons g0
  obtain ⟨d2, r2, rfl, h2, g2⟩ := rowTy_cons g1
  obtain ⟨d3, r3, rfl, h3, g3⟩ := rowTy_cons g2
  obtain rfl := rowTy_nil g3
  obtain ⟨a0, rfl, w0⟩ := ty_int h0
  obtain ⟨a1, rfl, w1⟩ := ty_int h1
  obtain ⟨a2, rfl, w2⟩ := ty_int h2
  obtain ⟨a3, rfl, w3⟩ := ty_int h3
  exact ⟨⟨a0, a1, ⟨a2, a3⟩⟩, rfl, ⟨w0, wf_i64 w1, ⟨wf_i64 w2, wf_i64 w3⟩⟩⟩

theorem splitWhole_pure (xs : List DV) (h : ArgsTy [(false, [.int .i64]), (false, [.sl [.int .u8, .int .i64, .int .i64, .int .i64]])] xs) : Pure Try.prog tab 6 xs (.bool true) := by
  obtain ⟨d0, r0, rfl, h0, h⟩ := args_one h
  obtain ⟨d1, r1, rfl, h1, h⟩ := args_one h
  obtain rfl := args_nil h
  obtain ⟨p0, rfl, w0⟩ := ty_int h0
  replace w0 : I64 p0 := wf_i64 w0
  obtain ⟨p1, s1, w1, l1⟩ := ty_sl (enc := enc_api_Part) (fun _ => row_60) h1
  exact pure_le (.cons (.refl _) (.cons s1 .nil)) (l23_SplitWhole_ok p0 p1 true (splitWhole p0 p1 (fun p hp => (w1 p hp).2)))

set_option maxRecDepth 100000 in
theorem splitWhole_lifted (os : Os) (started : os.Started) (H : Type) (enc : TypeId × Value → H) :
    ReturnsInHanded {} Try.checked os 6 .any (Rows.splitWholeSpec.pre6 enc Try.prog Try.f6 Rows.splitWholeRow.domain false) (Rows.splitWholeSpec.post enc Try.prog Try.f6 false true false false) := by
  refine returnsInHanded_of_change (C := Try.checked) Try.own started (by kernel_rfl) Try.func6
    (ChangeSpec.witness6 (enc := enc) (C := Try.checked) false ⟨#[], #[.int .i64 0, .slice none 0 0], []⟩ 8 (by kernel_rfl) (by kernel_rfl) (by kernel_rfl) (by kernel_rfl)) ?_
  intro W base args ds gs before hval0 hW hcnd _
  have hread : (Try.f6.params.toList.all fun t => Try.prog.readableRec t && decide (t < Try.prog.types.size)) = true := by kernel_rfl
  have hps : Try.f6.params.toList.map (fun t => (aggT Try.prog t, tyL Try.prog 8 t)) = ([(false, [.int .i64]), (false, [.sl [.int .u8, .int .i64, .int .i64, .int .i64]])] : List (Bool × List CT)).map (fun x => (x.1, some x.2)) := by kernel_rfl
  refine contract (P := Try.prog) (f := Try.f6) (F := 6) (s := Rows.splitWholeSpec) (tb := 4) (fuel := 8) (base := base) tabOk mixed Try.laidOut rfl (by kernel_rfl) (by kernel_rfl) (fun t ht => ?_) hps (fun ds hd => ?_) splitWhole_pure hval0 hW
  · have := List.all_eq_true.1 hread t ht
    simpa using this
  · have hd : ds.length = 2 := hd
    match ds, hd with
    | [a0, a1], _ => rfl

theorem splitWhole_holds : Rows.SplitWholeSaid :=
  OpenClaim.holds_of_wide 6 Try.f6 rfl rfl rfl rfl rfl rfl rfl ⟨rfl, rfl, rfl, rfl, rfl⟩ rfl rfl rfl rfl rfl (by kernel_rfl) Try.func6 (by kernel_rfl)
    (of_decide_eq_true (by kernel_rfl)) (by unfold Func.isWrapper; first | (rw [if_pos (by decide +kernel)]; kernel_rfl) | (rw [if_neg (by decide +kernel)]; exact ⟨rfl, rfl⟩))
    (fun os started H enc _ => splitWhole_lifted os started H enc)
end Go.Proofs.Ytbfdjpffambpfaa
