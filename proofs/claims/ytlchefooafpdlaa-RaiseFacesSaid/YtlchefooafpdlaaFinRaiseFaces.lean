/- THE LAW RaiseFaces, for every input: the call returns true, and the arguments read afterwards as they read before. No condition. -/
import Derived.Test.YtlchefooafpdlaaPr1
import Derived.Test.YtlchefooafpdlaaWRaiseFaces
import Derived.Test.YtlchefooafpdlaaLf2
import Derived.ProofKit
namespace Go.Proofs.Ytlchefooafpdlaa
open Go Go.Am Go.Sh
open Go.ChangeShapes Go.WideShapes Go.ChangeAt Go.RowKit

theorem Try.own : ownKnob Try.prog.godebug = none := by kernel_rfl
theorem Try.laidOut : laidOutB Try.prog = true := by kernel_rfl

theorem row_27 {x : List DV} (h : RowTy [.int .u8, .int .i64, .int .i64, .int .i64, .int .i64, .int .i64, .int .i64] x) : ∃ a : api_Scope, x = enc_api_Scope a ∧ (((Lit.int .u8 a.Frame.Turn).wf = true ∧ (I64 a.Frame.At.X ∧ I64 a.Frame.At.Y ∧ I64 a.Frame.At.Z)) ∧ (I64 a.Size.X ∧ I64 a.Size.Y ∧ I64 a.Size.Z)) := by
  obtain ⟨d0, r0, rfl, h0, g0⟩ := rowTy_cons h
  obtain ⟨d1, r1, rfl, h1, g1⟩ := rowTy_cons g0
  obtain ⟨d2, r2, rfl, h2, g2⟩ := rowTy_cons g1
  obtain ⟨d3, r3, rfl, h3, g3⟩ := rowTy_cons g2
  obtain ⟨d4, r4, rfl, h4, g4⟩ := rowTy_cons g3
  obtain ⟨d5, r5, rfl, h5, g5⟩ := rowTy_cons g4
  obtain ⟨d6, r6, rfl, h6, g6⟩ := rowTy_cons g5
  obtain rfl := rowTy_nil g6
  obtain ⟨a0, rfl, w0⟩ := ty_int h0
  obtain ⟨a1, rfl, w1⟩ := ty_int h1
  obtain ⟨a2, rfl, w2⟩ := ty_int h2
  obtain ⟨a3, rfl, w3⟩ := ty_int h3
  obtain ⟨a4, rfl, w4⟩ := ty_int h4
  obtain ⟨a5, rfl, w5⟩ := ty_int h5
  obtain ⟨a6, rfl, w6⟩ := ty_int h6
  exact ⟨⟨⟨a0, ⟨a1, a2, a3⟩⟩, ⟨a4, a5, a6⟩⟩, rfl, ⟨⟨w0, ⟨wf_i64 w1, wf_i64 w2, wf_i64 w3⟩⟩, ⟨wf_i64 w4, wf_i64 w5, wf_i64 w6⟩⟩⟩

theorem raiseFaces_pure (xs : List DV) (h : ArgsTy [(true, [.int .u8, .int .i64, .int .i64, .int .i64, .int .i64, .int .i64, .int .i64]), (false, [.int .i64])] xs) : Pure Try.prog tab 3 xs (.bool true) := by
  obtain ⟨d0, r0, rfl, h0, h⟩ := args_agg h
  obtain ⟨d1, r1, rfl, h1, h⟩ := args_one h
  obtain rfl := args_nil h
  obtain ⟨p0, rfl, w0⟩ := row_27 h0
  obtain ⟨p1, rfl, w1⟩ := ty_int h1
  replace w1 : I64 p1 := wf_i64 w1
  exact pure_le (.cons (.refl _) (.cons (.refl _) .nil)) (l20_RaiseFaces_ok p0 p1 true (raiseFaces p0 p1 (u8_nonneg w0.1.1)))

set_option maxRecDepth 100000 in
theorem raiseFaces_lifted (os : Os) (started : os.Started) (H : Type) (enc : TypeId × Value → H) :
    ReturnsInHanded {} Try.checked os 3 .any (Rows.raiseFacesSpec.pre6 enc Try.prog Try.f3 Rows.raiseFacesRow.domain false) (Rows.raiseFacesSpec.post enc Try.prog Try.f3 false true false false) := by
  refine returnsInHanded_of_change (C := Try.checked) Try.own started (by kernel_rfl) Try.func3
    (ChangeSpec.witness6 (enc := enc) (C := Try.checked) false ⟨#[], #[.agg #[.int .u8 0, .int .i64 0, .int .i64 0, .int .i64 0, .int .i64 0, .int .i64 0, .int .i64 0], .int .i64 0], []⟩ 8 (by kernel_rfl) (by kernel_rfl) (by kernel_rfl) (by kernel_rfl)) ?_
  intro W base args ds gs before hval0 hW hcnd _
  have hread : (Try.f3.params.toList.all fun t => Try.prog.readableRec t && decide (t < Try.prog.types.size)) = true := by kernel_rfl
  have hps : Try.f3.params.toList.map (fun t => (aggT Try.prog t, tyL Try.prog 8 t)) = ([(true, [.int .u8, .int .i64, .int .i64, .int .i64, .int .i64, .int .i64, .int .i64]), (false, [.int .i64])] : List (Bool × List CT)).map (fun x => (x.1, some x.2)) := by kernel_rfl
  refine contract (P := Try.prog) (f := Try.f3) (F := 3) (s := Rows.raiseFacesSpec) (tb := 4) (fuel := 8) (base := base) tabOk mixed Try.laidOut rfl (by kernel_rfl) (by kernel_rfl) (fun t ht => ?_) hps (fun ds hd => ?_) raiseFaces_pure hval0 hW
  · have := List.all_eq_true.1 hread t ht
    simpa using this
  · have hd : ds.length = 2 := hd
    match ds, hd with
    | [a0, a1], _ => rfl

theorem raiseFaces_holds : Rows.RaiseFacesSaid :=
  OpenClaim.holds_of_wide 3 Try.f3 rfl rfl rfl rfl rfl rfl rfl ⟨rfl, rfl, rfl, rfl, rfl⟩ rfl rfl rfl rfl rfl (by kernel_rfl) Try.func3 (by kernel_rfl)
    (of_decide_eq_true (by kernel_rfl)) (by unfold Func.isWrapper; first | (rw [if_pos (by decide +kernel)]; kernel_rfl) | (rw [if_neg (by decide +kernel)]; exact ⟨rfl, rfl⟩))
    (fun os started H enc _ => raiseFaces_lifted os started H enc)
end Go.Proofs.Ytlchefooafpdlaa
