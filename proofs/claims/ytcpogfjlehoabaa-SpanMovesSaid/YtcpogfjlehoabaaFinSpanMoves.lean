/- THE LAW SpanMoves of gambrellaw11, for every list of spans and every two integers: the call returns true, and the arguments read afterwards as they read before. No condition. -/
import Derived.Test.YtcpogfjlehoabaaPl4
import Derived.Test.YtcpogfjlehoabaaWspan
import Derived.Test.YtcpogfjlehoabaaLf2
import Derived.ProofKit
namespace Go.Proofs.Ytcpogfjlehoabaa
open Go Go.Am Go.Sh
open Go.ChangeShapes Go.WideShapes Go.ChangeAt Go.RowKit

theorem Try.own : ownKnob Try.prog.godebug = none := by kernel_rfl
theorem Try.laidOut : laidOutB Try.prog = true := by kernel_rfl

theorem row_span {x : List DV} (h : RowTy [.int .i64, .int .i64] x) : ∃ a : api_Span, x = enc_api_Span a ∧ (I64 a.Lo ∧ I64 a.Hi) := by
  obtain ⟨d1, r1, rfl, h1, h2⟩ := rowTy_cons h
  obtain ⟨d2, r2, rfl, h3, h4⟩ := rowTy_cons h2
  obtain rfl := rowTy_nil h4
  obtain ⟨a, rfl, wa⟩ := ty_int h1
  obtain ⟨b, rfl, wb⟩ := ty_int h3
  exact ⟨⟨a, b⟩, rfl, wf_i64 wa, wf_i64 wb⟩

theorem spanMoves_pure (xs : List DV) (h : ArgsTy [(false, [.sl [.int .i64, .int .i64]]), (false, [.int .i64]), (false, [.int .i64])] xs) : Pure Try.prog tab 3 xs (.bool true) := by
  obtain ⟨d1, r1, rfl, h1, h⟩ := args_one h
  obtain ⟨d2, r2, rfl, h2, h⟩ := args_one h
  obtain ⟨d3, r3, rfl, h3, h⟩ := args_one h
  obtain rfl := args_nil h
  obtain ⟨s, hs, ws, _⟩ := ty_sl (enc := enc_api_Span) (fun _ => row_span) h1
  obtain ⟨a, rfl, wa⟩ := ty_int h2
  obtain ⟨b, rfl, wb⟩ := ty_int h3
  exact pure_le (.cons hs (.cons (.refl _) (.cons (.refl _) .nil))) (l11_SpanMoves_ok s a b true (spanMoves s a b))

set_option maxRecDepth 100000 in
theorem spanMoves_lifted (os : Os) (started : os.Started) (H : Type) (enc : TypeId × Value → H) :
    ReturnsInHanded {} Try.checked os 3 .any (Rows.spanMovesSpec.pre6 enc Try.prog Try.f3 Rows.spanMovesRow.domain false) (Rows.spanMovesSpec.post enc Try.prog Try.f3 false true false false) := by
  refine returnsInHanded_of_change (C := Try.checked) Try.own started (by kernel_rfl) Try.func3
    (ChangeSpec.witness6 (enc := enc) (C := Try.checked) false ⟨#[], #[.slice none 0 0, .int .i64 0, .int .i64 0], []⟩ 8 (by kernel_rfl) (by kernel_rfl) (by kernel_rfl) (by kernel_rfl)) ?_
  intro W base args ds gs before hval0 hW hcnd _
  have hread : (Try.f3.params.toList.all fun t => Try.prog.readableRec t && decide (t < Try.prog.types.size)) = true := by kernel_rfl
  have hps : Try.f3.params.toList.map (fun t => (aggT Try.prog t, tyL Try.prog 8 t)) = [(false, [CT.sl [.int .i64, .int .i64]]), (false, [.int .i64]), (false, [.int .i64])].map (fun x => (x.1, some x.2)) := by kernel_rfl
  refine contract (P := Try.prog) (f := Try.f3) (F := 3) (s := Rows.spanMovesSpec) (tb := 4) (fuel := 8) (base := base) tabOk mixed Try.laidOut rfl (by kernel_rfl) (by kernel_rfl) (fun t ht => ?_) hps (fun ds hd => ?_) spanMoves_pure hval0 hW
  · have := List.all_eq_true.1 hread t ht
    simpa using this
  · have hd : ds.length = 3 := hd
    match ds, hd with
    | [a, b, c], _ => rfl

theorem spanMoves_holds : Rows.SpanMovesSaid :=
  OpenClaim.holds_of_wide 3 Try.f3 rfl rfl rfl rfl rfl rfl rfl ⟨rfl, rfl, rfl, rfl, rfl⟩ rfl rfl rfl rfl rfl (by kernel_rfl) Try.func3 (by kernel_rfl)
    (of_decide_eq_true (by kernel_rfl)) (by unfold Func.isWrapper; first | (rw [if_pos (by decide +kernel)]; kernel_rfl) | (rw [if_neg (by decide +kernel)]; exact ⟨rfl, rfl⟩))
    (fun os started H enc _ => spanMoves_lifted os started H enc)
end Go.Proofs.Ytcpogfjlehoabaa
