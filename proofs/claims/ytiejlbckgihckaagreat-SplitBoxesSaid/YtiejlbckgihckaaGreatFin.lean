/- FinSplitBoxes -/
import Derived.Test.YtiejlbckgihckaaGreatK19
import Derived.ProofKit
namespace Go.Proofs.YtiejlbckgihckaaGreat
open Go Go.Am Go.Sh
open Go.ChangeShapes Go.WideShapes Go.ChangeAt Go.RowKit
theorem Tryz.own : ownKnob Tryz.prog.godebug = none:=by kernel_rfl
theorem Tryz.laidOut : laidOutB Tryz.prog = true:=by kernel_rfl
theorem q12d {x : List DV} (h : q4p [.int .u8,.int .i64,.int .i64,.int .i64,.int .i64,.int .i64,.int .i64] x) : ∃ a : Kb,x = J3 a∧(((Lit.int .u8 a.Frame.Turn).wf = true∧(I64 a.Frame.At.X∧I64 a.Frame.At.Y∧I64 a.Frame.At.Z))∧(I64 a.Size.X∧I64 a.Size.Y∧I64 a.Size.Z)):=by
  obtain ⟨d0,r0,rfl,h0,g0⟩:=q122 h
  obtain ⟨d1,r1,rfl,h1,g1⟩:=q122 g0
  obtain ⟨d2,r2,rfl,h2,g2⟩:=q122 g1
  obtain ⟨d3,r3,rfl,h3,g3⟩:=q122 g2
  obtain ⟨d4,r4,rfl,h4,g4⟩:=q122 g3
  obtain ⟨d5,r5,rfl,h5,g5⟩:=q122 g4
  obtain ⟨d6,r6,rfl,h6,g6⟩:=q122 g5
  obtain rfl:=q123 g6
  obtain ⟨a0,rfl,w0⟩:=q127 h0
  obtain ⟨a1,rfl,w1⟩:=q127 h1
  obtain ⟨a2,rfl,w2⟩:=q127 h2
  obtain ⟨a3,rfl,w3⟩:=q127 h3
  obtain ⟨a4,rfl,w4⟩:=q127 h4
  obtain ⟨a5,rfl,w5⟩:=q127 h5
  obtain ⟨a6,rfl,w6⟩:=q127 h6
  exact ⟨⟨⟨a0,⟨a1,a2,a3⟩⟩,⟨a4,a5,a6⟩⟩,rfl,⟨⟨w0,⟨q12a w1,q12a w2,q12a w3⟩⟩,⟨q12a w4,q12a w5,q12a w6⟩⟩⟩
theorem q12e {x : List DV} (h : q4p [.int .i64] x) : ∃ a : Int,x = (eI .i64) a∧(I64 a):=by
  obtain ⟨d0,r0,rfl,h0,g0⟩:=q122 h
  obtain rfl:=q123 g0
  obtain ⟨a0,rfl,w0⟩:=q127 h0
  exact ⟨a0,rfl,q12a w0⟩
theorem q12c (xs : List DV) (h : Jp [(true,[.int .u8,.int .i64,.int .i64,.int .i64,.int .i64,.int .i64,.int .i64]),(false,[.int .i64]),(false,[.sl [.int .i64]])] xs) : Pure Tryz.prog tab 5 xs (.bool true):=by
  obtain ⟨d0,r0,rfl,h0,h⟩:=q11w h
  obtain ⟨d1,r1,rfl,h1,h⟩:=q11y h
  obtain ⟨d2,r2,rfl,h2,h⟩:=q11y h
  obtain rfl:=q11x h
  obtain ⟨p0,rfl,w0⟩:=q12d h0
  obtain ⟨p1,rfl,w1⟩:=q127 h1
  replace w1 : I64 p1:=q12a w1
  obtain ⟨p2,s2,w2,l2⟩:=q128 (enc:=(eI .i64)) (fun _=>q12e) h2
  exact qtt (.cons (.refl _) (.cons (.refl _) (.cons s2 .nil))) (q120 p0 p1 p2 true (q125 p0 p1 p2 (q129 w0.1.1) w2))
set_option maxRecDepth 100000 in
theorem q12b (os : Os) (started : os.Started) (H : Type) (enc : TypeId × Value→H) :
    ReturnsInHanded {} Tryz.checked os 5 .any (Rows.splitBoxesSpec.pre6 enc Tryz.prog Tryz.f5 Rows.splitBoxesRow.domain false) (Rows.splitBoxesSpec.post enc Tryz.prog Tryz.f5 false true false false):=by
  refine returnsInHanded_of_change (C:=Tryz.checked) Tryz.own started (by kernel_rfl) Tryz.func5
    (ChangeSpec.witness6 (enc:=enc) (C:=Tryz.checked) false ⟨#[],#[.agg #[.int .u8 0,.int .i64 0,.int .i64 0,.int .i64 0,.int .i64 0,.int .i64 0,.int .i64 0],.int .i64 0,.slice none 0 0],[]⟩ 8 (by kernel_rfl) (by kernel_rfl) (by kernel_rfl) (by kernel_rfl)) ?_
  intro W base args ds gs before hval0 hW hcnd _
  have hread : (Tryz.f5.params.toList.all fun t=>Tryz.prog.readableRec t && decide (t < Tryz.prog.types.size)) = true:=by kernel_rfl
  have hps : Tryz.f5.params.toList.map (fun t=>(aggT Tryz.prog t,tyL Tryz.prog 8 t)) = ([(true,[.int .u8,.int .i64,.int .i64,.int .i64,.int .i64,.int .i64,.int .i64]),(false,[.int .i64]),(false,[.sl [.int .i64]])] : List (Bool × List CT)).map (fun x=>(x.1,some x.2)):=by kernel_rfl
  refine contract (P:=Tryz.prog) (f:=Tryz.f5) (F:=5) (s:=Rows.splitBoxesSpec) (tb:=4) (fuel:=8) (base:=base) q126 mixed Tryz.laidOut rfl (by kernel_rfl) (by kernel_rfl) (fun t ht=>?_) hps (fun ds hd=>?_) q12c hval0 hW
  · have:=List.all_eq_true.1 hread t ht
    simpa using this
  · have hd : ds.length = 3:=hd
    match ds,hd with
    | [a0,a1,a2],_=>rfl
theorem splitBoxes_holds : Rows.SplitBoxesSaid:=
  OpenClaim.holds_of_wide 5 Tryz.f5 rfl rfl rfl rfl rfl rfl rfl ⟨rfl,rfl,rfl,rfl,rfl⟩ rfl rfl rfl rfl rfl (by kernel_rfl) Tryz.func5 (by kernel_rfl)
    (of_decide_eq_true (by kernel_rfl)) (by unfold Func.isWrapper;first | (rw [if_pos (by decide +kernel)];kernel_rfl) | (rw [if_neg (by decide +kernel)];exact ⟨rfl,rfl⟩))
    (fun os started H enc _=>q12b os started H enc)
end Go.Proofs.YtiejlbckgihckaaGreat
