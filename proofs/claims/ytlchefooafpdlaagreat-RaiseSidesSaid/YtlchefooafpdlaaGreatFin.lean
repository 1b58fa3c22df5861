/- FinRaiseSides -/
import Derived.Test.YtlchefooafpdlaaGreatK19
import Derived.ProofKit
namespace Go.Proofs.YtlchefooafpdlaaGreat
open Go Go.Am Go.Sh
open Go.ChangeShapes Go.WideShapes Go.ChangeAt Go.RowKit
theorem Tryz.own : ownKnob Tryz.prog.godebug = none:=by kernel_rfl
theorem Tryz.laidOut : laidOutB Tryz.prog = true:=by kernel_rfl
theorem q11m {x : List DV} (h : q9w [.int .u8,.int .i64,.int .i64,.int .i64,.int .i64,.int .i64,.int .i64] x) : ∃ a : Q2,x = Zi a∧(((Lit.int .u8 a.Frame.Turn).wf = true∧(I64 a.Frame.At.X∧I64 a.Frame.At.Y∧I64 a.Frame.At.Z))∧(I64 a.Size.X∧I64 a.Size.Y∧I64 a.Size.Z)):=by
  obtain ⟨d0,r0,rfl,h0,g0⟩:=q11e h
  obtain ⟨d1,r1,rfl,h1,g1⟩:=q11e g0
  obtain ⟨d2,r2,rfl,h2,g2⟩:=q11e g1
  obtain ⟨d3,r3,rfl,h3,g3⟩:=q11e g2
  obtain ⟨d4,r4,rfl,h4,g4⟩:=q11e g3
  obtain ⟨d5,r5,rfl,h5,g5⟩:=q11e g4
  obtain ⟨d6,r6,rfl,h6,g6⟩:=q11e g5
  obtain rfl:=q11f g6
  obtain ⟨a0,rfl,w0⟩:=q11h h0
  obtain ⟨a1,rfl,w1⟩:=q11h h1
  obtain ⟨a2,rfl,w2⟩:=q11h h2
  obtain ⟨a3,rfl,w3⟩:=q11h h3
  obtain ⟨a4,rfl,w4⟩:=q11h h4
  obtain ⟨a5,rfl,w5⟩:=q11h h5
  obtain ⟨a6,rfl,w6⟩:=q11h h6
  exact ⟨⟨⟨a0,⟨a1,a2,a3⟩⟩,⟨a4,a5,a6⟩⟩,rfl,⟨⟨w0,⟨q11j w1,q11j w2,q11j w3⟩⟩,⟨q11j w4,q11j w5,q11j w6⟩⟩⟩
theorem q11l (xs : List DV) (h : Jc [(true,[.int .u8,.int .i64,.int .i64,.int .i64,.int .i64,.int .i64,.int .i64]),(false,[.int .i64])] xs) : Pure Tryz.prog tab 9 xs (.bool true):=by
  obtain ⟨d0,r0,rfl,h0,h⟩:=q118 h
  obtain ⟨d1,r1,rfl,h1,h⟩:=q11a h
  obtain rfl:=q119 h
  obtain ⟨p0,rfl,w0⟩:=q11m h0
  obtain ⟨p1,rfl,w1⟩:=q11h h1
  replace w1 : I64 p1:=q11j w1
  exact qkj (.cons (.refl _) (.cons (.refl _) .nil)) (q11b p0 p1 true (q11d p0 p1 (q11i w0.1.1)))
set_option maxRecDepth 100000 in
theorem q11k (os : Os) (started : os.Started) (H : Type) (enc : TypeId × Value→H) :
    ReturnsInHanded {} Tryz.checked os 9 .any (Rows.raiseSidesSpec.pre6 enc Tryz.prog Tryz.f9 Rows.raiseSidesRow.domain false) (Rows.raiseSidesSpec.post enc Tryz.prog Tryz.f9 false true false false):=by
  refine returnsInHanded_of_change (C:=Tryz.checked) Tryz.own started (by kernel_rfl) Tryz.func9
    (ChangeSpec.witness6 (enc:=enc) (C:=Tryz.checked) false ⟨#[],#[.agg #[.int .u8 0,.int .i64 0,.int .i64 0,.int .i64 0,.int .i64 0,.int .i64 0,.int .i64 0],.int .i64 0],[]⟩ 8 (by kernel_rfl) (by kernel_rfl) (by kernel_rfl) (by kernel_rfl)) ?_
  intro W base args ds gs before hval0 hW hcnd _
  have hread : (Tryz.f9.params.toList.all fun t=>Tryz.prog.readableRec t && decide (t < Tryz.prog.types.size)) = true:=by kernel_rfl
  have hps : Tryz.f9.params.toList.map (fun t=>(aggT Tryz.prog t,tyL Tryz.prog 8 t)) = ([(true,[.int .u8,.int .i64,.int .i64,.int .i64,.int .i64,.int .i64,.int .i64]),(false,[.int .i64])] : List (Bool × List CT)).map (fun x=>(x.1,some x.2)):=by kernel_rfl
  refine contract (P:=Tryz.prog) (f:=Tryz.f9) (F:=9) (s:=Rows.raiseSidesSpec) (tb:=4) (fuel:=8) (base:=base) q11g mixed Tryz.laidOut rfl (by kernel_rfl) (by kernel_rfl) (fun t ht=>?_) hps (fun ds hd=>?_) q11l hval0 hW
  · have:=List.all_eq_true.1 hread t ht
    simpa using this
  · have hd : ds.length = 2:=hd
    match ds,hd with
    | [a0,a1],_=>rfl
theorem raiseSides_holds : Rows.RaiseSidesSaid:=
  OpenClaim.holds_of_wide 9 Tryz.f9 rfl rfl rfl rfl rfl rfl rfl ⟨rfl,rfl,rfl,rfl,rfl⟩ rfl rfl rfl rfl rfl (by kernel_rfl) Tryz.func9 (by kernel_rfl)
    (of_decide_eq_true (by kernel_rfl)) (by unfold Func.isWrapper;first | (rw [if_pos (by decide +kernel)];kernel_rfl) | (rw [if_neg (by decide +kernel)];exact ⟨rfl,rfl⟩))
    (fun os started H enc _=>q11k os started H enc)
end Go.Proofs.YtlchefooafpdlaaGreat
