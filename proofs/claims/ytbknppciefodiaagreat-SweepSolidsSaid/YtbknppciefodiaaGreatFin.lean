/- FinSweepSolids -/
import Derived.Test.YtbknppciefodiaaGreatK19
import Derived.ProofKit
namespace Go.Proofs.YtbknppciefodiaaGreat
open Go Go.Am Go.Sh
open Go.ChangeShapes Go.WideShapes Go.ChangeAt Go.RowKit
def q13q (x : K5) : List DV:=[.sl 7 (x.Lines.map Kc),.sl 5 (x.Marks.map Kf),.int .u8 x.End.Frame.Turn,.int .i64 x.End.Frame.At.X,.int .i64 x.End.Frame.At.Y,.int .i64 x.End.Frame.At.Z,.int .i64 x.End.Drawn]
theorem Tryz.own : ownKnob Tryz.prog.godebug = none:=by kernel_rfl
theorem Tryz.laidOut : laidOutB Tryz.prog = true:=by kernel_rfl
theorem q13u {x : List DV} (h : q29 [.int .i64,.int .i64,.int .i64,.int .i64,.int .i64,.int .i64,.int .i64] x) : ∃ a : K7,x = Kc a∧((I64 a.From.X∧I64 a.From.Y∧I64 a.From.Z)∧(I64 a.To.X∧I64 a.To.Y∧I64 a.To.Z)∧I64 a.Depth):=by
  obtain ⟨d0,r0,rfl,h0,g0⟩:=q13e h
  obtain ⟨d1,r1,rfl,h1,g1⟩:=q13e g0
  obtain ⟨d2,r2,rfl,h2,g2⟩:=q13e g1
  obtain ⟨d3,r3,rfl,h3,g3⟩:=q13e g2
  obtain ⟨d4,r4,rfl,h4,g4⟩:=q13e g3
  obtain ⟨d5,r5,rfl,h5,g5⟩:=q13e g4
  obtain ⟨d6,r6,rfl,h6,g6⟩:=q13e g5
  obtain rfl:=q13f g6
  obtain ⟨a0,rfl,w0⟩:=q13k h0
  obtain ⟨a1,rfl,w1⟩:=q13k h1
  obtain ⟨a2,rfl,w2⟩:=q13k h2
  obtain ⟨a3,rfl,w3⟩:=q13k h3
  obtain ⟨a4,rfl,w4⟩:=q13k h4
  obtain ⟨a5,rfl,w5⟩:=q13k h5
  obtain ⟨a6,rfl,w6⟩:=q13k h6
  exact ⟨⟨⟨a0,a1,a2⟩,⟨a3,a4,a5⟩,a6⟩,rfl,⟨⟨q13n w0,q13n w1,q13n w2⟩,⟨q13n w3,q13n w4,q13n w5⟩,q13n w6⟩⟩
theorem q13r {x : List DV} (h : q29 [.int .u8,.int .u8,.int .i64,.int .i64,.int .i64] x) : ∃ a : Yw,x = Kf a∧((Lit.int .u8 a.Name).wf = true∧((Lit.int .u8 a.Frame.Turn).wf = true∧(I64 a.Frame.At.X∧I64 a.Frame.At.Y∧I64 a.Frame.At.Z))):=by
  obtain ⟨d0,r0,rfl,h0,g0⟩:=q13e h
  obtain ⟨d1,r1,rfl,h1,g1⟩:=q13e g0
  obtain ⟨d2,r2,rfl,h2,g2⟩:=q13e g1
  obtain ⟨d3,r3,rfl,h3,g3⟩:=q13e g2
  obtain ⟨d4,r4,rfl,h4,g4⟩:=q13e g3
  obtain rfl:=q13f g4
  obtain ⟨a0,rfl,w0⟩:=q13k h0
  obtain ⟨a1,rfl,w1⟩:=q13k h1
  obtain ⟨a2,rfl,w2⟩:=q13k h2
  obtain ⟨a3,rfl,w3⟩:=q13k h3
  obtain ⟨a4,rfl,w4⟩:=q13k h4
  exact ⟨⟨a0,⟨a1,⟨a2,a3,a4⟩⟩⟩,rfl,⟨w0,⟨w1,⟨q13n w2,q13n w3,q13n w4⟩⟩⟩⟩
theorem q13s {x : List DV} (h : q29 [.sl [.int .i64,.int .i64,.int .i64,.int .i64,.int .i64,.int .i64,.int .i64],.sl [.int .u8,.int .u8,.int .i64,.int .i64,.int .i64],.int .u8,.int .i64,.int .i64,.int .i64,.int .i64] x) : ∃ a : K5,DLeL x (q13q a)∧(((∀ y∈a.Lines,(I64 y.From.X∧I64 y.From.Y∧I64 y.From.Z)∧(I64 y.To.X∧I64 y.To.Y∧I64 y.To.Z)∧I64 y.Depth)∧a.Lines.length≤maxLen)∧((∀ y∈a.Marks,(Lit.int .u8 y.Name).wf = true∧((Lit.int .u8 y.Frame.Turn).wf = true∧(I64 y.Frame.At.X∧I64 y.Frame.At.Y∧I64 y.Frame.At.Z)))∧a.Marks.length≤maxLen)∧(((Lit.int .u8 a.End.Frame.Turn).wf = true∧(I64 a.End.Frame.At.X∧I64 a.End.Frame.At.Y∧I64 a.End.Frame.At.Z))∧I64 a.End.Drawn)):=by
  obtain ⟨d0,r0,rfl,h0,g0⟩:=q13e h
  obtain ⟨d1,r1,rfl,h1,g1⟩:=q13e g0
  obtain ⟨d2,r2,rfl,h2,g2⟩:=q13e g1
  obtain ⟨d3,r3,rfl,h3,g3⟩:=q13e g2
  obtain ⟨d4,r4,rfl,h4,g4⟩:=q13e g3
  obtain ⟨d5,r5,rfl,h5,g5⟩:=q13e g4
  obtain ⟨d6,r6,rfl,h6,g6⟩:=q13e g5
  obtain rfl:=q13f g6
  obtain ⟨a0,s0,w0,l0⟩:=q13l (enc:=Kc) (fun _=>q13u) h0
  obtain ⟨a1,s1,w1,l1⟩:=q13l (enc:=Kf) (fun _=>q13r) h1
  obtain ⟨a2,rfl,w2⟩:=q13k h2
  obtain ⟨a3,rfl,w3⟩:=q13k h3
  obtain ⟨a4,rfl,w4⟩:=q13k h4
  obtain ⟨a5,rfl,w5⟩:=q13k h5
  obtain ⟨a6,rfl,w6⟩:=q13k h6
  exact ⟨⟨a0,a1,⟨⟨a2,⟨a3,a4,a5⟩⟩,a6⟩⟩,(.cons s0 (.cons s1 (.cons (.refl _) (.cons (.refl _) (.cons (.refl _) (.cons (.refl _) (.cons (.refl _) .nil))))))),⟨⟨w0,l0⟩,⟨w1,l1⟩,⟨⟨w2,⟨q13n w3,q13n w4,q13n w5⟩⟩,q13n w6⟩⟩⟩
theorem q13v {x : List DV} (h : q29 [.int .i64,.int .i64,.int .i64,.int .i64,.int .i64,.int .i64] x) : ∃ a : qg,x = Qa a∧((I64 a.Lo.X∧I64 a.Lo.Y∧I64 a.Lo.Z)∧(I64 a.Hi.X∧I64 a.Hi.Y∧I64 a.Hi.Z)):=by
  obtain ⟨d0,r0,rfl,h0,g0⟩:=q13e h
  obtain ⟨d1,r1,rfl,h1,g1⟩:=q13e g0
  obtain ⟨d2,r2,rfl,h2,g2⟩:=q13e g1
  obtain ⟨d3,r3,rfl,h3,g3⟩:=q13e g2
  obtain ⟨d4,r4,rfl,h4,g4⟩:=q13e g3
  obtain ⟨d5,r5,rfl,h5,g5⟩:=q13e g4
  obtain rfl:=q13f g5
  obtain ⟨a0,rfl,w0⟩:=q13k h0
  obtain ⟨a1,rfl,w1⟩:=q13k h1
  obtain ⟨a2,rfl,w2⟩:=q13k h2
  obtain ⟨a3,rfl,w3⟩:=q13k h3
  obtain ⟨a4,rfl,w4⟩:=q13k h4
  obtain ⟨a5,rfl,w5⟩:=q13k h5
  exact ⟨⟨⟨a0,a1,a2⟩,⟨a3,a4,a5⟩⟩,rfl,⟨⟨q13n w0,q13n w1,q13n w2⟩,⟨q13n w3,q13n w4,q13n w5⟩⟩⟩
theorem q13t {x : List DV} (h : q29 [.sl [.int .i64,.int .i64,.int .i64,.int .i64,.int .i64,.int .i64]] x) : ∃ a : List qg,DLeL x (Qp a)∧(((∀ y∈a,(I64 y.Lo.X∧I64 y.Lo.Y∧I64 y.Lo.Z)∧(I64 y.Hi.X∧I64 y.Hi.Y∧I64 y.Hi.Z))∧a.length≤maxLen)):=by
  obtain ⟨d0,r0,rfl,h0,g0⟩:=q13e h
  obtain rfl:=q13f g0
  obtain ⟨a0,s0,w0,l0⟩:=q13l (enc:=Qa) (fun _=>q13v) h0
  exact ⟨a0,(.cons s0 .nil),⟨w0,l0⟩⟩
theorem q13p (xs : List DV) (h : Jl [(true,[.sl [.int .i64,.int .i64,.int .i64,.int .i64,.int .i64,.int .i64,.int .i64],.sl [.int .u8,.int .u8,.int .i64,.int .i64,.int .i64],.int .u8,.int .i64,.int .i64,.int .i64,.int .i64]),(false,[.sl [.sl [.int .i64,.int .i64,.int .i64,.int .i64,.int .i64,.int .i64]]])] xs) : Pure Tryz.prog tab 4 xs (.bool true):=by
  obtain ⟨d0,r0,rfl,h0,h⟩:=q137 h
  obtain ⟨d1,r1,rfl,h1,h⟩:=q139 h
  obtain rfl:=q138 h
  obtain ⟨p0,s0,w0⟩:=q13s h0
  obtain ⟨p1,s1,w1,l1⟩:=q13m (enc:=Qp) (fun _=>q13t) h1
  exact qcs (.cons (q13b s0) (.cons s1 .nil)) (q13c p0 p1 true (q13i p0 p1))
set_option maxRecDepth 100000 in
theorem q13o (os : Os) (started : os.Started) (H : Type) (enc : TypeId × Value→H) :
    ReturnsInHanded {} Tryz.checked os 4 .any (Rows.sweepSolidsSpec.pre6 enc Tryz.prog Tryz.f4 Rows.sweepSolidsRow.domain false) (Rows.sweepSolidsSpec.post enc Tryz.prog Tryz.f4 false true false false):=by
  refine returnsInHanded_of_change (C:=Tryz.checked) Tryz.own started (by kernel_rfl) Tryz.func4
    (ChangeSpec.witness6 (enc:=enc) (C:=Tryz.checked) false ⟨#[],#[.agg #[.slice none 0 0,.slice none 0 0,.int .u8 0,.int .i64 0,.int .i64 0,.int .i64 0,.int .i64 0],.slice none 0 0],[]⟩ 8 (by kernel_rfl) (by kernel_rfl) (by kernel_rfl) (by kernel_rfl)) ?_
  intro W base args ds gs before hval0 hW hcnd _
  have hread : (Tryz.f4.params.toList.all fun t=>Tryz.prog.readableRec t && decide (t < Tryz.prog.types.size)) = true:=by kernel_rfl
  have hps : Tryz.f4.params.toList.map (fun t=>(aggT Tryz.prog t,tyL Tryz.prog 8 t)) = ([(true,[.sl [.int .i64,.int .i64,.int .i64,.int .i64,.int .i64,.int .i64,.int .i64],.sl [.int .u8,.int .u8,.int .i64,.int .i64,.int .i64],.int .u8,.int .i64,.int .i64,.int .i64,.int .i64]),(false,[.sl [.sl [.int .i64,.int .i64,.int .i64,.int .i64,.int .i64,.int .i64]]])] : List (Bool × List CT)).map (fun x=>(x.1,some x.2)):=by kernel_rfl
  refine contract (P:=Tryz.prog) (f:=Tryz.f4) (F:=4) (s:=Rows.sweepSolidsSpec) (tb:=4) (fuel:=8) (base:=base) q13j mixed Tryz.laidOut rfl (by kernel_rfl) (by kernel_rfl) (fun t ht=>?_) hps (fun ds hd=>?_) q13p hval0 hW
  · have:=List.all_eq_true.1 hread t ht
    simpa using this
  · have hd : ds.length = 2:=hd
    match ds,hd with
    | [a0,a1],_=>rfl
theorem sweepSolids_holds : Rows.SweepSolidsSaid:=
  OpenClaim.holds_of_wide 4 Tryz.f4 rfl rfl rfl rfl rfl rfl rfl ⟨rfl,rfl,rfl,rfl,rfl⟩ rfl rfl rfl rfl rfl (by kernel_rfl) Tryz.func4 (by kernel_rfl)
    (of_decide_eq_true (by kernel_rfl)) (by unfold Func.isWrapper;first | (rw [if_pos (by decide +kernel)];kernel_rfl) | (rw [if_neg (by decide +kernel)];exact ⟨rfl,rfl⟩))
    (fun os started H enc _=>q13o os started H enc)
end Go.Proofs.YtbknppciefodiaaGreat
