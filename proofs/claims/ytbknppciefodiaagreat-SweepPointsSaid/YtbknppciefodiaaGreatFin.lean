/- FinSweepPoints -/
import Derived.Test.YtbknppciefodiaaGreatK19
import Derived.ProofKit
namespace Go.Proofs.YtbknppciefodiaaGreat
open Go Go.Am Go.Sh
open Go.ChangeShapes Go.WideShapes Go.ChangeAt Go.RowKit
def q156 (x : Qv) : List DV:=[.sl 7 (x.Lines.map Kf),.sl 5 (x.Marks.map Km),.int .u8 x.End.Frame.Turn,.int .i64 x.End.Frame.At.X,.int .i64 x.End.Frame.At.Y,.int .i64 x.End.Frame.At.Z,.int .i64 x.End.Drawn]
theorem Tryz.own : ownKnob Tryz.prog.godebug = none:=by kernel_rfl
theorem Tryz.laidOut : laidOutB Tryz.prog = true:=by kernel_rfl
theorem q15b {x : List DV} (h : q2a [.int .i64,.int .i64,.int .i64,.int .i64,.int .i64,.int .i64,.int .i64] x) : ∃ a : K1,x = Kf a∧((I64 a.From.X∧I64 a.From.Y∧I64 a.From.Z)∧(I64 a.To.X∧I64 a.To.Y∧I64 a.To.Z)∧I64 a.Depth):=by
  obtain ⟨d0,r0,rfl,h0,g0⟩:=q14u h
  obtain ⟨d1,r1,rfl,h1,g1⟩:=q14u g0
  obtain ⟨d2,r2,rfl,h2,g2⟩:=q14u g1
  obtain ⟨d3,r3,rfl,h3,g3⟩:=q14u g2
  obtain ⟨d4,r4,rfl,h4,g4⟩:=q14u g3
  obtain ⟨d5,r5,rfl,h5,g5⟩:=q14u g4
  obtain ⟨d6,r6,rfl,h6,g6⟩:=q14u g5
  obtain rfl:=q14v g6
  obtain ⟨a0,rfl,w0⟩:=q150 h0
  obtain ⟨a1,rfl,w1⟩:=q150 h1
  obtain ⟨a2,rfl,w2⟩:=q150 h2
  obtain ⟨a3,rfl,w3⟩:=q150 h3
  obtain ⟨a4,rfl,w4⟩:=q150 h4
  obtain ⟨a5,rfl,w5⟩:=q150 h5
  obtain ⟨a6,rfl,w6⟩:=q150 h6
  exact ⟨⟨⟨a0,a1,a2⟩,⟨a3,a4,a5⟩,a6⟩,rfl,⟨⟨q153 w0,q153 w1,q153 w2⟩,⟨q153 w3,q153 w4,q153 w5⟩,q153 w6⟩⟩
theorem q157 {x : List DV} (h : q2a [.int .u8,.int .u8,.int .i64,.int .i64,.int .i64] x) : ∃ a : Yy,x = Km a∧((Lit.int .u8 a.Name).wf = true∧((Lit.int .u8 a.Frame.Turn).wf = true∧(I64 a.Frame.At.X∧I64 a.Frame.At.Y∧I64 a.Frame.At.Z))):=by
  obtain ⟨d0,r0,rfl,h0,g0⟩:=q14u h
  obtain ⟨d1,r1,rfl,h1,g1⟩:=q14u g0
  obtain ⟨d2,r2,rfl,h2,g2⟩:=q14u g1
  obtain ⟨d3,r3,rfl,h3,g3⟩:=q14u g2
  obtain ⟨d4,r4,rfl,h4,g4⟩:=q14u g3
  obtain rfl:=q14v g4
  obtain ⟨a0,rfl,w0⟩:=q150 h0
  obtain ⟨a1,rfl,w1⟩:=q150 h1
  obtain ⟨a2,rfl,w2⟩:=q150 h2
  obtain ⟨a3,rfl,w3⟩:=q150 h3
  obtain ⟨a4,rfl,w4⟩:=q150 h4
  exact ⟨⟨a0,⟨a1,⟨a2,a3,a4⟩⟩⟩,rfl,⟨w0,⟨w1,⟨q153 w2,q153 w3,q153 w4⟩⟩⟩⟩
theorem q159 {x : List DV} (h : q2a [.sl [.int .i64,.int .i64,.int .i64,.int .i64,.int .i64,.int .i64,.int .i64],.sl [.int .u8,.int .u8,.int .i64,.int .i64,.int .i64],.int .u8,.int .i64,.int .i64,.int .i64,.int .i64] x) : ∃ a : Qv,DLeL x (q156 a)∧(((∀ y∈a.Lines,(I64 y.From.X∧I64 y.From.Y∧I64 y.From.Z)∧(I64 y.To.X∧I64 y.To.Y∧I64 y.To.Z)∧I64 y.Depth)∧a.Lines.length≤maxLen)∧((∀ y∈a.Marks,(Lit.int .u8 y.Name).wf = true∧((Lit.int .u8 y.Frame.Turn).wf = true∧(I64 y.Frame.At.X∧I64 y.Frame.At.Y∧I64 y.Frame.At.Z)))∧a.Marks.length≤maxLen)∧(((Lit.int .u8 a.End.Frame.Turn).wf = true∧(I64 a.End.Frame.At.X∧I64 a.End.Frame.At.Y∧I64 a.End.Frame.At.Z))∧I64 a.End.Drawn)):=by
  obtain ⟨d0,r0,rfl,h0,g0⟩:=q14u h
  obtain ⟨d1,r1,rfl,h1,g1⟩:=q14u g0
  obtain ⟨d2,r2,rfl,h2,g2⟩:=q14u g1
  obtain ⟨d3,r3,rfl,h3,g3⟩:=q14u g2
  obtain ⟨d4,r4,rfl,h4,g4⟩:=q14u g3
  obtain ⟨d5,r5,rfl,h5,g5⟩:=q14u g4
  obtain ⟨d6,r6,rfl,h6,g6⟩:=q14u g5
  obtain rfl:=q14v g6
  obtain ⟨a0,s0,w0,l0⟩:=q151 (enc:=Kf) (fun _=>q15b) h0
  obtain ⟨a1,s1,w1,l1⟩:=q151 (enc:=Km) (fun _=>q157) h1
  obtain ⟨a2,rfl,w2⟩:=q150 h2
  obtain ⟨a3,rfl,w3⟩:=q150 h3
  obtain ⟨a4,rfl,w4⟩:=q150 h4
  obtain ⟨a5,rfl,w5⟩:=q150 h5
  obtain ⟨a6,rfl,w6⟩:=q150 h6
  exact ⟨⟨a0,a1,⟨⟨a2,⟨a3,a4,a5⟩⟩,a6⟩⟩,(.cons s0 (.cons s1 (.cons (.refl _) (.cons (.refl _) (.cons (.refl _) (.cons (.refl _) (.cons (.refl _) .nil))))))),⟨⟨w0,l0⟩,⟨w1,l1⟩,⟨⟨w2,⟨q153 w3,q153 w4,q153 w5⟩⟩,q153 w6⟩⟩⟩
theorem q15c {x : List DV} (h : q2a [.int .i64,.int .i64,.int .i64,.int .i64,.int .i64,.int .i64] x) : ∃ a : qg,x = Qe a∧((I64 a.Lo.X∧I64 a.Lo.Y∧I64 a.Lo.Z)∧(I64 a.Hi.X∧I64 a.Hi.Y∧I64 a.Hi.Z)):=by
  obtain ⟨d0,r0,rfl,h0,g0⟩:=q14u h
  obtain ⟨d1,r1,rfl,h1,g1⟩:=q14u g0
  obtain ⟨d2,r2,rfl,h2,g2⟩:=q14u g1
  obtain ⟨d3,r3,rfl,h3,g3⟩:=q14u g2
  obtain ⟨d4,r4,rfl,h4,g4⟩:=q14u g3
  obtain ⟨d5,r5,rfl,h5,g5⟩:=q14u g4
  obtain rfl:=q14v g5
  obtain ⟨a0,rfl,w0⟩:=q150 h0
  obtain ⟨a1,rfl,w1⟩:=q150 h1
  obtain ⟨a2,rfl,w2⟩:=q150 h2
  obtain ⟨a3,rfl,w3⟩:=q150 h3
  obtain ⟨a4,rfl,w4⟩:=q150 h4
  obtain ⟨a5,rfl,w5⟩:=q150 h5
  exact ⟨⟨⟨a0,a1,a2⟩,⟨a3,a4,a5⟩⟩,rfl,⟨⟨q153 w0,q153 w1,q153 w2⟩,⟨q153 w3,q153 w4,q153 w5⟩⟩⟩
theorem q15a {x : List DV} (h : q2a [.sl [.int .i64,.int .i64,.int .i64,.int .i64,.int .i64,.int .i64]] x) : ∃ a : List qg,DLeL x (Qr a)∧(((∀ y∈a,(I64 y.Lo.X∧I64 y.Lo.Y∧I64 y.Lo.Z)∧(I64 y.Hi.X∧I64 y.Hi.Y∧I64 y.Hi.Z))∧a.length≤maxLen)):=by
  obtain ⟨d0,r0,rfl,h0,g0⟩:=q14u h
  obtain rfl:=q14v g0
  obtain ⟨a0,s0,w0,l0⟩:=q151 (enc:=Qe) (fun _=>q15c) h0
  exact ⟨a0,(.cons s0 .nil),⟨w0,l0⟩⟩
theorem q158 {x : List DV} (h : q2a [.int .i64,.int .i64,.int .i64] x) : ∃ a : Q3,x = qc8 a∧(I64 a.X∧I64 a.Y∧I64 a.Z):=by
  obtain ⟨d0,r0,rfl,h0,g0⟩:=q14u h
  obtain ⟨d1,r1,rfl,h1,g1⟩:=q14u g0
  obtain ⟨d2,r2,rfl,h2,g2⟩:=q14u g1
  obtain rfl:=q14v g2
  obtain ⟨a0,rfl,w0⟩:=q150 h0
  obtain ⟨a1,rfl,w1⟩:=q150 h1
  obtain ⟨a2,rfl,w2⟩:=q150 h2
  exact ⟨⟨a0,a1,a2⟩,rfl,⟨q153 w0,q153 w1,q153 w2⟩⟩
theorem q155 (xs : List DV) (h : Jn [(true,[.sl [.int .i64,.int .i64,.int .i64,.int .i64,.int .i64,.int .i64,.int .i64],.sl [.int .u8,.int .u8,.int .i64,.int .i64,.int .i64],.int .u8,.int .i64,.int .i64,.int .i64,.int .i64]),(false,[.sl [.sl [.int .i64,.int .i64,.int .i64,.int .i64,.int .i64,.int .i64]]]),(true,[.int .i64,.int .i64,.int .i64])] xs) : Pure Tryz.prog tab 7 xs (.bool true):=by
  obtain ⟨d0,r0,rfl,h0,h⟩:=q14o h
  obtain ⟨d1,r1,rfl,h1,h⟩:=q14q h
  obtain ⟨d2,r2,rfl,h2,h⟩:=q14o h
  obtain rfl:=q14p h
  obtain ⟨p0,s0,w0⟩:=q159 h0
  obtain ⟨p1,s1,w1,l1⟩:=q152 (enc:=Qr) (fun _=>q15a) h1
  obtain ⟨p2,rfl,w2⟩:=q158 h2
  exact q3s (.cons (qf7 s0) (.cons s1 (.cons (.refl _) .nil))) (q14s p0 p1 p2 true (q14y p0 p1 p2))
set_option maxRecDepth 100000 in
theorem q154 (os : Os) (started : os.Started) (H : Type) (enc : TypeId × Value→H) :
    ReturnsInHanded {} Tryz.checked os 7 .any (Rows.sweepPointsSpec.pre6 enc Tryz.prog Tryz.f7 Rows.sweepPointsRow.domain false) (Rows.sweepPointsSpec.post enc Tryz.prog Tryz.f7 false true false false):=by
  refine returnsInHanded_of_change (C:=Tryz.checked) Tryz.own started (by kernel_rfl) Tryz.func7
    (ChangeSpec.witness6 (enc:=enc) (C:=Tryz.checked) false ⟨#[],#[.agg #[.slice none 0 0,.slice none 0 0,.int .u8 0,.int .i64 0,.int .i64 0,.int .i64 0,.int .i64 0],.slice none 0 0,.agg #[.int .i64 0,.int .i64 0,.int .i64 0]],[]⟩ 8 (by kernel_rfl) (by kernel_rfl) (by kernel_rfl) (by kernel_rfl)) ?_
  intro W base args ds gs before hval0 hW hcnd _
  have hread : (Tryz.f7.params.toList.all fun t=>Tryz.prog.readableRec t && decide (t < Tryz.prog.types.size)) = true:=by kernel_rfl
  have hps : Tryz.f7.params.toList.map (fun t=>(aggT Tryz.prog t,tyL Tryz.prog 8 t)) = ([(true,[.sl [.int .i64,.int .i64,.int .i64,.int .i64,.int .i64,.int .i64,.int .i64],.sl [.int .u8,.int .u8,.int .i64,.int .i64,.int .i64],.int .u8,.int .i64,.int .i64,.int .i64,.int .i64]),(false,[.sl [.sl [.int .i64,.int .i64,.int .i64,.int .i64,.int .i64,.int .i64]]]),(true,[.int .i64,.int .i64,.int .i64])] : List (Bool × List CT)).map (fun x=>(x.1,some x.2)):=by kernel_rfl
  refine contract (P:=Tryz.prog) (f:=Tryz.f7) (F:=7) (s:=Rows.sweepPointsSpec) (tb:=4) (fuel:=8) (base:=base) q14z mixed Tryz.laidOut rfl (by kernel_rfl) (by kernel_rfl) (fun t ht=>?_) hps (fun ds hd=>?_) q155 hval0 hW
  · have:=List.all_eq_true.1 hread t ht
    simpa using this
  · have hd : ds.length = 3:=hd
    match ds,hd with
    | [a0,a1,a2],_=>rfl
theorem sweepPoints_holds : Rows.SweepPointsSaid:=
  OpenClaim.holds_of_wide 7 Tryz.f7 rfl rfl rfl rfl rfl rfl rfl ⟨rfl,rfl,rfl,rfl,rfl⟩ rfl rfl rfl rfl rfl (by kernel_rfl) Tryz.func7 (by kernel_rfl)
    (of_decide_eq_true (by kernel_rfl)) (by unfold Func.isWrapper;first | (rw [if_pos (by decide +kernel)];kernel_rfl) | (rw [if_neg (by decide +kernel)];exact ⟨rfl,rfl⟩))
    (fun os started H enc _=>q154 os started H enc)
end Go.Proofs.YtbknppciefodiaaGreat
