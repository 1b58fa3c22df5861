/- FinSweepPlaces -/
import Derived.Test.YtbknppciefodiaaGreatK20
import Derived.ProofKit
namespace Go.Proofs.YtbknppciefodiaaGreat
open Go Go.Am Go.Sh
open Go.ChangeShapes Go.WideShapes Go.ChangeAt Go.RowKit
def q17b (x : Qr) : List DV:=[.sl 7 (x.Lines.map Kb),.sl 5 (x.Marks.map Kf),.int .u8 x.End.Frame.Turn,.int .i64 x.End.Frame.At.X,.int .i64 x.End.Frame.At.Y,.int .i64 x.End.Frame.At.Z,.int .i64 x.End.Drawn]
def q17a (x : K0) : List DV:=[.int .u8 x.Turn,.int .i64 x.At.X,.int .i64 x.At.Y,.int .i64 x.At.Z]
theorem Tryz.own : ownKnob Tryz.prog.godebug = none:=by kernel_rfl
theorem Tryz.laidOut : laidOutB Tryz.prog = true:=by kernel_rfl
theorem q17g {x : List DV} (h : q2l [.int .i64,.int .i64,.int .i64,.int .i64,.int .i64,.int .i64,.int .i64] x) : ∃ a : K3,x = Kb a∧((I64 a.From.X∧I64 a.From.Y∧I64 a.From.Z)∧(I64 a.To.X∧I64 a.To.Y∧I64 a.To.Z)∧I64 a.Depth):=by
  obtain ⟨d0,r0,rfl,h0,g0⟩:=q16x h
  obtain ⟨d1,r1,rfl,h1,g1⟩:=q16x g0
  obtain ⟨d2,r2,rfl,h2,g2⟩:=q16x g1
  obtain ⟨d3,r3,rfl,h3,g3⟩:=q16x g2
  obtain ⟨d4,r4,rfl,h4,g4⟩:=q16x g3
  obtain ⟨d5,r5,rfl,h5,g5⟩:=q16x g4
  obtain ⟨d6,r6,rfl,h6,g6⟩:=q16x g5
  obtain rfl:=q16y g6
  obtain ⟨a0,rfl,w0⟩:=q173 h0
  obtain ⟨a1,rfl,w1⟩:=q173 h1
  obtain ⟨a2,rfl,w2⟩:=q173 h2
  obtain ⟨a3,rfl,w3⟩:=q173 h3
  obtain ⟨a4,rfl,w4⟩:=q173 h4
  obtain ⟨a5,rfl,w5⟩:=q173 h5
  obtain ⟨a6,rfl,w6⟩:=q173 h6
  exact ⟨⟨⟨a0,a1,a2⟩,⟨a3,a4,a5⟩,a6⟩,rfl,⟨⟨q177 w0,q177 w1,q177 w2⟩,⟨q177 w3,q177 w4,q177 w5⟩,q177 w6⟩⟩
theorem q17c {x : List DV} (h : q2l [.int .u8,.int .u8,.int .i64,.int .i64,.int .i64] x) : ∃ a : Yf,x = Kf a∧((Lit.int .u8 a.Name).wf = true∧((Lit.int .u8 a.Frame.Turn).wf = true∧(I64 a.Frame.At.X∧I64 a.Frame.At.Y∧I64 a.Frame.At.Z))):=by
  obtain ⟨d0,r0,rfl,h0,g0⟩:=q16x h
  obtain ⟨d1,r1,rfl,h1,g1⟩:=q16x g0
  obtain ⟨d2,r2,rfl,h2,g2⟩:=q16x g1
  obtain ⟨d3,r3,rfl,h3,g3⟩:=q16x g2
  obtain ⟨d4,r4,rfl,h4,g4⟩:=q16x g3
  obtain rfl:=q16y g4
  obtain ⟨a0,rfl,w0⟩:=q173 h0
  obtain ⟨a1,rfl,w1⟩:=q173 h1
  obtain ⟨a2,rfl,w2⟩:=q173 h2
  obtain ⟨a3,rfl,w3⟩:=q173 h3
  obtain ⟨a4,rfl,w4⟩:=q173 h4
  exact ⟨⟨a0,⟨a1,⟨a2,a3,a4⟩⟩⟩,rfl,⟨w0,⟨w1,⟨q177 w2,q177 w3,q177 w4⟩⟩⟩⟩
theorem q17e {x : List DV} (h : q2l [.sl [.int .i64,.int .i64,.int .i64,.int .i64,.int .i64,.int .i64,.int .i64],.sl [.int .u8,.int .u8,.int .i64,.int .i64,.int .i64],.int .u8,.int .i64,.int .i64,.int .i64,.int .i64] x) : ∃ a : Qr,DLeL x (q17b a)∧(((∀ y∈a.Lines,(I64 y.From.X∧I64 y.From.Y∧I64 y.From.Z)∧(I64 y.To.X∧I64 y.To.Y∧I64 y.To.Z)∧I64 y.Depth)∧a.Lines.length≤maxLen)∧((∀ y∈a.Marks,(Lit.int .u8 y.Name).wf = true∧((Lit.int .u8 y.Frame.Turn).wf = true∧(I64 y.Frame.At.X∧I64 y.Frame.At.Y∧I64 y.Frame.At.Z)))∧a.Marks.length≤maxLen)∧(((Lit.int .u8 a.End.Frame.Turn).wf = true∧(I64 a.End.Frame.At.X∧I64 a.End.Frame.At.Y∧I64 a.End.Frame.At.Z))∧I64 a.End.Drawn)):=by
  obtain ⟨d0,r0,rfl,h0,g0⟩:=q16x h
  obtain ⟨d1,r1,rfl,h1,g1⟩:=q16x g0
  obtain ⟨d2,r2,rfl,h2,g2⟩:=q16x g1
  obtain ⟨d3,r3,rfl,h3,g3⟩:=q16x g2
  obtain ⟨d4,r4,rfl,h4,g4⟩:=q16x g3
  obtain ⟨d5,r5,rfl,h5,g5⟩:=q16x g4
  obtain ⟨d6,r6,rfl,h6,g6⟩:=q16x g5
  obtain rfl:=q16y g6
  obtain ⟨a0,s0,w0,l0⟩:=q174 (enc:=Kb) (fun _=>q17g) h0
  obtain ⟨a1,s1,w1,l1⟩:=q174 (enc:=Kf) (fun _=>q17c) h1
  obtain ⟨a2,rfl,w2⟩:=q173 h2
  obtain ⟨a3,rfl,w3⟩:=q173 h3
  obtain ⟨a4,rfl,w4⟩:=q173 h4
  obtain ⟨a5,rfl,w5⟩:=q173 h5
  obtain ⟨a6,rfl,w6⟩:=q173 h6
  exact ⟨⟨a0,a1,⟨⟨a2,⟨a3,a4,a5⟩⟩,a6⟩⟩,(.cons s0 (.cons s1 (.cons (.refl _) (.cons (.refl _) (.cons (.refl _) (.cons (.refl _) (.cons (.refl _) .nil))))))),⟨⟨w0,l0⟩,⟨w1,l1⟩,⟨⟨w2,⟨q177 w3,q177 w4,q177 w5⟩⟩,q177 w6⟩⟩⟩
theorem q17h {x : List DV} (h : q2l [.int .i64,.int .i64,.int .i64,.int .i64,.int .i64,.int .i64] x) : ∃ a : qh,x = Qh a∧((I64 a.Lo.X∧I64 a.Lo.Y∧I64 a.Lo.Z)∧(I64 a.Hi.X∧I64 a.Hi.Y∧I64 a.Hi.Z)):=by
  obtain ⟨d0,r0,rfl,h0,g0⟩:=q16x h
  obtain ⟨d1,r1,rfl,h1,g1⟩:=q16x g0
  obtain ⟨d2,r2,rfl,h2,g2⟩:=q16x g1
  obtain ⟨d3,r3,rfl,h3,g3⟩:=q16x g2
  obtain ⟨d4,r4,rfl,h4,g4⟩:=q16x g3
  obtain ⟨d5,r5,rfl,h5,g5⟩:=q16x g4
  obtain rfl:=q16y g5
  obtain ⟨a0,rfl,w0⟩:=q173 h0
  obtain ⟨a1,rfl,w1⟩:=q173 h1
  obtain ⟨a2,rfl,w2⟩:=q173 h2
  obtain ⟨a3,rfl,w3⟩:=q173 h3
  obtain ⟨a4,rfl,w4⟩:=q173 h4
  obtain ⟨a5,rfl,w5⟩:=q173 h5
  exact ⟨⟨⟨a0,a1,a2⟩,⟨a3,a4,a5⟩⟩,rfl,⟨⟨q177 w0,q177 w1,q177 w2⟩,⟨q177 w3,q177 w4,q177 w5⟩⟩⟩
theorem q17f {x : List DV} (h : q2l [.sl [.int .i64,.int .i64,.int .i64,.int .i64,.int .i64,.int .i64]] x) : ∃ a : List qh,DLeL x (Qt a)∧(((∀ y∈a,(I64 y.Lo.X∧I64 y.Lo.Y∧I64 y.Lo.Z)∧(I64 y.Hi.X∧I64 y.Hi.Y∧I64 y.Hi.Z))∧a.length≤maxLen)):=by
  obtain ⟨d0,r0,rfl,h0,g0⟩:=q16x h
  obtain rfl:=q16y g0
  obtain ⟨a0,s0,w0,l0⟩:=q174 (enc:=Qh) (fun _=>q17h) h0
  exact ⟨a0,(.cons s0 .nil),⟨w0,l0⟩⟩
theorem q17d {x : List DV} (h : q2l [.int .u8,.int .i64,.int .i64,.int .i64] x) : ∃ a : K0,x = q17a a∧((Lit.int .u8 a.Turn).wf = true∧(I64 a.At.X∧I64 a.At.Y∧I64 a.At.Z)):=by
  obtain ⟨d0,r0,rfl,h0,g0⟩:=q16x h
  obtain ⟨d1,r1,rfl,h1,g1⟩:=q16x g0
  obtain ⟨d2,r2,rfl,h2,g2⟩:=q16x g1
  obtain ⟨d3,r3,rfl,h3,g3⟩:=q16x g2
  obtain rfl:=q16y g3
  obtain ⟨a0,rfl,w0⟩:=q173 h0
  obtain ⟨a1,rfl,w1⟩:=q173 h1
  obtain ⟨a2,rfl,w2⟩:=q173 h2
  obtain ⟨a3,rfl,w3⟩:=q173 h3
  exact ⟨⟨a0,⟨a1,a2,a3⟩⟩,rfl,⟨w0,⟨q177 w1,q177 w2,q177 w3⟩⟩⟩
theorem q179 (xs : List DV) (h : Ju [(true,[.sl [.int .i64,.int .i64,.int .i64,.int .i64,.int .i64,.int .i64,.int .i64],.sl [.int .u8,.int .u8,.int .i64,.int .i64,.int .i64],.int .u8,.int .i64,.int .i64,.int .i64,.int .i64]),(false,[.sl [.sl [.int .i64,.int .i64,.int .i64,.int .i64,.int .i64,.int .i64]]]),(true,[.int .u8,.int .i64,.int .i64,.int .i64])] xs) : Pure Tryz.prog tab 9 xs (.bool true):=by
  obtain ⟨d0,r0,rfl,h0,h⟩:=q16r h
  obtain ⟨d1,r1,rfl,h1,h⟩:=q16t h
  obtain ⟨d2,r2,rfl,h2,h⟩:=q16r h
  obtain rfl:=q16s h
  obtain ⟨p0,s0,w0⟩:=q17e h0
  obtain ⟨p1,s1,w1,l1⟩:=q175 (enc:=Qt) (fun _=>q17f) h1
  obtain ⟨p2,rfl,w2⟩:=q17d h2
  exact q4h (.cons (q2s s0) (.cons s1 (.cons (.refl _) .nil))) (q16v p0 p1 p2 true (q171 p0 p1 p2 (q176 w2.1) (q176 w0.2.2.1.1) (fun m hm=>q176 (w0.2.1.1 m hm).2.1)))
set_option maxRecDepth 100000 in
theorem q178 (os : Os) (started : os.Started) (H : Type) (enc : TypeId × Value→H) :
    ReturnsInHanded {} Tryz.checked os 9 .any (Rows.sweepPlacesSpec.pre6 enc Tryz.prog Tryz.f9 Rows.sweepPlacesRow.domain false) (Rows.sweepPlacesSpec.post enc Tryz.prog Tryz.f9 false true false false):=by
  refine returnsInHanded_of_change (C:=Tryz.checked) Tryz.own started (by kernel_rfl) Tryz.func9
    (ChangeSpec.witness6 (enc:=enc) (C:=Tryz.checked) false ⟨#[],#[.agg #[.slice none 0 0,.slice none 0 0,.int .u8 0,.int .i64 0,.int .i64 0,.int .i64 0,.int .i64 0],.slice none 0 0,.agg #[.int .u8 0,.int .i64 0,.int .i64 0,.int .i64 0]],[]⟩ 8 (by kernel_rfl) (by kernel_rfl) (by kernel_rfl) (by kernel_rfl)) ?_
  intro W base args ds gs before hval0 hW hcnd _
  have hread : (Tryz.f9.params.toList.all fun t=>Tryz.prog.readableRec t && decide (t < Tryz.prog.types.size)) = true:=by kernel_rfl
  have hps : Tryz.f9.params.toList.map (fun t=>(aggT Tryz.prog t,tyL Tryz.prog 8 t)) = ([(true,[.sl [.int .i64,.int .i64,.int .i64,.int .i64,.int .i64,.int .i64,.int .i64],.sl [.int .u8,.int .u8,.int .i64,.int .i64,.int .i64],.int .u8,.int .i64,.int .i64,.int .i64,.int .i64]),(false,[.sl [.sl [.int .i64,.int .i64,.int .i64,.int .i64,.int .i64,.int .i64]]]),(true,[.int .u8,.int .i64,.int .i64,.int .i64])] : List (Bool × List CT)).map (fun x=>(x.1,some x.2)):=by kernel_rfl
  refine contract (P:=Tryz.prog) (f:=Tryz.f9) (F:=9) (s:=Rows.sweepPlacesSpec) (tb:=4) (fuel:=8) (base:=base) q172 mixed Tryz.laidOut rfl (by kernel_rfl) (by kernel_rfl) (fun t ht=>?_) hps (fun ds hd=>?_) q179 hval0 hW
  · have:=List.all_eq_true.1 hread t ht
    simpa using this
  · have hd : ds.length = 3:=hd
    match ds,hd with
    | [a0,a1,a2],_=>rfl
theorem sweepPlaces_holds : Rows.SweepPlacesSaid:=
  OpenClaim.holds_of_wide 9 Tryz.f9 rfl rfl rfl rfl rfl rfl rfl ⟨rfl,rfl,rfl,rfl,rfl⟩ rfl rfl rfl rfl rfl (by kernel_rfl) Tryz.func9 (by kernel_rfl)
    (of_decide_eq_true (by kernel_rfl)) (by unfold Func.isWrapper;first | (rw [if_pos (by decide +kernel)];kernel_rfl) | (rw [if_neg (by decide +kernel)];exact ⟨rfl,rfl⟩))
    (fun os started H enc _=>q178 os started H enc)
end Go.Proofs.YtbknppciefodiaaGreat
