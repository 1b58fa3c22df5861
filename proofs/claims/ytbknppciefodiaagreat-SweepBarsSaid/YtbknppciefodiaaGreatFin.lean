/- FinSweepBars -/
import Derived.Test.YtbknppciefodiaaGreatK18
import Derived.ProofKit
namespace Go.Proofs.YtbknppciefodiaaGreat
open Go Go.Am Go.Sh
open Go.ChangeShapes Go.WideShapes Go.ChangeAt Go.RowKit
def qzu (x : K1) : List DV:=[.sl 7 (x.Lines.map Qf),.sl 5 (x.Marks.map Qy),.int .u8 x.End.Frame.Turn,.int .i64 x.End.Frame.At.X,.int .i64 x.End.Frame.At.Y,.int .i64 x.End.Frame.At.Z,.int .i64 x.End.Drawn]
theorem Tryz.own : ownKnob Tryz.prog.godebug = none:=by kernel_rfl
theorem Tryz.laidOut : laidOutB Tryz.prog = true:=by kernel_rfl
theorem qzy {x : List DV} (h : q19 [.int .i64,.int .i64,.int .i64,.int .i64,.int .i64,.int .i64,.int .i64] x) : ∃ a : Qv,x = Qf a∧((I64 a.From.X∧I64 a.From.Y∧I64 a.From.Z)∧(I64 a.To.X∧I64 a.To.Y∧I64 a.To.Z)∧I64 a.Depth):=by
  obtain ⟨d0,r0,rfl,h0,g0⟩:=qzk h
  obtain ⟨d1,r1,rfl,h1,g1⟩:=qzk g0
  obtain ⟨d2,r2,rfl,h2,g2⟩:=qzk g1
  obtain ⟨d3,r3,rfl,h3,g3⟩:=qzk g2
  obtain ⟨d4,r4,rfl,h4,g4⟩:=qzk g3
  obtain ⟨d5,r5,rfl,h5,g5⟩:=qzk g4
  obtain ⟨d6,r6,rfl,h6,g6⟩:=qzk g5
  obtain rfl:=qzl g6
  obtain ⟨a0,rfl,w0⟩:=qzo h0
  obtain ⟨a1,rfl,w1⟩:=qzo h1
  obtain ⟨a2,rfl,w2⟩:=qzo h2
  obtain ⟨a3,rfl,w3⟩:=qzo h3
  obtain ⟨a4,rfl,w4⟩:=qzo h4
  obtain ⟨a5,rfl,w5⟩:=qzo h5
  obtain ⟨a6,rfl,w6⟩:=qzo h6
  exact ⟨⟨⟨a0,a1,a2⟩,⟨a3,a4,a5⟩,a6⟩,rfl,⟨⟨qzr w0,qzr w1,qzr w2⟩,⟨qzr w3,qzr w4,qzr w5⟩,qzr w6⟩⟩
theorem qzv {x : List DV} (h : q19 [.int .u8,.int .u8,.int .i64,.int .i64,.int .i64] x) : ∃ a : Ye,x = Qy a∧((Lit.int .u8 a.Name).wf = true∧((Lit.int .u8 a.Frame.Turn).wf = true∧(I64 a.Frame.At.X∧I64 a.Frame.At.Y∧I64 a.Frame.At.Z))):=by
  obtain ⟨d0,r0,rfl,h0,g0⟩:=qzk h
  obtain ⟨d1,r1,rfl,h1,g1⟩:=qzk g0
  obtain ⟨d2,r2,rfl,h2,g2⟩:=qzk g1
  obtain ⟨d3,r3,rfl,h3,g3⟩:=qzk g2
  obtain ⟨d4,r4,rfl,h4,g4⟩:=qzk g3
  obtain rfl:=qzl g4
  obtain ⟨a0,rfl,w0⟩:=qzo h0
  obtain ⟨a1,rfl,w1⟩:=qzo h1
  obtain ⟨a2,rfl,w2⟩:=qzo h2
  obtain ⟨a3,rfl,w3⟩:=qzo h3
  obtain ⟨a4,rfl,w4⟩:=qzo h4
  exact ⟨⟨a0,⟨a1,⟨a2,a3,a4⟩⟩⟩,rfl,⟨w0,⟨w1,⟨qzr w2,qzr w3,qzr w4⟩⟩⟩⟩
theorem qzw {x : List DV} (h : q19 [.sl [.int .i64,.int .i64,.int .i64,.int .i64,.int .i64,.int .i64,.int .i64],.sl [.int .u8,.int .u8,.int .i64,.int .i64,.int .i64],.int .u8,.int .i64,.int .i64,.int .i64,.int .i64] x) : ∃ a : K1,DLeL x (qzu a)∧(((∀ y∈a.Lines,(I64 y.From.X∧I64 y.From.Y∧I64 y.From.Z)∧(I64 y.To.X∧I64 y.To.Y∧I64 y.To.Z)∧I64 y.Depth)∧a.Lines.length≤maxLen)∧((∀ y∈a.Marks,(Lit.int .u8 y.Name).wf = true∧((Lit.int .u8 y.Frame.Turn).wf = true∧(I64 y.Frame.At.X∧I64 y.Frame.At.Y∧I64 y.Frame.At.Z)))∧a.Marks.length≤maxLen)∧(((Lit.int .u8 a.End.Frame.Turn).wf = true∧(I64 a.End.Frame.At.X∧I64 a.End.Frame.At.Y∧I64 a.End.Frame.At.Z))∧I64 a.End.Drawn)):=by
  obtain ⟨d0,r0,rfl,h0,g0⟩:=qzk h
  obtain ⟨d1,r1,rfl,h1,g1⟩:=qzk g0
  obtain ⟨d2,r2,rfl,h2,g2⟩:=qzk g1
  obtain ⟨d3,r3,rfl,h3,g3⟩:=qzk g2
  obtain ⟨d4,r4,rfl,h4,g4⟩:=qzk g3
  obtain ⟨d5,r5,rfl,h5,g5⟩:=qzk g4
  obtain ⟨d6,r6,rfl,h6,g6⟩:=qzk g5
  obtain rfl:=qzl g6
  obtain ⟨a0,s0,w0,l0⟩:=qzp (enc:=Qf) (fun _=>qzy) h0
  obtain ⟨a1,s1,w1,l1⟩:=qzp (enc:=Qy) (fun _=>qzv) h1
  obtain ⟨a2,rfl,w2⟩:=qzo h2
  obtain ⟨a3,rfl,w3⟩:=qzo h3
  obtain ⟨a4,rfl,w4⟩:=qzo h4
  obtain ⟨a5,rfl,w5⟩:=qzo h5
  obtain ⟨a6,rfl,w6⟩:=qzo h6
  exact ⟨⟨a0,a1,⟨⟨a2,⟨a3,a4,a5⟩⟩,a6⟩⟩,(.cons s0 (.cons s1 (.cons (.refl _) (.cons (.refl _) (.cons (.refl _) (.cons (.refl _) (.cons (.refl _) .nil))))))),⟨⟨w0,l0⟩,⟨w1,l1⟩,⟨⟨w2,⟨qzr w3,qzr w4,qzr w5⟩⟩,qzr w6⟩⟩⟩
theorem qzz {x : List DV} (h : q19 [.int .i64,.int .i64,.int .i64,.int .i64,.int .i64,.int .i64] x) : ∃ a : qg,x = qw a∧((I64 a.Lo.X∧I64 a.Lo.Y∧I64 a.Lo.Z)∧(I64 a.Hi.X∧I64 a.Hi.Y∧I64 a.Hi.Z)):=by
  obtain ⟨d0,r0,rfl,h0,g0⟩:=qzk h
  obtain ⟨d1,r1,rfl,h1,g1⟩:=qzk g0
  obtain ⟨d2,r2,rfl,h2,g2⟩:=qzk g1
  obtain ⟨d3,r3,rfl,h3,g3⟩:=qzk g2
  obtain ⟨d4,r4,rfl,h4,g4⟩:=qzk g3
  obtain ⟨d5,r5,rfl,h5,g5⟩:=qzk g4
  obtain rfl:=qzl g5
  obtain ⟨a0,rfl,w0⟩:=qzo h0
  obtain ⟨a1,rfl,w1⟩:=qzo h1
  obtain ⟨a2,rfl,w2⟩:=qzo h2
  obtain ⟨a3,rfl,w3⟩:=qzo h3
  obtain ⟨a4,rfl,w4⟩:=qzo h4
  obtain ⟨a5,rfl,w5⟩:=qzo h5
  exact ⟨⟨⟨a0,a1,a2⟩,⟨a3,a4,a5⟩⟩,rfl,⟨⟨qzr w0,qzr w1,qzr w2⟩,⟨qzr w3,qzr w4,qzr w5⟩⟩⟩
theorem qzx {x : List DV} (h : q19 [.sl [.int .i64,.int .i64,.int .i64,.int .i64,.int .i64,.int .i64]] x) : ∃ a : List qg,DLeL x (Ql a)∧(((∀ y∈a,(I64 y.Lo.X∧I64 y.Lo.Y∧I64 y.Lo.Z)∧(I64 y.Hi.X∧I64 y.Hi.Y∧I64 y.Hi.Z))∧a.length≤maxLen)):=by
  obtain ⟨d0,r0,rfl,h0,g0⟩:=qzk h
  obtain rfl:=qzl g0
  obtain ⟨a0,s0,w0,l0⟩:=qzp (enc:=qw) (fun _=>qzz) h0
  exact ⟨a0,(.cons s0 .nil),⟨w0,l0⟩⟩
theorem qzt (xs : List DV) (h : Zx [(true,[.sl [.int .i64,.int .i64,.int .i64,.int .i64,.int .i64,.int .i64,.int .i64],.sl [.int .u8,.int .u8,.int .i64,.int .i64,.int .i64],.int .u8,.int .i64,.int .i64,.int .i64,.int .i64]),(false,[.sl [.sl [.int .i64,.int .i64,.int .i64,.int .i64,.int .i64,.int .i64]]])] xs) : Pure Tryz.prog tab 3 xs (.bool true):=by
  obtain ⟨d0,r0,rfl,h0,h⟩:=qzf h
  obtain ⟨d1,r1,rfl,h1,h⟩:=qzh h
  obtain rfl:=qzg h
  obtain ⟨p0,s0,w0⟩:=qzw h0
  obtain ⟨p1,s1,w1,l1⟩:=qzq (enc:=Ql) (fun _=>qzx) h1
  exact q7q (.cons (qgg s0) (.cons s1 .nil)) (qzi p0 p1 true (qzm p0 p1))
set_option maxRecDepth 100000 in
theorem qzs (os : Os) (started : os.Started) (H : Type) (enc : TypeId × Value→H) :
    ReturnsInHanded {} Tryz.checked os 3 .any (Rows.sweepBarsSpec.pre6 enc Tryz.prog Tryz.f3 Rows.sweepBarsRow.domain false) (Rows.sweepBarsSpec.post enc Tryz.prog Tryz.f3 false true false false):=by
  refine returnsInHanded_of_change (C:=Tryz.checked) Tryz.own started (by kernel_rfl) Tryz.func3
    (ChangeSpec.witness6 (enc:=enc) (C:=Tryz.checked) false ⟨#[],#[.agg #[.slice none 0 0,.slice none 0 0,.int .u8 0,.int .i64 0,.int .i64 0,.int .i64 0,.int .i64 0],.slice none 0 0],[]⟩ 8 (by kernel_rfl) (by kernel_rfl) (by kernel_rfl) (by kernel_rfl)) ?_
  intro W base args ds gs before hval0 hW hcnd _
  have hread : (Tryz.f3.params.toList.all fun t=>Tryz.prog.readableRec t && decide (t < Tryz.prog.types.size)) = true:=by kernel_rfl
  have hps : Tryz.f3.params.toList.map (fun t=>(aggT Tryz.prog t,tyL Tryz.prog 8 t)) = ([(true,[.sl [.int .i64,.int .i64,.int .i64,.int .i64,.int .i64,.int .i64,.int .i64],.sl [.int .u8,.int .u8,.int .i64,.int .i64,.int .i64],.int .u8,.int .i64,.int .i64,.int .i64,.int .i64]),(false,[.sl [.sl [.int .i64,.int .i64,.int .i64,.int .i64,.int .i64,.int .i64]]])] : List (Bool × List CT)).map (fun x=>(x.1,some x.2)):=by kernel_rfl
  refine contract (P:=Tryz.prog) (f:=Tryz.f3) (F:=3) (s:=Rows.sweepBarsSpec) (tb:=4) (fuel:=8) (base:=base) qzn mixed Tryz.laidOut rfl (by kernel_rfl) (by kernel_rfl) (fun t ht=>?_) hps (fun ds hd=>?_) qzt hval0 hW
  · have:=List.all_eq_true.1 hread t ht
    simpa using this
  · have hd : ds.length = 2:=hd
    match ds,hd with
    | [a0,a1],_=>rfl
theorem sweepBars_holds : Rows.SweepBarsSaid:=
  OpenClaim.holds_of_wide 3 Tryz.f3 rfl rfl rfl rfl rfl rfl rfl ⟨rfl,rfl,rfl,rfl,rfl⟩ rfl rfl rfl rfl rfl (by kernel_rfl) Tryz.func3 (by kernel_rfl)
    (of_decide_eq_true (by kernel_rfl)) (by unfold Func.isWrapper;first | (rw [if_pos (by decide +kernel)];kernel_rfl) | (rw [if_neg (by decide +kernel)];exact ⟨rfl,rfl⟩))
    (fun os started H enc _=>qzs os started H enc)
end Go.Proofs.YtbknppciefodiaaGreat
