/- FinSolidLooks -/
import Derived.Test.YtjjmcdlnadkjbaaGreatK19
import Derived.ProofKit
namespace Go.Proofs.YtjjmcdlnadkjbaaGreat
open Go Go.Am Go.Sh
open Go.ChangeShapes Go.WideShapes Go.ChangeAt Go.RowKit
def qz5 (x : Qx) : List DV:=[.int .u8 x.Turn,.int .i64 x.At.X,.int .i64 x.At.Y,.int .i64 x.At.Z]
theorem Tryz.own : ownKnob Tryz.prog.godebug = none:=by kernel_rfl
theorem Tryz.laidOut : laidOutB Tryz.prog = true:=by kernel_rfl
theorem qz7 {x : List DV} (h : q3w [.int .i64,.int .i64,.int .i64,.int .i64,.int .i64,.int .i64] x) : ∃ a : qd,x = qr a∧((I64 a.Lo.X∧I64 a.Lo.Y∧I64 a.Lo.Z)∧(I64 a.Hi.X∧I64 a.Hi.Y∧I64 a.Hi.Z)):=by
  obtain ⟨d0,r0,rfl,h0,g0⟩:=qyv h
  obtain ⟨d1,r1,rfl,h1,g1⟩:=qyv g0
  obtain ⟨d2,r2,rfl,h2,g2⟩:=qyv g1
  obtain ⟨d3,r3,rfl,h3,g3⟩:=qyv g2
  obtain ⟨d4,r4,rfl,h4,g4⟩:=qyv g3
  obtain ⟨d5,r5,rfl,h5,g5⟩:=qyv g4
  obtain rfl:=qyw g5
  obtain ⟨a0,rfl,w0⟩:=qyz h0
  obtain ⟨a1,rfl,w1⟩:=qyz h1
  obtain ⟨a2,rfl,w2⟩:=qyz h2
  obtain ⟨a3,rfl,w3⟩:=qyz h3
  obtain ⟨a4,rfl,w4⟩:=qyz h4
  obtain ⟨a5,rfl,w5⟩:=qyz h5
  exact ⟨⟨⟨a0,a1,a2⟩,⟨a3,a4,a5⟩⟩,rfl,⟨⟨qz2 w0,qz2 w1,qz2 w2⟩,⟨qz2 w3,qz2 w4,qz2 w5⟩⟩⟩
theorem qz6 {x : List DV} (h : q3w [.int .u8,.int .i64,.int .i64,.int .i64] x) : ∃ a : Qx,x = qz5 a∧((Lit.int .u8 a.Turn).wf = true∧(I64 a.At.X∧I64 a.At.Y∧I64 a.At.Z)):=by
  obtain ⟨d0,r0,rfl,h0,g0⟩:=qyv h
  obtain ⟨d1,r1,rfl,h1,g1⟩:=qyv g0
  obtain ⟨d2,r2,rfl,h2,g2⟩:=qyv g1
  obtain ⟨d3,r3,rfl,h3,g3⟩:=qyv g2
  obtain rfl:=qyw g3
  obtain ⟨a0,rfl,w0⟩:=qyz h0
  obtain ⟨a1,rfl,w1⟩:=qyz h1
  obtain ⟨a2,rfl,w2⟩:=qyz h2
  obtain ⟨a3,rfl,w3⟩:=qyz h3
  exact ⟨⟨a0,⟨a1,a2,a3⟩⟩,rfl,⟨w0,⟨qz2 w1,qz2 w2,qz2 w3⟩⟩⟩
theorem qz4 (xs : List DV) (h : Zo [(false,[.sl [.int .i64,.int .i64,.int .i64,.int .i64,.int .i64,.int .i64]]),(true,[.int .u8,.int .i64,.int .i64,.int .i64]),(false,[.int .i64])] xs) : Pure Tryz.prog tab 5 xs (.bool true):=by
  obtain ⟨d0,r0,rfl,h0,h⟩:=qys h
  obtain ⟨d1,r1,rfl,h1,h⟩:=qyq h
  obtain ⟨d2,r2,rfl,h2,h⟩:=qys h
  obtain rfl:=qyr h
  obtain ⟨p0,s0,w0,l0⟩:=qz0 (enc:=qr) (fun _=>qz7) h0
  obtain ⟨p1,rfl,w1⟩:=qz6 h1
  obtain ⟨p2,rfl,w2⟩:=qyz h2
  replace w2 : I64 p2:=qz2 w2
  exact q4k (.cons s0 (.cons (.refl _) (.cons (.refl _) .nil))) (qyt p0 p1 p2 true (qyx p0 p1 p2 (qz1 w1.1)))
set_option maxRecDepth 100000 in
theorem qz3 (os : Os) (started : os.Started) (H : Type) (enc : TypeId × Value→H) :
    ReturnsInHanded {} Tryz.checked os 5 .any (Rows.solidLooksSpec.pre6 enc Tryz.prog Tryz.f5 Rows.solidLooksRow.domain false) (Rows.solidLooksSpec.post enc Tryz.prog Tryz.f5 false true false false):=by
  refine returnsInHanded_of_change (C:=Tryz.checked) Tryz.own started (by kernel_rfl) Tryz.func5
    (ChangeSpec.witness6 (enc:=enc) (C:=Tryz.checked) false ⟨#[],#[.slice none 0 0,.agg #[.int .u8 0,.int .i64 0,.int .i64 0,.int .i64 0],.int .i64 0],[]⟩ 8 (by kernel_rfl) (by kernel_rfl) (by kernel_rfl) (by kernel_rfl)) ?_
  intro W base args ds gs before hval0 hW hcnd _
  have hread : (Tryz.f5.params.toList.all fun t=>Tryz.prog.readableRec t && decide (t < Tryz.prog.types.size)) = true:=by kernel_rfl
  have hps : Tryz.f5.params.toList.map (fun t=>(aggT Tryz.prog t,tyL Tryz.prog 8 t)) = ([(false,[.sl [.int .i64,.int .i64,.int .i64,.int .i64,.int .i64,.int .i64]]),(true,[.int .u8,.int .i64,.int .i64,.int .i64]),(false,[.int .i64])] : List (Bool × List CT)).map (fun x=>(x.1,some x.2)):=by kernel_rfl
  refine contract (P:=Tryz.prog) (f:=Tryz.f5) (F:=5) (s:=Rows.solidLooksSpec) (tb:=4) (fuel:=8) (base:=base) qyy mixed Tryz.laidOut rfl (by kernel_rfl) (by kernel_rfl) (fun t ht=>?_) hps (fun ds hd=>?_) qz4 hval0 hW
  · have:=List.all_eq_true.1 hread t ht
    simpa using this
  · have hd : ds.length = 3:=hd
    match ds,hd with
    | [a0,a1,a2],_=>rfl
theorem solidLooks_holds : Rows.SolidLooksSaid:=
  OpenClaim.holds_of_wide 5 Tryz.f5 rfl rfl rfl rfl rfl rfl rfl ⟨rfl,rfl,rfl,rfl,rfl⟩ rfl rfl rfl rfl rfl (by kernel_rfl) Tryz.func5 (by kernel_rfl)
    (of_decide_eq_true (by kernel_rfl)) (by unfold Func.isWrapper;first | (rw [if_pos (by decide +kernel)];kernel_rfl) | (rw [if_neg (by decide +kernel)];exact ⟨rfl,rfl⟩))
    (fun os started H enc _=>qz3 os started H enc)
end Go.Proofs.YtjjmcdlnadkjbaaGreat
