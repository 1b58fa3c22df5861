/- FinSolidTurns -/
import Derived.Test.YtjjmcdlnadkjbaaGreatK18
import Derived.ProofKit
namespace Go.Proofs.YtjjmcdlnadkjbaaGreat
open Go Go.Am Go.Sh
open Go.ChangeShapes Go.WideShapes Go.ChangeAt Go.RowKit
def q102 (x : Qj) : List DV:=[.int .u8 x.Turn,.int .i64 x.At.X,.int .i64 x.At.Y,.int .i64 x.At.Z]
theorem Tryz.own : ownKnob Tryz.prog.godebug = none:=by kernel_rfl
theorem Tryz.laidOut : laidOutB Tryz.prog = true:=by kernel_rfl
theorem q105 {x : List DV} (h : q42 [.int .i64,.int .i64,.int .i64,.int .i64,.int .i64,.int .i64] x) : ∃ a : qg,x = qy a∧((I64 a.Lo.X∧I64 a.Lo.Y∧I64 a.Lo.Z)∧(I64 a.Hi.X∧I64 a.Hi.Y∧I64 a.Hi.Z)):=by
  obtain ⟨d0,r0,rfl,h0,g0⟩:=qzs h
  obtain ⟨d1,r1,rfl,h1,g1⟩:=qzs g0
  obtain ⟨d2,r2,rfl,h2,g2⟩:=qzs g1
  obtain ⟨d3,r3,rfl,h3,g3⟩:=qzs g2
  obtain ⟨d4,r4,rfl,h4,g4⟩:=qzs g3
  obtain ⟨d5,r5,rfl,h5,g5⟩:=qzs g4
  obtain rfl:=qzt g5
  obtain ⟨a0,rfl,w0⟩:=qzw h0
  obtain ⟨a1,rfl,w1⟩:=qzw h1
  obtain ⟨a2,rfl,w2⟩:=qzw h2
  obtain ⟨a3,rfl,w3⟩:=qzw h3
  obtain ⟨a4,rfl,w4⟩:=qzw h4
  obtain ⟨a5,rfl,w5⟩:=qzw h5
  exact ⟨⟨⟨a0,a1,a2⟩,⟨a3,a4,a5⟩⟩,rfl,⟨⟨qzz w0,qzz w1,qzz w2⟩,⟨qzz w3,qzz w4,qzz w5⟩⟩⟩
theorem q104 {x : List DV} (h : q42 [.int .u8,.int .i64,.int .i64,.int .i64] x) : ∃ a : Qj,x = q102 a∧((Lit.int .u8 a.Turn).wf = true∧(I64 a.At.X∧I64 a.At.Y∧I64 a.At.Z)):=by
  obtain ⟨d0,r0,rfl,h0,g0⟩:=qzs h
  obtain ⟨d1,r1,rfl,h1,g1⟩:=qzs g0
  obtain ⟨d2,r2,rfl,h2,g2⟩:=qzs g1
  obtain ⟨d3,r3,rfl,h3,g3⟩:=qzs g2
  obtain rfl:=qzt g3
  obtain ⟨a0,rfl,w0⟩:=qzw h0
  obtain ⟨a1,rfl,w1⟩:=qzw h1
  obtain ⟨a2,rfl,w2⟩:=qzw h2
  obtain ⟨a3,rfl,w3⟩:=qzw h3
  exact ⟨⟨a0,⟨a1,a2,a3⟩⟩,rfl,⟨w0,⟨qzz w1,qzz w2,qzz w3⟩⟩⟩
theorem q103 {x : List DV} (h : q42 [.int .i64,.int .i64,.int .i64] x) : ∃ a : qj,x = q4c a∧(I64 a.X∧I64 a.Y∧I64 a.Z):=by
  obtain ⟨d0,r0,rfl,h0,g0⟩:=qzs h
  obtain ⟨d1,r1,rfl,h1,g1⟩:=qzs g0
  obtain ⟨d2,r2,rfl,h2,g2⟩:=qzs g1
  obtain rfl:=qzt g2
  obtain ⟨a0,rfl,w0⟩:=qzw h0
  obtain ⟨a1,rfl,w1⟩:=qzw h1
  obtain ⟨a2,rfl,w2⟩:=qzw h2
  exact ⟨⟨a0,a1,a2⟩,rfl,⟨qzz w0,qzz w1,qzz w2⟩⟩
theorem q101 (xs : List DV) (h : Zn [(false,[.sl [.int .i64,.int .i64,.int .i64,.int .i64,.int .i64,.int .i64]]),(true,[.int .u8,.int .i64,.int .i64,.int .i64]),(true,[.int .i64,.int .i64,.int .i64])] xs) : Pure Tryz.prog tab 6 xs (.bool true):=by
  obtain ⟨d0,r0,rfl,h0,h⟩:=qzp h
  obtain ⟨d1,r1,rfl,h1,h⟩:=qzn h
  obtain ⟨d2,r2,rfl,h2,h⟩:=qzn h
  obtain rfl:=qzo h
  obtain ⟨p0,s0,w0,l0⟩:=qzx (enc:=qy) (fun _=>q105) h0
  obtain ⟨p1,rfl,w1⟩:=q104 h1
  obtain ⟨p2,rfl,w2⟩:=q103 h2
  exact q7f (.cons s0 (.cons (.refl _) (.cons (.refl _) .nil))) (qzq p0 p1 p2 true (qzu p0 p1 p2 (qzy w1.1)))
set_option maxRecDepth 100000 in
theorem q100 (os : Os) (started : os.Started) (H : Type) (enc : TypeId × Value→H) :
    ReturnsInHanded {} Tryz.checked os 6 .any (Rows.solidTurnsSpec.pre6 enc Tryz.prog Tryz.f6 Rows.solidTurnsRow.domain false) (Rows.solidTurnsSpec.post enc Tryz.prog Tryz.f6 false true false false):=by
  refine returnsInHanded_of_change (C:=Tryz.checked) Tryz.own started (by kernel_rfl) Tryz.func6
    (ChangeSpec.witness6 (enc:=enc) (C:=Tryz.checked) false ⟨#[],#[.slice none 0 0,.agg #[.int .u8 0,.int .i64 0,.int .i64 0,.int .i64 0],.agg #[.int .i64 0,.int .i64 0,.int .i64 0]],[]⟩ 8 (by kernel_rfl) (by kernel_rfl) (by kernel_rfl) (by kernel_rfl)) ?_
  intro W base args ds gs before hval0 hW hcnd _
  have hread : (Tryz.f6.params.toList.all fun t=>Tryz.prog.readableRec t && decide (t < Tryz.prog.types.size)) = true:=by kernel_rfl
  have hps : Tryz.f6.params.toList.map (fun t=>(aggT Tryz.prog t,tyL Tryz.prog 8 t)) = ([(false,[.sl [.int .i64,.int .i64,.int .i64,.int .i64,.int .i64,.int .i64]]),(true,[.int .u8,.int .i64,.int .i64,.int .i64]),(true,[.int .i64,.int .i64,.int .i64])] : List (Bool × List CT)).map (fun x=>(x.1,some x.2)):=by kernel_rfl
  refine contract (P:=Tryz.prog) (f:=Tryz.f6) (F:=6) (s:=Rows.solidTurnsSpec) (tb:=4) (fuel:=8) (base:=base) qzv mixed Tryz.laidOut rfl (by kernel_rfl) (by kernel_rfl) (fun t ht=>?_) hps (fun ds hd=>?_) q101 hval0 hW
  · have:=List.all_eq_true.1 hread t ht
    simpa using this
  · have hd : ds.length = 3:=hd
    match ds,hd with
    | [a0,a1,a2],_=>rfl
theorem solidTurns_holds : Rows.SolidTurnsSaid:=
  OpenClaim.holds_of_wide 6 Tryz.f6 rfl rfl rfl rfl rfl rfl rfl ⟨rfl,rfl,rfl,rfl,rfl⟩ rfl rfl rfl rfl rfl (by kernel_rfl) Tryz.func6 (by kernel_rfl)
    (of_decide_eq_true (by kernel_rfl)) (by unfold Func.isWrapper;first | (rw [if_pos (by decide +kernel)];kernel_rfl) | (rw [if_neg (by decide +kernel)];exact ⟨rfl,rfl⟩))
    (fun os started H enc _=>q100 os started H enc)
end Go.Proofs.YtjjmcdlnadkjbaaGreat
