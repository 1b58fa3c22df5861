/- FinStreetWalks -/
import Derived.Test.YtgkialgkmjnfbaaK20
import Derived.ProofKit
namespace Go.Proofs.Ytgkialgkmjnfbaa
open Go Go.Am Go.Sh
open Go.ChangeShapes Go.WideShapes Go.ChangeAt Go.RowKit
theorem Try.own : ownKnob Try.prog.godebug = none:=by kernel_rfl
theorem Try.laidOut : laidOutB Try.prog = true:=by kernel_rfl
theorem q141 {x : List DV} (h : q5c [.int .i64,.int .i64,.int .u8,.int .i64,.int .i64] x) : ∃ a : K5,x = Kz a∧((I64 a.At.X∧I64 a.At.Y)∧(Lit.int .u8 a.Kind).wf = true∧I64 a.Weight∧I64 a.Reach):=by
  obtain ⟨d0,r0,rfl,h0,g0⟩:=q13p h
  obtain ⟨d1,r1,rfl,h1,g1⟩:=q13p g0
  obtain ⟨d2,r2,rfl,h2,g2⟩:=q13p g1
  obtain ⟨d3,r3,rfl,h3,g3⟩:=q13p g2
  obtain ⟨d4,r4,rfl,h4,g4⟩:=q13p g3
  obtain rfl:=q13q g4
  obtain ⟨a0,rfl,w0⟩:=q13u h0
  obtain ⟨a1,rfl,w1⟩:=q13u h1
  obtain ⟨a2,rfl,w2⟩:=q13u h2
  obtain ⟨a3,rfl,w3⟩:=q13u h3
  obtain ⟨a4,rfl,w4⟩:=q13u h4
  exact ⟨⟨⟨a0,a1⟩,a2,a3,a4⟩,rfl,⟨⟨q13x w0,q13x w1⟩,w2,q13x w3,q13x w4⟩⟩
theorem q140 {x : List DV} (h : q5c [.int .i64,.int .i64,.int .u8,.int .i64] x) : ∃ a : Ku,x = Zx a∧((I64 a.At.X∧I64 a.At.Y)∧(Lit.int .u8 a.Head).wf = true∧I64 a.Steps):=by
  obtain ⟨d0,r0,rfl,h0,g0⟩:=q13p h
  obtain ⟨d1,r1,rfl,h1,g1⟩:=q13p g0
  obtain ⟨d2,r2,rfl,h2,g2⟩:=q13p g1
  obtain ⟨d3,r3,rfl,h3,g3⟩:=q13p g2
  obtain rfl:=q13q g3
  obtain ⟨a0,rfl,w0⟩:=q13u h0
  obtain ⟨a1,rfl,w1⟩:=q13u h1
  obtain ⟨a2,rfl,w2⟩:=q13u h2
  obtain ⟨a3,rfl,w3⟩:=q13u h3
  exact ⟨⟨⟨a0,a1⟩,a2,a3⟩,rfl,⟨⟨q13x w0,q13x w1⟩,w2,q13x w3⟩⟩
theorem q13z (xs : List DV) (h : U4 [(false,[.sl [.int .i64,.int .i64,.int .u8,.int .i64,.int .i64]]),(true,[.int .i64,.int .i64,.int .u8,.int .i64])] xs) : Pure Try.prog tab 4 xs (.bool true):=by
  obtain ⟨d0,r0,rfl,h0,h⟩:=q13m h
  obtain ⟨d1,r1,rfl,h1,h⟩:=q13k h
  obtain rfl:=q13l h
  obtain ⟨p0,s0,w0,l0⟩:=q13v (enc:=Kz) (fun _=>q141) h0
  obtain ⟨p1,rfl,w1⟩:=q140 h1
  exact qmv (.cons s0 (.cons (.refl _) .nil)) (q13n p0 p1 true (q13s p0 p1 (q13w w1.2.1)))
set_option maxRecDepth 100000 in
theorem q13y (os : Os) (started : os.Started) (H : Type) (enc : TypeId × Value→H) :
    ReturnsInHanded {} Try.checked os 4 .any (Rows.streetWalksSpec.pre6 enc Try.prog Try.f4 Rows.streetWalksRow.domain false) (Rows.streetWalksSpec.post enc Try.prog Try.f4 false true false false):=by
  refine returnsInHanded_of_change (C:=Try.checked) Try.own started (by kernel_rfl) Try.func4
    (ChangeSpec.witness6 (enc:=enc) (C:=Try.checked) false ⟨#[],#[.slice none 0 0,.agg #[.int .i64 0,.int .i64 0,.int .u8 0,.int .i64 0]],[]⟩ 8 (by kernel_rfl) (by kernel_rfl) (by kernel_rfl) (by kernel_rfl)) ?_
  intro W base args ds gs before hval0 hW hcnd _
  have hread : (Try.f4.params.toList.all fun t=>Try.prog.readableRec t && decide (t < Try.prog.types.size)) = true:=by kernel_rfl
  have hps : Try.f4.params.toList.map (fun t=>(aggT Try.prog t,tyL Try.prog 8 t)) = ([(false,[.sl [.int .i64,.int .i64,.int .u8,.int .i64,.int .i64]]),(true,[.int .i64,.int .i64,.int .u8,.int .i64])] : List (Bool × List CT)).map (fun x=>(x.1,some x.2)):=by kernel_rfl
  refine contract (P:=Try.prog) (f:=Try.f4) (F:=4) (s:=Rows.streetWalksSpec) (tb:=4) (fuel:=8) (base:=base) q13t mixed Try.laidOut rfl (by kernel_rfl) (by kernel_rfl) (fun t ht=>?_) hps (fun ds hd=>?_) q13z hval0 hW
  · have:=List.all_eq_true.1 hread t ht
    simpa using this
  · have hd : ds.length = 2:=hd
    match ds,hd with
    | [a0,a1],_=>rfl
theorem streetWalks_holds : Rows.StreetWalksSaid:=
  OpenClaim.holds_of_wide 4 Try.f4 rfl rfl rfl rfl rfl rfl rfl ⟨rfl,rfl,rfl,rfl,rfl⟩ rfl rfl rfl rfl rfl (by kernel_rfl) Try.func4 (by kernel_rfl)
    (of_decide_eq_true (by kernel_rfl)) (by unfold Func.isWrapper;first | (rw [if_pos (by decide +kernel)];kernel_rfl) | (rw [if_neg (by decide +kernel)];exact ⟨rfl,rfl⟩))
    (fun os started H enc _=>q13y os started H enc)
end Go.Proofs.Ytgkialgkmjnfbaa
