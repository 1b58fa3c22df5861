/- FinSolidParts -/
import Derived.Test.YtiejlbckgihckaaK16
import Derived.ProofKit
namespace Go.Proofs.Ytiejlbckgihckaa
open Go Go.Am Go.Sh
open Go.ChangeShapes Go.WideShapes Go.ChangeAt Go.RowKit
theorem Try.own : ownKnob Try.prog.godebug = none:=by kernel_rfl
theorem Try.laidOut : laidOutB Try.prog = true:=by kernel_rfl
theorem qy6 {x : List DV} (h : q6d [.int .i64,.int .i64,.int .i64,.int .i64,.int .i64,.int .i64] x) : ∃ a : qf,x = Q5 a∧((I64 a.Lo.X∧I64 a.Lo.Y∧I64 a.Lo.Z)∧(I64 a.Hi.X∧I64 a.Hi.Y∧I64 a.Hi.Z)):=by
  obtain ⟨d0,r0,rfl,h0,g0⟩:=qxv h
  obtain ⟨d1,r1,rfl,h1,g1⟩:=qxv g0
  obtain ⟨d2,r2,rfl,h2,g2⟩:=qxv g1
  obtain ⟨d3,r3,rfl,h3,g3⟩:=qxv g2
  obtain ⟨d4,r4,rfl,h4,g4⟩:=qxv g3
  obtain ⟨d5,r5,rfl,h5,g5⟩:=qxv g4
  obtain rfl:=qxw g5
  obtain ⟨a0,rfl,w0⟩:=qy1 h0
  obtain ⟨a1,rfl,w1⟩:=qy1 h1
  obtain ⟨a2,rfl,w2⟩:=qy1 h2
  obtain ⟨a3,rfl,w3⟩:=qy1 h3
  obtain ⟨a4,rfl,w4⟩:=qy1 h4
  obtain ⟨a5,rfl,w5⟩:=qy1 h5
  exact ⟨⟨⟨a0,a1,a2⟩,⟨a3,a4,a5⟩⟩,rfl,⟨⟨qy3 w0,qy3 w1,qy3 w2⟩,⟨qy3 w3,qy3 w4,qy3 w5⟩⟩⟩
theorem qy5 (xs : List DV) (h : Jp [(false,[.sl [.int .i64,.int .i64,.int .i64,.int .i64,.int .i64,.int .i64]])] xs) : Pure Try.prog tab 3 xs (.bool true):=by
  obtain ⟨d0,r0,rfl,h0,h⟩:=qxr h
  obtain rfl:=qxq h
  obtain ⟨p0,s0,w0,l0⟩:=qy2 (enc:=Q5) (fun _=>qy6) h0
  exact q74 (.cons s0 .nil) (qxt p0 true (qxy p0))
set_option maxRecDepth 100000 in
theorem qy4 (os : Os) (started : os.Started) (H : Type) (enc : TypeId × Value→H) :
    ReturnsInHanded {} Try.checked os 3 .any (Rows.solidPartsSpec.pre6 enc Try.prog Try.f3 Rows.solidPartsRow.domain false) (Rows.solidPartsSpec.post enc Try.prog Try.f3 false true false false):=by
  refine returnsInHanded_of_change (C:=Try.checked) Try.own started (by kernel_rfl) Try.func3
    (ChangeSpec.witness6 (enc:=enc) (C:=Try.checked) false ⟨#[],#[.slice none 0 0],[]⟩ 8 (by kernel_rfl) (by kernel_rfl) (by kernel_rfl) (by kernel_rfl)) ?_
  intro W base args ds gs before hval0 hW hcnd _
  have hread : (Try.f3.params.toList.all fun t=>Try.prog.readableRec t && decide (t < Try.prog.types.size)) = true:=by kernel_rfl
  have hps : Try.f3.params.toList.map (fun t=>(aggT Try.prog t,tyL Try.prog 8 t)) = ([(false,[.sl [.int .i64,.int .i64,.int .i64,.int .i64,.int .i64,.int .i64]])] : List (Bool × List CT)).map (fun x=>(x.1,some x.2)):=by kernel_rfl
  refine contract (P:=Try.prog) (f:=Try.f3) (F:=3) (s:=Rows.solidPartsSpec) (tb:=4) (fuel:=8) (base:=base) qy0 mixed Try.laidOut rfl (by kernel_rfl) (by kernel_rfl) (fun t ht=>?_) hps (fun ds hd=>?_) qy5 hval0 hW
  · have:=List.all_eq_true.1 hread t ht
    simpa using this
  · have hd : ds.length = 1:=hd
    match ds,hd with
    | [a0],_=>rfl
theorem solidParts_holds : Rows.SolidPartsSaid:=
  OpenClaim.holds_of_wide 3 Try.f3 rfl rfl rfl rfl rfl rfl rfl ⟨rfl,rfl,rfl,rfl,rfl⟩ rfl rfl rfl rfl rfl (by kernel_rfl) Try.func3 (by kernel_rfl)
    (of_decide_eq_true (by kernel_rfl)) (by unfold Func.isWrapper;first | (rw [if_pos (by decide +kernel)];kernel_rfl) | (rw [if_neg (by decide +kernel)];exact ⟨rfl,rfl⟩))
    (fun os started H enc _=>qy4 os started H enc)
end Go.Proofs.Ytiejlbckgihckaa
