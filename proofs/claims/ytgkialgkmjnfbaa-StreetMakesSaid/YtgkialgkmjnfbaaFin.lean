/- FinStreetMakes -/
import Derived.Test.YtgkialgkmjnfbaaK20
import Derived.ProofKit
namespace Go.Proofs.Ytgkialgkmjnfbaa
open Go Go.Am Go.Sh
open Go.ChangeShapes Go.WideShapes Go.ChangeAt Go.RowKit
theorem Try.own : ownKnob Try.prog.godebug = none:=by kernel_rfl
theorem Try.laidOut : laidOutB Try.prog = true:=by kernel_rfl
theorem qzk {x : List DV} (h : q6e [.int .i64,.int .i64,.int .i64,.int .i64] x) : ∃ a : Qw,x = K9 a∧((I64 a.A.X∧I64 a.A.Y)∧(I64 a.B.X∧I64 a.B.Y)):=by
  obtain ⟨d0,r0,rfl,h0,g0⟩:=qza h
  obtain ⟨d1,r1,rfl,h1,g1⟩:=qza g0
  obtain ⟨d2,r2,rfl,h2,g2⟩:=qza g1
  obtain ⟨d3,r3,rfl,h3,g3⟩:=qza g2
  obtain rfl:=qzb g3
  obtain ⟨a0,rfl,w0⟩:=qzf h0
  obtain ⟨a1,rfl,w1⟩:=qzf h1
  obtain ⟨a2,rfl,w2⟩:=qzf h2
  obtain ⟨a3,rfl,w3⟩:=qzf h3
  exact ⟨⟨⟨a0,a1⟩,⟨a2,a3⟩⟩,rfl,⟨⟨qzh w0,qzh w1⟩,⟨qzh w2,qzh w3⟩⟩⟩
theorem qzj (xs : List DV) (h : Uf [(false,[.sl [.int .i64,.int .i64,.int .i64,.int .i64]])] xs) : Pure Try.prog tab 3 xs (.bool true):=by
  obtain ⟨d0,r0,rfl,h0,h⟩:=qz7 h
  obtain rfl:=qz6 h
  obtain ⟨p0,s0,w0,l0⟩:=qzg (enc:=K9) (fun _=>qzk) h0
  exact qu0 (.cons s0 .nil) (qz8 p0 true (qzd p0))
set_option maxRecDepth 100000 in
theorem qzi (os : Os) (started : os.Started) (H : Type) (enc : TypeId × Value→H) :
    ReturnsInHanded {} Try.checked os 3 .any (Rows.streetMakesSpec.pre6 enc Try.prog Try.f3 Rows.streetMakesRow.domain false) (Rows.streetMakesSpec.post enc Try.prog Try.f3 false true false false):=by
  refine returnsInHanded_of_change (C:=Try.checked) Try.own started (by kernel_rfl) Try.func3
    (ChangeSpec.witness6 (enc:=enc) (C:=Try.checked) false ⟨#[],#[.slice none 0 0],[]⟩ 8 (by kernel_rfl) (by kernel_rfl) (by kernel_rfl) (by kernel_rfl)) ?_
  intro W base args ds gs before hval0 hW hcnd _
  have hread : (Try.f3.params.toList.all fun t=>Try.prog.readableRec t && decide (t < Try.prog.types.size)) = true:=by kernel_rfl
  have hps : Try.f3.params.toList.map (fun t=>(aggT Try.prog t,tyL Try.prog 8 t)) = ([(false,[.sl [.int .i64,.int .i64,.int .i64,.int .i64]])] : List (Bool × List CT)).map (fun x=>(x.1,some x.2)):=by kernel_rfl
  refine contract (P:=Try.prog) (f:=Try.f3) (F:=3) (s:=Rows.streetMakesSpec) (tb:=4) (fuel:=8) (base:=base) qze mixed Try.laidOut rfl (by kernel_rfl) (by kernel_rfl) (fun t ht=>?_) hps (fun ds hd=>?_) qzj hval0 hW
  · have:=List.all_eq_true.1 hread t ht
    simpa using this
  · have hd : ds.length = 1:=hd
    match ds,hd with
    | [a0],_=>rfl
theorem streetMakes_holds : Rows.StreetMakesSaid:=
  OpenClaim.holds_of_wide 3 Try.f3 rfl rfl rfl rfl rfl rfl rfl ⟨rfl,rfl,rfl,rfl,rfl⟩ rfl rfl rfl rfl rfl (by kernel_rfl) Try.func3 (by kernel_rfl)
    (of_decide_eq_true (by kernel_rfl)) (by unfold Func.isWrapper;first | (rw [if_pos (by decide +kernel)];kernel_rfl) | (rw [if_neg (by decide +kernel)];exact ⟨rfl,rfl⟩))
    (fun os started H enc _=>qzi os started H enc)
end Go.Proofs.Ytgkialgkmjnfbaa
