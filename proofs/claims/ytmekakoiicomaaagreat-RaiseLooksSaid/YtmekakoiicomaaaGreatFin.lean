/- FinRaiseLooks -/
import Derived.Test.YtmekakoiicomaaaGreatK19
import Derived.ProofKit
namespace Go.Proofs.YtmekakoiicomaaaGreat
open Go Go.Am Go.Sh
open Go.ChangeShapes Go.WideShapes Go.ChangeAt Go.RowKit
theorem Tryz.own : ownKnob Tryz.prog.godebug = none:=by kernel_rfl
theorem Tryz.laidOut : laidOutB Tryz.prog = true:=by kernel_rfl
theorem q15b {x : List DV} (h : q8l [.int .i64,.int .i64,.int .i64,.int .i64,.int .i64,.int .i64] x) : ∃ a : qk,x = Qn a∧((I64 a.Lo.X∧I64 a.Lo.Y∧I64 a.Lo.Z)∧(I64 a.Hi.X∧I64 a.Hi.Y∧I64 a.Hi.Z)):=by
  obtain ⟨d0,r0,rfl,h0,g0⟩:=q152 h
  obtain ⟨d1,r1,rfl,h1,g1⟩:=q152 g0
  obtain ⟨d2,r2,rfl,h2,g2⟩:=q152 g1
  obtain ⟨d3,r3,rfl,h3,g3⟩:=q152 g2
  obtain ⟨d4,r4,rfl,h4,g4⟩:=q152 g3
  obtain ⟨d5,r5,rfl,h5,g5⟩:=q152 g4
  obtain rfl:=q153 g5
  obtain ⟨a0,rfl,w0⟩:=q156 h0
  obtain ⟨a1,rfl,w1⟩:=q156 h1
  obtain ⟨a2,rfl,w2⟩:=q156 h2
  obtain ⟨a3,rfl,w3⟩:=q156 h3
  obtain ⟨a4,rfl,w4⟩:=q156 h4
  obtain ⟨a5,rfl,w5⟩:=q156 h5
  exact ⟨⟨⟨a0,a1,a2⟩,⟨a3,a4,a5⟩⟩,rfl,⟨⟨q158 w0,q158 w1,q158 w2⟩,⟨q158 w3,q158 w4,q158 w5⟩⟩⟩
theorem q15a (xs : List DV) (h : q1g [(false,[.sl [.int .i64,.int .i64,.int .i64,.int .i64,.int .i64,.int .i64]]),(false,[.int .i64]),(false,[.int .i64]),(false,[.int .i64])] xs) : Pure Tryz.prog tab 5 xs (.bool true):=by
  obtain ⟨d0,r0,rfl,h0,h⟩:=q14x h
  obtain ⟨d1,r1,rfl,h1,h⟩:=q14x h
  obtain ⟨d2,r2,rfl,h2,h⟩:=q14x h
  obtain ⟨d3,r3,rfl,h3,h⟩:=q14x h
  obtain rfl:=q14w h
  obtain ⟨p0,s0,w0,l0⟩:=q157 (enc:=Qn) (fun _=>q15b) h0
  obtain ⟨p1,rfl,w1⟩:=q156 h1
  replace w1 : I64 p1:=q158 w1
  obtain ⟨p2,rfl,w2⟩:=q156 h2
  replace w2 : I64 p2:=q158 w2
  obtain ⟨p3,rfl,w3⟩:=q156 h3
  replace w3 : I64 p3:=q158 w3
  exact Ue (.cons s0 (.cons (.refl _) (.cons (.refl _) (.cons (.refl _) .nil)))) (q14z p0 p1 p2 p3 true (q151 p0 p1 p2 p3))
set_option maxRecDepth 100000 in
theorem q159 (os : Os) (started : os.Started) (H : Type) (enc : TypeId × Value→H) :
    ReturnsInHanded {} Tryz.checked os 5 .any (Rows.raiseLooksSpec.pre6 enc Tryz.prog Tryz.f5 Rows.raiseLooksRow.domain false) (Rows.raiseLooksSpec.post enc Tryz.prog Tryz.f5 false true false false):=by
  refine returnsInHanded_of_change (C:=Tryz.checked) Tryz.own started (by kernel_rfl) Tryz.func5
    (ChangeSpec.witness6 (enc:=enc) (C:=Tryz.checked) false ⟨#[],#[.slice none 0 0,.int .i64 0,.int .i64 0,.int .i64 0],[]⟩ 8 (by kernel_rfl) (by kernel_rfl) (by kernel_rfl) (by kernel_rfl)) ?_
  intro W base args ds gs before hval0 hW hcnd _
  have hread : (Tryz.f5.params.toList.all fun t=>Tryz.prog.readableRec t && decide (t < Tryz.prog.types.size)) = true:=by kernel_rfl
  have hps : Tryz.f5.params.toList.map (fun t=>(aggT Tryz.prog t,tyL Tryz.prog 8 t)) = ([(false,[.sl [.int .i64,.int .i64,.int .i64,.int .i64,.int .i64,.int .i64]]),(false,[.int .i64]),(false,[.int .i64]),(false,[.int .i64])] : List (Bool × List CT)).map (fun x=>(x.1,some x.2)):=by kernel_rfl
  refine contract (P:=Tryz.prog) (f:=Tryz.f5) (F:=5) (s:=Rows.raiseLooksSpec) (tb:=4) (fuel:=8) (base:=base) q155 mixed Tryz.laidOut rfl (by kernel_rfl) (by kernel_rfl) (fun t ht=>?_) hps (fun ds hd=>?_) q15a hval0 hW
  · have:=List.all_eq_true.1 hread t ht
    simpa using this
  · have hd : ds.length = 4:=hd
    match ds,hd with
    | [a0,a1,a2,a3],_=>rfl
theorem raiseLooks_holds : Rows.RaiseLooksSaid:=
  OpenClaim.holds_of_wide 5 Tryz.f5 rfl rfl rfl rfl rfl rfl rfl ⟨rfl,rfl,rfl,rfl,rfl⟩ rfl rfl rfl rfl rfl (by kernel_rfl) Tryz.func5 (by kernel_rfl)
    (of_decide_eq_true (by kernel_rfl)) (by unfold Func.isWrapper;first | (rw [if_pos (by decide +kernel)];kernel_rfl) | (rw [if_neg (by decide +kernel)];exact ⟨rfl,rfl⟩))
    (fun os started H enc _=>q159 os started H enc)
end Go.Proofs.YtmekakoiicomaaaGreat
