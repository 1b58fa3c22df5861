/- FinSunRays -/
import Derived.Test.YtmnfbjlabfeneaaGreatK18
import Derived.ProofKit
namespace Go.Proofs.YtmnfbjlabfeneaaGreat
open Go Go.Am Go.Sh
open Go.ChangeShapes Go.WideShapes Go.ChangeAt Go.RowKit
theorem Tryz.own : ownKnob Tryz.prog.godebug = none:=by kernel_rfl
theorem Tryz.laidOut : laidOutB Tryz.prog = true:=by kernel_rfl
theorem q101 {x : List DV} (h : q49 [.int .i64,.int .i64,.int .i64,.int .i64,.int .i64,.int .i64] x) : ∃ a : qj,x = Qi a∧((I64 a.Lo.X∧I64 a.Lo.Y∧I64 a.Lo.Z)∧(I64 a.Hi.X∧I64 a.Hi.Y∧I64 a.Hi.Z)):=by
  obtain ⟨d0,r0,rfl,h0,g0⟩:=qzq h
  obtain ⟨d1,r1,rfl,h1,g1⟩:=qzq g0
  obtain ⟨d2,r2,rfl,h2,g2⟩:=qzq g1
  obtain ⟨d3,r3,rfl,h3,g3⟩:=qzq g2
  obtain ⟨d4,r4,rfl,h4,g4⟩:=qzq g3
  obtain ⟨d5,r5,rfl,h5,g5⟩:=qzq g4
  obtain rfl:=qzr g5
  obtain ⟨a0,rfl,w0⟩:=qzv h0
  obtain ⟨a1,rfl,w1⟩:=qzv h1
  obtain ⟨a2,rfl,w2⟩:=qzv h2
  obtain ⟨a3,rfl,w3⟩:=qzv h3
  obtain ⟨a4,rfl,w4⟩:=qzv h4
  obtain ⟨a5,rfl,w5⟩:=qzv h5
  exact ⟨⟨⟨a0,a1,a2⟩,⟨a3,a4,a5⟩⟩,rfl,⟨⟨qzx w0,qzx w1,qzx w2⟩,⟨qzx w3,qzx w4,qzx w5⟩⟩⟩
theorem q100 {x : List DV} (h : q49 [.int .i64,.int .i64,.int .i64] x) : ∃ a : Q4,x = K3 a∧(I64 a.X∧I64 a.Y∧I64 a.Z):=by
  obtain ⟨d0,r0,rfl,h0,g0⟩:=qzq h
  obtain ⟨d1,r1,rfl,h1,g1⟩:=qzq g0
  obtain ⟨d2,r2,rfl,h2,g2⟩:=qzq g1
  obtain rfl:=qzr g2
  obtain ⟨a0,rfl,w0⟩:=qzv h0
  obtain ⟨a1,rfl,w1⟩:=qzv h1
  obtain ⟨a2,rfl,w2⟩:=qzv h2
  exact ⟨⟨a0,a1,a2⟩,rfl,⟨qzx w0,qzx w1,qzx w2⟩⟩
theorem qzz (xs : List DV) (h : J5 [(false,[.sl [.int .i64,.int .i64,.int .i64,.int .i64,.int .i64,.int .i64]]),(true,[.int .i64,.int .i64,.int .i64]),(true,[.int .i64,.int .i64,.int .i64])] xs) : Pure Tryz.prog tab 5 xs (.bool true):=by
  obtain ⟨d0,r0,rfl,h0,h⟩:=qzl h
  obtain ⟨d1,r1,rfl,h1,h⟩:=qzj h
  obtain ⟨d2,r2,rfl,h2,h⟩:=qzj h
  obtain rfl:=qzk h
  obtain ⟨p0,s0,w0,l0⟩:=qzw (enc:=Qi) (fun _=>q101) h0
  obtain ⟨p1,rfl,w1⟩:=q100 h1
  obtain ⟨p2,rfl,w2⟩:=q100 h2
  exact qas (.cons s0 (.cons (.refl _) (.cons (.refl _) .nil))) (qzo p0 p1 p2 true (qzt p0 p1 p2))
set_option maxRecDepth 100000 in
theorem qzy (os : Os) (started : os.Started) (H : Type) (enc : TypeId × Value→H) :
    ReturnsInHanded {} Tryz.checked os 5 .any (Rows.sunRaysSpec.pre6 enc Tryz.prog Tryz.f5 Rows.sunRaysRow.domain false) (Rows.sunRaysSpec.post enc Tryz.prog Tryz.f5 false true false false):=by
  refine returnsInHanded_of_change (C:=Tryz.checked) Tryz.own started (by kernel_rfl) Tryz.func5
    (ChangeSpec.witness6 (enc:=enc) (C:=Tryz.checked) false ⟨#[],#[.slice none 0 0,.agg #[.int .i64 0,.int .i64 0,.int .i64 0],.agg #[.int .i64 0,.int .i64 0,.int .i64 0]],[]⟩ 8 (by kernel_rfl) (by kernel_rfl) (by kernel_rfl) (by kernel_rfl)) ?_
  intro W base args ds gs before hval0 hW hcnd _
  have hread : (Tryz.f5.params.toList.all fun t=>Tryz.prog.readableRec t && decide (t < Tryz.prog.types.size)) = true:=by kernel_rfl
  have hps : Tryz.f5.params.toList.map (fun t=>(aggT Tryz.prog t,tyL Tryz.prog 8 t)) = ([(false,[.sl [.int .i64,.int .i64,.int .i64,.int .i64,.int .i64,.int .i64]]),(true,[.int .i64,.int .i64,.int .i64]),(true,[.int .i64,.int .i64,.int .i64])] : List (Bool × List CT)).map (fun x=>(x.1,some x.2)):=by kernel_rfl
  refine contract (P:=Tryz.prog) (f:=Tryz.f5) (F:=5) (s:=Rows.sunRaysSpec) (tb:=4) (fuel:=8) (base:=base) qzu mixed Tryz.laidOut rfl (by kernel_rfl) (by kernel_rfl) (fun t ht=>?_) hps (fun ds hd=>?_) qzz hval0 hW
  · have:=List.all_eq_true.1 hread t ht
    simpa using this
  · have hd : ds.length = 3:=hd
    match ds,hd with
    | [a0,a1,a2],_=>rfl
theorem sunRays_holds : Rows.SunRaysSaid:=
  OpenClaim.holds_of_wide 5 Tryz.f5 rfl rfl rfl rfl rfl rfl rfl ⟨rfl,rfl,rfl,rfl,rfl⟩ rfl rfl rfl rfl rfl (by kernel_rfl) Tryz.func5 (by kernel_rfl)
    (of_decide_eq_true (by kernel_rfl)) (by unfold Func.isWrapper;first | (rw [if_pos (by decide +kernel)];kernel_rfl) | (rw [if_neg (by decide +kernel)];exact ⟨rfl,rfl⟩))
    (fun os started H enc _=>qzy os started H enc)
end Go.Proofs.YtmnfbjlabfeneaaGreat
