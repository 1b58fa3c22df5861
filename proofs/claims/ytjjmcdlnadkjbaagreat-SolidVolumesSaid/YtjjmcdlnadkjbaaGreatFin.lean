/- FinSolidVolumes -/
import Derived.Test.YtjjmcdlnadkjbaaGreatK19
import Derived.ProofKit
namespace Go.Proofs.YtjjmcdlnadkjbaaGreat
open Go Go.Am Go.Sh
open Go.ChangeShapes Go.WideShapes Go.ChangeAt Go.RowKit
theorem Tryz.own : ownKnob Tryz.prog.godebug = none:=by kernel_rfl
theorem Tryz.laidOut : laidOutB Tryz.prog = true:=by kernel_rfl
theorem q10l {x : List DV} (h : q47 [.int .i64,.int .i64,.int .i64,.int .i64,.int .i64,.int .i64] x) : ∃ a : qf,x = qp a∧((I64 a.Lo.X∧I64 a.Lo.Y∧I64 a.Lo.Z)∧(I64 a.Hi.X∧I64 a.Hi.Y∧I64 a.Hi.Z)):=by
  obtain ⟨d0,r0,rfl,h0,g0⟩:=q10a h
  obtain ⟨d1,r1,rfl,h1,g1⟩:=q10a g0
  obtain ⟨d2,r2,rfl,h2,g2⟩:=q10a g1
  obtain ⟨d3,r3,rfl,h3,g3⟩:=q10a g2
  obtain ⟨d4,r4,rfl,h4,g4⟩:=q10a g3
  obtain ⟨d5,r5,rfl,h5,g5⟩:=q10a g4
  obtain rfl:=q10b g5
  obtain ⟨a0,rfl,w0⟩:=q10g h0
  obtain ⟨a1,rfl,w1⟩:=q10g h1
  obtain ⟨a2,rfl,w2⟩:=q10g h2
  obtain ⟨a3,rfl,w3⟩:=q10g h3
  obtain ⟨a4,rfl,w4⟩:=q10g h4
  obtain ⟨a5,rfl,w5⟩:=q10g h5
  exact ⟨⟨⟨a0,a1,a2⟩,⟨a3,a4,a5⟩⟩,rfl,⟨⟨q10i w0,q10i w1,q10i w2⟩,⟨q10i w3,q10i w4,q10i w5⟩⟩⟩
theorem q10k (xs : List DV) (h : Zt [(false,[.sl [.int .i64,.int .i64,.int .i64,.int .i64,.int .i64,.int .i64]]),(false,[.sl [.int .i64,.int .i64,.int .i64,.int .i64,.int .i64,.int .i64]])] xs) : Pure Tryz.prog tab 9 xs (.bool true):=by
  obtain ⟨d0,r0,rfl,h0,h⟩:=q104 h
  obtain ⟨d1,r1,rfl,h1,h⟩:=q104 h
  obtain rfl:=q103 h
  obtain ⟨p0,s0,w0,l0⟩:=q10h (enc:=qp) (fun _=>q10l) h0
  obtain ⟨p1,s1,w1,l1⟩:=q10h (enc:=qp) (fun _=>q10l) h1
  exact qb0 (.cons s0 (.cons s1 .nil)) (q108 p0 p1 true (q10e p0 p1))
set_option maxRecDepth 100000 in
theorem q10j (os : Os) (started : os.Started) (H : Type) (enc : TypeId × Value→H) :
    ReturnsInHanded {} Tryz.checked os 9 .any (Rows.solidVolumesSpec.pre6 enc Tryz.prog Tryz.f9 Rows.solidVolumesRow.domain false) (Rows.solidVolumesSpec.post enc Tryz.prog Tryz.f9 false true false false):=by
  refine returnsInHanded_of_change (C:=Tryz.checked) Tryz.own started (by kernel_rfl) Tryz.func9
    (ChangeSpec.witness6 (enc:=enc) (C:=Tryz.checked) false ⟨#[],#[.slice none 0 0,.slice none 0 0],[]⟩ 8 (by kernel_rfl) (by kernel_rfl) (by kernel_rfl) (by kernel_rfl)) ?_
  intro W base args ds gs before hval0 hW hcnd _
  have hread : (Tryz.f9.params.toList.all fun t=>Tryz.prog.readableRec t && decide (t < Tryz.prog.types.size)) = true:=by kernel_rfl
  have hps : Tryz.f9.params.toList.map (fun t=>(aggT Tryz.prog t,tyL Tryz.prog 8 t)) = ([(false,[.sl [.int .i64,.int .i64,.int .i64,.int .i64,.int .i64,.int .i64]]),(false,[.sl [.int .i64,.int .i64,.int .i64,.int .i64,.int .i64,.int .i64]])] : List (Bool × List CT)).map (fun x=>(x.1,some x.2)):=by kernel_rfl
  refine contract (P:=Tryz.prog) (f:=Tryz.f9) (F:=9) (s:=Rows.solidVolumesSpec) (tb:=4) (fuel:=8) (base:=base) q10f mixed Tryz.laidOut rfl (by kernel_rfl) (by kernel_rfl) (fun t ht=>?_) hps (fun ds hd=>?_) q10k hval0 hW
  · have:=List.all_eq_true.1 hread t ht
    simpa using this
  · have hd : ds.length = 2:=hd
    match ds,hd with
    | [a0,a1],_=>rfl
theorem solidVolumes_holds : Rows.SolidVolumesSaid:=
  OpenClaim.holds_of_wide 9 Tryz.f9 rfl rfl rfl rfl rfl rfl rfl ⟨rfl,rfl,rfl,rfl,rfl⟩ rfl rfl rfl rfl rfl (by kernel_rfl) Tryz.func9 (by kernel_rfl)
    (of_decide_eq_true (by kernel_rfl)) (by unfold Func.isWrapper;first | (rw [if_pos (by decide +kernel)];kernel_rfl) | (rw [if_neg (by decide +kernel)];exact ⟨rfl,rfl⟩))
    (fun os started H enc _=>q10j os started H enc)
end Go.Proofs.YtjjmcdlnadkjbaaGreat
