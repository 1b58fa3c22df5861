/- FinRaiseColumns -/
import Derived.Test.YtlchefooafpdlaaGreatK18
import Derived.ProofKit
namespace Go.Proofs.YtlchefooafpdlaaGreat
open Go Go.Am Go.Sh
open Go.ChangeShapes Go.WideShapes Go.ChangeAt Go.RowKit
theorem Tryz.own : ownKnob Tryz.prog.godebug = none:=by kernel_rfl
theorem Tryz.laidOut : laidOutB Tryz.prog = true:=by kernel_rfl
theorem q107 {x : List DV} (h : q45 [.int .i64,.int .i64,.int .i64,.int .i64,.int .i64,.int .i64] x) : ∃ a : qg,x = qw a∧((I64 a.Lo.X∧I64 a.Lo.Y∧I64 a.Lo.Z)∧(I64 a.Hi.X∧I64 a.Hi.Y∧I64 a.Hi.Z)):=by
  obtain ⟨d0,r0,rfl,h0,g0⟩:=qzy h
  obtain ⟨d1,r1,rfl,h1,g1⟩:=qzy g0
  obtain ⟨d2,r2,rfl,h2,g2⟩:=qzy g1
  obtain ⟨d3,r3,rfl,h3,g3⟩:=qzy g2
  obtain ⟨d4,r4,rfl,h4,g4⟩:=qzy g3
  obtain ⟨d5,r5,rfl,h5,g5⟩:=qzy g4
  obtain rfl:=qzz g5
  obtain ⟨a0,rfl,w0⟩:=q101 h0
  obtain ⟨a1,rfl,w1⟩:=q101 h1
  obtain ⟨a2,rfl,w2⟩:=q101 h2
  obtain ⟨a3,rfl,w3⟩:=q101 h3
  obtain ⟨a4,rfl,w4⟩:=q101 h4
  obtain ⟨a5,rfl,w5⟩:=q101 h5
  exact ⟨⟨⟨a0,a1,a2⟩,⟨a3,a4,a5⟩⟩,rfl,⟨⟨q103 w0,q103 w1,q103 w2⟩,⟨q103 w3,q103 w4,q103 w5⟩⟩⟩
theorem q106 {x : List DV} (h : q45 [.int .i64,.int .i64,.int .i64] x) : ∃ a : qi,x = q4b a∧(I64 a.X∧I64 a.Y∧I64 a.Z):=by
  obtain ⟨d0,r0,rfl,h0,g0⟩:=qzy h
  obtain ⟨d1,r1,rfl,h1,g1⟩:=qzy g0
  obtain ⟨d2,r2,rfl,h2,g2⟩:=qzy g1
  obtain rfl:=qzz g2
  obtain ⟨a0,rfl,w0⟩:=q101 h0
  obtain ⟨a1,rfl,w1⟩:=q101 h1
  obtain ⟨a2,rfl,w2⟩:=q101 h2
  exact ⟨⟨a0,a1,a2⟩,rfl,⟨q103 w0,q103 w1,q103 w2⟩⟩
theorem q105 (xs : List DV) (h : Zn [(false,[.sl [.int .i64,.int .i64,.int .i64,.int .i64,.int .i64,.int .i64]]),(true,[.int .i64,.int .i64,.int .i64])] xs) : Pure Tryz.prog tab 7 xs (.bool true):=by
  obtain ⟨d0,r0,rfl,h0,h⟩:=qzv h
  obtain ⟨d1,r1,rfl,h1,h⟩:=qzt h
  obtain rfl:=qzu h
  obtain ⟨p0,s0,w0,l0⟩:=q102 (enc:=qw) (fun _=>q107) h0
  obtain ⟨p1,rfl,w1⟩:=q106 h1
  exact q7e (.cons s0 (.cons (.refl _) .nil)) (qzw p0 p1 true (qzx p0 p1))
set_option maxRecDepth 100000 in
theorem q104 (os : Os) (started : os.Started) (H : Type) (enc : TypeId × Value→H) :
    ReturnsInHanded {} Tryz.checked os 7 .any (Rows.raiseColumnsSpec.pre6 enc Tryz.prog Tryz.f7 Rows.raiseColumnsRow.domain false) (Rows.raiseColumnsSpec.post enc Tryz.prog Tryz.f7 false true false false):=by
  refine returnsInHanded_of_change (C:=Tryz.checked) Tryz.own started (by kernel_rfl) Tryz.func7
    (ChangeSpec.witness6 (enc:=enc) (C:=Tryz.checked) false ⟨#[],#[.slice none 0 0,.agg #[.int .i64 0,.int .i64 0,.int .i64 0]],[]⟩ 8 (by kernel_rfl) (by kernel_rfl) (by kernel_rfl) (by kernel_rfl)) ?_
  intro W base args ds gs before hval0 hW hcnd _
  have hread : (Tryz.f7.params.toList.all fun t=>Tryz.prog.readableRec t && decide (t < Tryz.prog.types.size)) = true:=by kernel_rfl
  have hps : Tryz.f7.params.toList.map (fun t=>(aggT Tryz.prog t,tyL Tryz.prog 8 t)) = ([(false,[.sl [.int .i64,.int .i64,.int .i64,.int .i64,.int .i64,.int .i64]]),(true,[.int .i64,.int .i64,.int .i64])] : List (Bool × List CT)).map (fun x=>(x.1,some x.2)):=by kernel_rfl
  refine contract (P:=Tryz.prog) (f:=Tryz.f7) (F:=7) (s:=Rows.raiseColumnsSpec) (tb:=4) (fuel:=8) (base:=base) q100 mixed Tryz.laidOut rfl (by kernel_rfl) (by kernel_rfl) (fun t ht=>?_) hps (fun ds hd=>?_) q105 hval0 hW
  · have:=List.all_eq_true.1 hread t ht
    simpa using this
  · have hd : ds.length = 2:=hd
    match ds,hd with
    | [a0,a1],_=>rfl
theorem raiseColumns_holds : Rows.RaiseColumnsSaid:=
  OpenClaim.holds_of_wide 7 Tryz.f7 rfl rfl rfl rfl rfl rfl rfl ⟨rfl,rfl,rfl,rfl,rfl⟩ rfl rfl rfl rfl rfl (by kernel_rfl) Tryz.func7 (by kernel_rfl)
    (of_decide_eq_true (by kernel_rfl)) (by unfold Func.isWrapper;first | (rw [if_pos (by decide +kernel)];kernel_rfl) | (rw [if_neg (by decide +kernel)];exact ⟨rfl,rfl⟩))
    (fun os started H enc _=>q104 os started H enc)
end Go.Proofs.YtlchefooafpdlaaGreat
