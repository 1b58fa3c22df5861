/- FinRaiseStacks -/
import Derived.Test.YtlchefooafpdlaaGreatK18
import Derived.ProofKit
namespace Go.Proofs.YtlchefooafpdlaaGreat
open Go Go.Am Go.Sh
open Go.ChangeShapes Go.WideShapes Go.ChangeAt Go.RowKit
theorem Tryz.own : ownKnob Tryz.prog.godebug = none:=by kernel_rfl
theorem Tryz.laidOut : laidOutB Tryz.prog = true:=by kernel_rfl
theorem q101 {x : List DV} (h : q13 [.int .i64,.int .i64,.int .i64,.int .i64] x) : ∃ a : qf,x = qm a∧(I64 a.X0∧I64 a.Y0∧I64 a.X1∧I64 a.Y1):=by
  obtain ⟨d0,r0,rfl,h0,g0⟩:=qzr h
  obtain ⟨d1,r1,rfl,h1,g1⟩:=qzr g0
  obtain ⟨d2,r2,rfl,h2,g2⟩:=qzr g1
  obtain ⟨d3,r3,rfl,h3,g3⟩:=qzr g2
  obtain rfl:=qzs g3
  obtain ⟨a0,rfl,w0⟩:=qzu h0
  obtain ⟨a1,rfl,w1⟩:=qzu h1
  obtain ⟨a2,rfl,w2⟩:=qzu h2
  obtain ⟨a3,rfl,w3⟩:=qzu h3
  exact ⟨⟨a0,a1,a2,a3⟩,rfl,⟨qzx w0,qzx w1,qzx w2,qzx w3⟩⟩
theorem q100 {x : List DV} (h : q13 [.sl [.int .i64,.int .i64,.int .i64,.int .i64],.int .i64] x) : ∃ a : Qe,DLeL x (Kf a)∧(((∀ y∈a.Region,I64 y.X0∧I64 y.Y0∧I64 y.X1∧I64 y.Y1)∧a.Region.length≤maxLen)∧I64 a.Height):=by
  obtain ⟨d0,r0,rfl,h0,g0⟩:=qzr h
  obtain ⟨d1,r1,rfl,h1,g1⟩:=qzr g0
  obtain rfl:=qzs g1
  obtain ⟨a0,s0,w0,l0⟩:=qzv (enc:=qm) (fun _=>q101) h0
  obtain ⟨a1,rfl,w1⟩:=qzu h1
  exact ⟨⟨a0,a1⟩,(.cons s0 (.cons (.refl _) .nil)),⟨⟨w0,l0⟩,qzx w1⟩⟩
theorem q102 {x : List DV} (h : q13 [.int .i64,.int .i64,.int .i64] x) : ∃ a : qh,x = q45 a∧(I64 a.X∧I64 a.Y∧I64 a.Z):=by
  obtain ⟨d0,r0,rfl,h0,g0⟩:=qzr h
  obtain ⟨d1,r1,rfl,h1,g1⟩:=qzr g0
  obtain ⟨d2,r2,rfl,h2,g2⟩:=qzr g1
  obtain rfl:=qzs g2
  obtain ⟨a0,rfl,w0⟩:=qzu h0
  obtain ⟨a1,rfl,w1⟩:=qzu h1
  obtain ⟨a2,rfl,w2⟩:=qzu h2
  exact ⟨⟨a0,a1,a2⟩,rfl,⟨qzx w0,qzx w1,qzx w2⟩⟩
theorem qzz (xs : List DV) (h : Zq [(false,[.sl [.sl [.int .i64,.int .i64,.int .i64,.int .i64],.int .i64]]),(false,[.int .i64]),(true,[.int .i64,.int .i64,.int .i64])] xs) : Pure Tryz.prog tab 6 xs (.bool true):=by
  obtain ⟨d0,r0,rfl,h0,h⟩:=qzl h
  obtain ⟨d1,r1,rfl,h1,h⟩:=qzl h
  obtain ⟨d2,r2,rfl,h2,h⟩:=qzj h
  obtain rfl:=qzk h
  obtain ⟨p0,s0,w0,l0⟩:=qzw (enc:=Kf) (fun _=>q100) h0
  obtain ⟨p1,rfl,w1⟩:=qzu h1
  replace w1 : I64 p1:=qzx w1
  obtain ⟨p2,rfl,w2⟩:=q102 h2
  exact qdl (.cons s0 (.cons (.refl _) (.cons (.refl _) .nil))) (qzm p0 p1 p2 true (qzp p0 p1 p2 l0))
set_option maxRecDepth 100000 in
theorem qzy (os : Os) (started : os.Started) (H : Type) (enc : TypeId × Value→H) :
    ReturnsInHanded {} Tryz.checked os 6 .any (Rows.raiseStacksSpec.pre6 enc Tryz.prog Tryz.f6 Rows.raiseStacksRow.domain false) (Rows.raiseStacksSpec.post enc Tryz.prog Tryz.f6 false true false false):=by
  refine returnsInHanded_of_change (C:=Tryz.checked) Tryz.own started (by kernel_rfl) Tryz.func6
    (ChangeSpec.witness6 (enc:=enc) (C:=Tryz.checked) false ⟨#[],#[.slice none 0 0,.int .i64 0,.agg #[.int .i64 0,.int .i64 0,.int .i64 0]],[]⟩ 8 (by kernel_rfl) (by kernel_rfl) (by kernel_rfl) (by kernel_rfl)) ?_
  intro W base args ds gs before hval0 hW hcnd _
  have hread : (Tryz.f6.params.toList.all fun t=>Tryz.prog.readableRec t && decide (t < Tryz.prog.types.size)) = true:=by kernel_rfl
  have hps : Tryz.f6.params.toList.map (fun t=>(aggT Tryz.prog t,tyL Tryz.prog 8 t)) = ([(false,[.sl [.sl [.int .i64,.int .i64,.int .i64,.int .i64],.int .i64]]),(false,[.int .i64]),(true,[.int .i64,.int .i64,.int .i64])] : List (Bool × List CT)).map (fun x=>(x.1,some x.2)):=by kernel_rfl
  refine contract (P:=Tryz.prog) (f:=Tryz.f6) (F:=6) (s:=Rows.raiseStacksSpec) (tb:=4) (fuel:=8) (base:=base) qzt mixed Tryz.laidOut rfl (by kernel_rfl) (by kernel_rfl) (fun t ht=>?_) hps (fun ds hd=>?_) qzz hval0 hW
  · have:=List.all_eq_true.1 hread t ht
    simpa using this
  · have hd : ds.length = 3:=hd
    match ds,hd with
    | [a0,a1,a2],_=>rfl
theorem raiseStacks_holds : Rows.RaiseStacksSaid:=
  OpenClaim.holds_of_wide 6 Tryz.f6 rfl rfl rfl rfl rfl rfl rfl ⟨rfl,rfl,rfl,rfl,rfl⟩ rfl rfl rfl rfl rfl (by kernel_rfl) Tryz.func6 (by kernel_rfl)
    (of_decide_eq_true (by kernel_rfl)) (by unfold Func.isWrapper;first | (rw [if_pos (by decide +kernel)];kernel_rfl) | (rw [if_neg (by decide +kernel)];exact ⟨rfl,rfl⟩))
    (fun os started H enc _=>qzy os started H enc)
end Go.Proofs.YtlchefooafpdlaaGreat
