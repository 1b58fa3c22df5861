/- FinStreetHas -/
import Derived.Test.YtgkialgkmjnfbaaGreatK21
import Derived.ProofKit
namespace Go.Proofs.YtgkialgkmjnfbaaGreat
open Go Go.Am Go.Sh
open Go.ChangeShapes Go.WideShapes Go.ChangeAt Go.RowKit
theorem Tryz.own : ownKnob Tryz.prog.godebug = none:=by kernel_rfl
theorem Tryz.laidOut : laidOutB Tryz.prog = true:=by kernel_rfl
theorem q14f {x : List DV} (h : q52 [.int .i64,.int .i64,.int .i64,.int .i64] x) : ∃ a : qt,x = Kb a∧((I64 a.A.X∧I64 a.A.Y)∧(I64 a.B.X∧I64 a.B.Y)):=by
  obtain ⟨d0,r0,rfl,h0,g0⟩:=q144 h
  obtain ⟨d1,r1,rfl,h1,g1⟩:=q144 g0
  obtain ⟨d2,r2,rfl,h2,g2⟩:=q144 g1
  obtain ⟨d3,r3,rfl,h3,g3⟩:=q144 g2
  obtain rfl:=q145 g3
  obtain ⟨a0,rfl,w0⟩:=q149 h0
  obtain ⟨a1,rfl,w1⟩:=q149 h1
  obtain ⟨a2,rfl,w2⟩:=q149 h2
  obtain ⟨a3,rfl,w3⟩:=q149 h3
  exact ⟨⟨⟨a0,a1⟩,⟨a2,a3⟩⟩,rfl,⟨⟨q14b w0,q14b w1⟩,⟨q14b w2,q14b w3⟩⟩⟩
theorem q14e {x : List DV} (h : q52 [.int .i64,.int .i64] x) : ∃ a : qa,x = qq a∧(I64 a.X∧I64 a.Y):=by
  obtain ⟨d0,r0,rfl,h0,g0⟩:=q144 h
  obtain ⟨d1,r1,rfl,h1,g1⟩:=q144 g0
  obtain rfl:=q145 g1
  obtain ⟨a0,rfl,w0⟩:=q149 h0
  obtain ⟨a1,rfl,w1⟩:=q149 h1
  exact ⟨⟨a0,a1⟩,rfl,⟨q14b w0,q14b w1⟩⟩
theorem q14d (xs : List DV) (h : Ju [(false,[.sl [.int .i64,.int .i64,.int .i64,.int .i64]]),(true,[.int .i64,.int .i64])] xs) : Pure Tryz.prog tab 8 xs (.bool true):=by
  obtain ⟨d0,r0,rfl,h0,h⟩:=q141 h
  obtain ⟨d1,r1,rfl,h1,h⟩:=q13z h
  obtain rfl:=q140 h
  obtain ⟨p0,s0,w0,l0⟩:=q14a (enc:=Kb) (fun _=>q14f) h0
  obtain ⟨p1,rfl,w1⟩:=q14e h1
  exact qn5 (.cons s0 (.cons (.refl _) .nil)) (q142 p0 p1 true (q147 p0 p1 l0))
set_option maxRecDepth 100000 in
theorem q14c (os : Os) (started : os.Started) (H : Type) (enc : TypeId × Value→H) :
    ReturnsInHanded {} Tryz.checked os 8 .any (Rows.streetHasSpec.pre6 enc Tryz.prog Tryz.f8 Rows.streetHasRow.domain false) (Rows.streetHasSpec.post enc Tryz.prog Tryz.f8 false true false false):=by
  refine returnsInHanded_of_change (C:=Tryz.checked) Tryz.own started (by kernel_rfl) Tryz.func8
    (ChangeSpec.witness6 (enc:=enc) (C:=Tryz.checked) false ⟨#[],#[.slice none 0 0,.agg #[.int .i64 0,.int .i64 0]],[]⟩ 8 (by kernel_rfl) (by kernel_rfl) (by kernel_rfl) (by kernel_rfl)) ?_
  intro W base args ds gs before hval0 hW hcnd _
  have hread : (Tryz.f8.params.toList.all fun t=>Tryz.prog.readableRec t && decide (t < Tryz.prog.types.size)) = true:=by kernel_rfl
  have hps : Tryz.f8.params.toList.map (fun t=>(aggT Tryz.prog t,tyL Tryz.prog 8 t)) = ([(false,[.sl [.int .i64,.int .i64,.int .i64,.int .i64]]),(true,[.int .i64,.int .i64])] : List (Bool × List CT)).map (fun x=>(x.1,some x.2)):=by kernel_rfl
  refine contract (P:=Tryz.prog) (f:=Tryz.f8) (F:=8) (s:=Rows.streetHasSpec) (tb:=4) (fuel:=8) (base:=base) q148 mixed Tryz.laidOut rfl (by kernel_rfl) (by kernel_rfl) (fun t ht=>?_) hps (fun ds hd=>?_) q14d hval0 hW
  · have:=List.all_eq_true.1 hread t ht
    simpa using this
  · have hd : ds.length = 2:=hd
    match ds,hd with
    | [a0,a1],_=>rfl
theorem streetHas_holds : Rows.StreetHasSaid:=
  OpenClaim.holds_of_wide 8 Tryz.f8 rfl rfl rfl rfl rfl rfl rfl ⟨rfl,rfl,rfl,rfl,rfl⟩ rfl rfl rfl rfl rfl (by kernel_rfl) Tryz.func8 (by kernel_rfl)
    (of_decide_eq_true (by kernel_rfl)) (by unfold Func.isWrapper;first | (rw [if_pos (by decide +kernel)];kernel_rfl) | (rw [if_neg (by decide +kernel)];exact ⟨rfl,rfl⟩))
    (fun os started H enc _=>q14c os started H enc)
end Go.Proofs.YtgkialgkmjnfbaaGreat
