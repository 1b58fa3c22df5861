/- FinSolidSections -/
import Derived.Test.YtjjmcdlnadkjbaaGreatK18
import Derived.ProofKit
namespace Go.Proofs.YtjjmcdlnadkjbaaGreat
open Go Go.Am Go.Sh
open Go.ChangeShapes Go.WideShapes Go.ChangeAt Go.RowKit
theorem Tryz.own : ownKnob Tryz.prog.godebug = none:=by kernel_rfl
theorem Tryz.laidOut : laidOutB Tryz.prog = true:=by kernel_rfl
theorem q15f {x : List DV} (h : qm7 [.int .i64,.int .i64,.int .i64,.int .i64,.int .i64,.int .i64] x) : ∃ a : q8,x = qf a∧((I64 a.Lo.X∧I64 a.Lo.Y∧I64 a.Lo.Z)∧(I64 a.Hi.X∧I64 a.Hi.Y∧I64 a.Hi.Z)):=by
  obtain ⟨d0,r0,rfl,h0,g0⟩:=q14z h
  obtain ⟨d1,r1,rfl,h1,g1⟩:=q14z g0
  obtain ⟨d2,r2,rfl,h2,g2⟩:=q14z g1
  obtain ⟨d3,r3,rfl,h3,g3⟩:=q14z g2
  obtain ⟨d4,r4,rfl,h4,g4⟩:=q14z g3
  obtain ⟨d5,r5,rfl,h5,g5⟩:=q14z g4
  obtain rfl:=q153 g5
  obtain ⟨a0,rfl,w0⟩:=q158 h0
  obtain ⟨a1,rfl,w1⟩:=q158 h1
  obtain ⟨a2,rfl,w2⟩:=q158 h2
  obtain ⟨a3,rfl,w3⟩:=q158 h3
  obtain ⟨a4,rfl,w4⟩:=q158 h4
  obtain ⟨a5,rfl,w5⟩:=q158 h5
  exact ⟨⟨⟨a0,a1,a2⟩,⟨a3,a4,a5⟩⟩,rfl,⟨⟨q159 w0,q159 w1,q159 w2⟩,⟨q159 w3,q159 w4,q159 w5⟩⟩⟩
theorem q15e {x : List DV} (h : qm7 [.int .i64,.int .i64,.int .i64] x) : ∃ a : qk,x = q14j a∧(I64 a.X∧I64 a.Y∧I64 a.Z):=by
  obtain ⟨d0,r0,rfl,h0,g0⟩:=q14z h
  obtain ⟨d1,r1,rfl,h1,g1⟩:=q14z g0
  obtain ⟨d2,r2,rfl,h2,g2⟩:=q14z g1
  obtain rfl:=q153 g2
  obtain ⟨a0,rfl,w0⟩:=q158 h0
  obtain ⟨a1,rfl,w1⟩:=q158 h1
  obtain ⟨a2,rfl,w2⟩:=q158 h2
  exact ⟨⟨a0,a1,a2⟩,rfl,⟨q159 w0,q159 w1,q159 w2⟩⟩
theorem q15d (xs : List DV) (h : qb4 [(false,[.sl [.int .i64,.int .i64,.int .i64,.int .i64,.int .i64,.int .i64]]),(true,[.int .i64,.int .i64,.int .i64])] xs) : Pure Tryz.prog tab 7 xs (.bool true):=by
  obtain ⟨d0,r0,rfl,h0,h⟩:=q156 h
  obtain ⟨d1,r1,rfl,h1,h⟩:=q154 h
  obtain rfl:=q155 h
  obtain ⟨p0,s0,w0,l0⟩:=q15b (enc:=qf) (fun _=>q15f) h0
  obtain ⟨p1,rfl,w1⟩:=q15e h1
  exact qf5 (.cons s0 (.cons (.refl _) .nil)) (qxx p0 p1 true (q13t p0 p1))
set_option maxRecDepth 100000 in
theorem q15c (os : Os) (started : os.Started) (H : Type) (enc : TypeId × Value→H) :
    ReturnsInHanded {} Tryz.checked os 7 .any (Rows.solidSectionsSpec.pre6 enc Tryz.prog Tryz.f7 Rows.solidSectionsRow.domain false) (Rows.solidSectionsSpec.post enc Tryz.prog Tryz.f7 false true false false):=by
  refine returnsInHanded_of_change (C:=Tryz.checked) Tryz.own started (by kernel_rfl) Tryz.func7
    (ChangeSpec.witness6 (enc:=enc) (C:=Tryz.checked) false ⟨#[],#[.slice none 0 0,.agg #[.int .i64 0,.int .i64 0,.int .i64 0]],[]⟩ 8 (by kernel_rfl) (by kernel_rfl) (by kernel_rfl) (by kernel_rfl)) ?_
  intro W base args ds gs before hval0 hW hcnd _
  have hread : (Tryz.f7.params.toList.all fun t=>Tryz.prog.readableRec t && decide (t < Tryz.prog.types.size)) = true:=by kernel_rfl
  have hps : Tryz.f7.params.toList.map (fun t=>(aggT Tryz.prog t,tyL Tryz.prog 8 t)) = ([(false,[.sl [.int .i64,.int .i64,.int .i64,.int .i64,.int .i64,.int .i64]]),(true,[.int .i64,.int .i64,.int .i64])] : List (Bool × List CT)).map (fun x=>(x.1,some x.2)):=by kernel_rfl
  refine contract (P:=Tryz.prog) (f:=Tryz.f7) (F:=7) (s:=Rows.solidSectionsSpec) (tb:=4) (fuel:=8) (base:=base) q15a mixed Tryz.laidOut rfl (by kernel_rfl) (by kernel_rfl) (fun t ht=>?_) hps (fun ds hd=>?_) q15d hval0 hW
  · have:=List.all_eq_true.1 hread t ht
    simpa using this
  · have hd : ds.length = 2:=hd
    match ds,hd with
    | [a0,a1],_=>rfl
theorem solidSections_holds : Rows.SolidSectionsSaid:=
  OpenClaim.holds_of_wide 7 Tryz.f7 rfl rfl rfl rfl rfl rfl rfl ⟨rfl,rfl,rfl,rfl,rfl⟩ rfl rfl rfl rfl rfl (by kernel_rfl) Tryz.func7 (by kernel_rfl)
    (of_decide_eq_true (by kernel_rfl)) (by unfold Func.isWrapper;first | (rw [if_pos (by decide +kernel)];kernel_rfl) | (rw [if_neg (by decide +kernel)];exact ⟨rfl,rfl⟩))
    (fun os started H enc _=>q15c os started H enc)
end Go.Proofs.YtjjmcdlnadkjbaaGreat
