/- FinSunMore -/
import Derived.Test.YtmnfbjlabfeneaaGreatK19
import Derived.ProofKit
namespace Go.Proofs.YtmnfbjlabfeneaaGreat
open Go Go.Am Go.Sh
open Go.ChangeShapes Go.WideShapes Go.ChangeAt Go.RowKit
theorem Tryz.own : ownKnob Tryz.prog.godebug = none:=by kernel_rfl
theorem Tryz.laidOut : laidOutB Tryz.prog = true:=by kernel_rfl
theorem q149 {x : List DV} (h : q54 [.int .i64,.int .i64,.int .i64,.int .i64,.int .i64,.int .i64] x) : ∃ a : qg,x = Q6 a∧((I64 a.Lo.X∧I64 a.Lo.Y∧I64 a.Lo.Z)∧(I64 a.Hi.X∧I64 a.Hi.Y∧I64 a.Hi.Z)):=by
  obtain ⟨d0,r0,rfl,h0,g0⟩:=q13y h
  obtain ⟨d1,r1,rfl,h1,g1⟩:=q13y g0
  obtain ⟨d2,r2,rfl,h2,g2⟩:=q13y g1
  obtain ⟨d3,r3,rfl,h3,g3⟩:=q13y g2
  obtain ⟨d4,r4,rfl,h4,g4⟩:=q13y g3
  obtain ⟨d5,r5,rfl,h5,g5⟩:=q13y g4
  obtain rfl:=q13z g5
  obtain ⟨a0,rfl,w0⟩:=q143 h0
  obtain ⟨a1,rfl,w1⟩:=q143 h1
  obtain ⟨a2,rfl,w2⟩:=q143 h2
  obtain ⟨a3,rfl,w3⟩:=q143 h3
  obtain ⟨a4,rfl,w4⟩:=q143 h4
  obtain ⟨a5,rfl,w5⟩:=q143 h5
  exact ⟨⟨⟨a0,a1,a2⟩,⟨a3,a4,a5⟩⟩,rfl,⟨⟨q145 w0,q145 w1,q145 w2⟩,⟨q145 w3,q145 w4,q145 w5⟩⟩⟩
theorem q148 {x : List DV} (h : q54 [.int .i64,.int .i64,.int .i64] x) : ∃ a : ql,x = K4 a∧(I64 a.X∧I64 a.Y∧I64 a.Z):=by
  obtain ⟨d0,r0,rfl,h0,g0⟩:=q13y h
  obtain ⟨d1,r1,rfl,h1,g1⟩:=q13y g0
  obtain ⟨d2,r2,rfl,h2,g2⟩:=q13y g1
  obtain rfl:=q13z g2
  obtain ⟨a0,rfl,w0⟩:=q143 h0
  obtain ⟨a1,rfl,w1⟩:=q143 h1
  obtain ⟨a2,rfl,w2⟩:=q143 h2
  exact ⟨⟨a0,a1,a2⟩,rfl,⟨q145 w0,q145 w1,q145 w2⟩⟩
theorem q147 (xs : List DV) (h : Jm [(false,[.sl [.int .i64,.int .i64,.int .i64,.int .i64,.int .i64,.int .i64]]),(false,[.sl [.int .i64,.int .i64,.int .i64,.int .i64,.int .i64,.int .i64]]),(true,[.int .i64,.int .i64,.int .i64]),(true,[.int .i64,.int .i64,.int .i64])] xs) : Pure Tryz.prog tab 9 xs (.bool true):=by
  obtain ⟨d0,r0,rfl,h0,h⟩:=q13r h
  obtain ⟨d1,r1,rfl,h1,h⟩:=q13r h
  obtain ⟨d2,r2,rfl,h2,h⟩:=q13p h
  obtain ⟨d3,r3,rfl,h3,h⟩:=q13p h
  obtain rfl:=q13q h
  obtain ⟨p0,s0,w0,l0⟩:=q144 (enc:=Q6) (fun _=>q149) h0
  obtain ⟨p1,s1,w1,l1⟩:=q144 (enc:=Q6) (fun _=>q149) h1
  obtain ⟨p2,rfl,w2⟩:=q148 h2
  obtain ⟨p3,rfl,w3⟩:=q148 h3
  exact qcg (.cons s0 (.cons s1 (.cons (.refl _) (.cons (.refl _) .nil)))) (q13w p0 p1 p2 p3 true (q141 p0 p1 p2 p3))
set_option maxRecDepth 100000 in
theorem q146 (os : Os) (started : os.Started) (H : Type) (enc : TypeId × Value→H) :
    ReturnsInHanded {} Tryz.checked os 9 .any (Rows.sunMoreSpec.pre6 enc Tryz.prog Tryz.f9 Rows.sunMoreRow.domain false) (Rows.sunMoreSpec.post enc Tryz.prog Tryz.f9 false true false false):=by
  refine returnsInHanded_of_change (C:=Tryz.checked) Tryz.own started (by kernel_rfl) Tryz.func9
    (ChangeSpec.witness6 (enc:=enc) (C:=Tryz.checked) false ⟨#[],#[.slice none 0 0,.slice none 0 0,.agg #[.int .i64 0,.int .i64 0,.int .i64 0],.agg #[.int .i64 0,.int .i64 0,.int .i64 0]],[]⟩ 8 (by kernel_rfl) (by kernel_rfl) (by kernel_rfl) (by kernel_rfl)) ?_
  intro W base args ds gs before hval0 hW hcnd _
  have hread : (Tryz.f9.params.toList.all fun t=>Tryz.prog.readableRec t && decide (t < Tryz.prog.types.size)) = true:=by kernel_rfl
  have hps : Tryz.f9.params.toList.map (fun t=>(aggT Tryz.prog t,tyL Tryz.prog 8 t)) = ([(false,[.sl [.int .i64,.int .i64,.int .i64,.int .i64,.int .i64,.int .i64]]),(false,[.sl [.int .i64,.int .i64,.int .i64,.int .i64,.int .i64,.int .i64]]),(true,[.int .i64,.int .i64,.int .i64]),(true,[.int .i64,.int .i64,.int .i64])] : List (Bool × List CT)).map (fun x=>(x.1,some x.2)):=by kernel_rfl
  refine contract (P:=Tryz.prog) (f:=Tryz.f9) (F:=9) (s:=Rows.sunMoreSpec) (tb:=4) (fuel:=8) (base:=base) q142 mixed Tryz.laidOut rfl (by kernel_rfl) (by kernel_rfl) (fun t ht=>?_) hps (fun ds hd=>?_) q147 hval0 hW
  · have:=List.all_eq_true.1 hread t ht
    simpa using this
  · have hd : ds.length = 4:=hd
    match ds,hd with
    | [a0,a1,a2,a3],_=>rfl
theorem sunMore_holds : Rows.SunMoreSaid:=
  OpenClaim.holds_of_wide 9 Tryz.f9 rfl rfl rfl rfl rfl rfl rfl ⟨rfl,rfl,rfl,rfl,rfl⟩ rfl rfl rfl rfl rfl (by kernel_rfl) Tryz.func9 (by kernel_rfl)
    (of_decide_eq_true (by kernel_rfl)) (by unfold Func.isWrapper;first | (rw [if_pos (by decide +kernel)];kernel_rfl) | (rw [if_neg (by decide +kernel)];exact ⟨rfl,rfl⟩))
    (fun os started H enc _=>q146 os started H enc)
end Go.Proofs.YtmnfbjlabfeneaaGreat
