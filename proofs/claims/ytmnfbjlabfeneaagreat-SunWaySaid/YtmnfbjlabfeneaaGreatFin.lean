/- FinSunWay -/
import Derived.Test.YtmnfbjlabfeneaaGreatK20
import Derived.ProofKit
namespace Go.Proofs.YtmnfbjlabfeneaaGreat
open Go Go.Am Go.Sh
open Go.ChangeShapes Go.WideShapes Go.ChangeAt Go.RowKit
theorem Tryz.own : ownKnob Tryz.prog.godebug = none:=by kernel_rfl
theorem Tryz.laidOut : laidOutB Tryz.prog = true:=by kernel_rfl
theorem q164 {x : List DV} (h : q6b [.int .i64,.int .i64,.int .i64,.int .i64,.int .i64,.int .i64] x) : ∃ a : qh,x = Q1 a∧((I64 a.Lo.X∧I64 a.Lo.Y∧I64 a.Lo.Z)∧(I64 a.Hi.X∧I64 a.Hi.Y∧I64 a.Hi.Z)):=by
  obtain ⟨d0,r0,rfl,h0,g0⟩:=q15p h
  obtain ⟨d1,r1,rfl,h1,g1⟩:=q15p g0
  obtain ⟨d2,r2,rfl,h2,g2⟩:=q15p g1
  obtain ⟨d3,r3,rfl,h3,g3⟩:=q15p g2
  obtain ⟨d4,r4,rfl,h4,g4⟩:=q15p g3
  obtain ⟨d5,r5,rfl,h5,g5⟩:=q15p g4
  obtain rfl:=q15q g5
  obtain ⟨a0,rfl,w0⟩:=q15x h0
  obtain ⟨a1,rfl,w1⟩:=q15x h1
  obtain ⟨a2,rfl,w2⟩:=q15x h2
  obtain ⟨a3,rfl,w3⟩:=q15x h3
  obtain ⟨a4,rfl,w4⟩:=q15x h4
  obtain ⟨a5,rfl,w5⟩:=q15x h5
  exact ⟨⟨⟨a0,a1,a2⟩,⟨a3,a4,a5⟩⟩,rfl,⟨⟨q160 w0,q160 w1,q160 w2⟩,⟨q160 w3,q160 w4,q160 w5⟩⟩⟩
theorem q163 {x : List DV} (h : q6b [.int .i64,.int .i64,.int .i64] x) : ∃ a : qg,x = Qh a∧(I64 a.X∧I64 a.Y∧I64 a.Z):=by
  obtain ⟨d0,r0,rfl,h0,g0⟩:=q15p h
  obtain ⟨d1,r1,rfl,h1,g1⟩:=q15p g0
  obtain ⟨d2,r2,rfl,h2,g2⟩:=q15p g1
  obtain rfl:=q15q g2
  obtain ⟨a0,rfl,w0⟩:=q15x h0
  obtain ⟨a1,rfl,w1⟩:=q15x h1
  obtain ⟨a2,rfl,w2⟩:=q15x h2
  exact ⟨⟨a0,a1,a2⟩,rfl,⟨q160 w0,q160 w1,q160 w2⟩⟩
theorem q162 (xs : List DV) (h : Jv [(false,[.sl [.int .i64,.int .i64,.int .i64,.int .i64,.int .i64,.int .i64]]),(true,[.int .i64,.int .i64,.int .i64]),(true,[.int .i64,.int .i64,.int .i64]),(false,[.int .u16]),(false,[.int .u16])] xs) : Pure Tryz.prog tab 7 xs (.bool true):=by
  obtain ⟨d0,r0,rfl,h0,h⟩:=q15f h
  obtain ⟨d1,r1,rfl,h1,h⟩:=q15d h
  obtain ⟨d2,r2,rfl,h2,h⟩:=q15d h
  obtain ⟨d3,r3,rfl,h3,h⟩:=q15f h
  obtain ⟨d4,r4,rfl,h4,h⟩:=q15f h
  obtain rfl:=q15e h
  obtain ⟨p0,s0,w0,l0⟩:=q15y (enc:=Q1) (fun _=>q164) h0
  obtain ⟨p1,rfl,w1⟩:=q163 h1
  obtain ⟨p2,rfl,w2⟩:=q163 h2
  obtain ⟨p3,rfl,w3⟩:=q15x h3
  obtain ⟨p4,rfl,w4⟩:=q15x h4
  exact q70 (.cons s0 (.cons (.refl _) (.cons (.refl _) (.cons (.refl _) (.cons (.refl _) .nil))))) (q15n p0 p1 p2 p3 p4 true (q15v p0 p1 p2 p3 p4))
set_option maxRecDepth 100000 in
theorem q161 (os : Os) (started : os.Started) (H : Type) (enc : TypeId × Value→H) :
    ReturnsInHanded {} Tryz.checked os 7 .any (Rows.sunWaySpec.pre6 enc Tryz.prog Tryz.f7 Rows.sunWayRow.domain false) (Rows.sunWaySpec.post enc Tryz.prog Tryz.f7 false true false false):=by
  refine returnsInHanded_of_change (C:=Tryz.checked) Tryz.own started (by kernel_rfl) Tryz.func7
    (ChangeSpec.witness6 (enc:=enc) (C:=Tryz.checked) false ⟨#[],#[.slice none 0 0,.agg #[.int .i64 0,.int .i64 0,.int .i64 0],.agg #[.int .i64 0,.int .i64 0,.int .i64 0],.int .u16 0,.int .u16 0],[]⟩ 8 (by kernel_rfl) (by kernel_rfl) (by kernel_rfl) (by kernel_rfl)) ?_
  intro W base args ds gs before hval0 hW hcnd _
  have hread : (Tryz.f7.params.toList.all fun t=>Tryz.prog.readableRec t && decide (t < Tryz.prog.types.size)) = true:=by kernel_rfl
  have hps : Tryz.f7.params.toList.map (fun t=>(aggT Tryz.prog t,tyL Tryz.prog 8 t)) = ([(false,[.sl [.int .i64,.int .i64,.int .i64,.int .i64,.int .i64,.int .i64]]),(true,[.int .i64,.int .i64,.int .i64]),(true,[.int .i64,.int .i64,.int .i64]),(false,[.int .u16]),(false,[.int .u16])] : List (Bool × List CT)).map (fun x=>(x.1,some x.2)):=by kernel_rfl
  refine contract (P:=Tryz.prog) (f:=Tryz.f7) (F:=7) (s:=Rows.sunWaySpec) (tb:=4) (fuel:=8) (base:=base) q15w mixed Tryz.laidOut rfl (by kernel_rfl) (by kernel_rfl) (fun t ht=>?_) hps (fun ds hd=>?_) q162 hval0 hW
  · have:=List.all_eq_true.1 hread t ht
    simpa using this
  · have hd : ds.length = 5:=hd
    match ds,hd with
    | [a0,a1,a2,a3,a4],_=>rfl
theorem sunWay_holds : Rows.SunWaySaid:=
  OpenClaim.holds_of_wide 7 Tryz.f7 rfl rfl rfl rfl rfl rfl rfl ⟨rfl,rfl,rfl,rfl,rfl⟩ rfl rfl rfl rfl rfl (by kernel_rfl) Tryz.func7 (by kernel_rfl)
    (of_decide_eq_true (by kernel_rfl)) (by unfold Func.isWrapper;first | (rw [if_pos (by decide +kernel)];kernel_rfl) | (rw [if_neg (by decide +kernel)];exact ⟨rfl,rfl⟩))
    (fun os started H enc _=>q161 os started H enc)
end Go.Proofs.YtmnfbjlabfeneaaGreat
