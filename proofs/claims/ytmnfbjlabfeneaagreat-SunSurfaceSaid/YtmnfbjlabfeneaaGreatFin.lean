/- FinSunSurface -/
import Derived.Test.YtmnfbjlabfeneaaGreatK20
import Derived.ProofKit
namespace Go.Proofs.YtmnfbjlabfeneaaGreat
open Go Go.Am Go.Sh
open Go.ChangeShapes Go.WideShapes Go.ChangeAt Go.RowKit
theorem Tryz.own : ownKnob Tryz.prog.godebug = none:=by kernel_rfl
theorem Tryz.laidOut : laidOutB Tryz.prog = true:=by kernel_rfl
theorem q180 {x : List DV} (h : q5v [.int .i64,.int .i64,.int .i64,.int .i64,.int .i64,.int .i64] x) : ∃ a : qf,x = Q6 a∧((I64 a.Lo.X∧I64 a.Lo.Y∧I64 a.Lo.Z)∧(I64 a.Hi.X∧I64 a.Hi.Y∧I64 a.Hi.Z)):=by
  obtain ⟨d0,r0,rfl,h0,g0⟩:=q17n h
  obtain ⟨d1,r1,rfl,h1,g1⟩:=q17n g0
  obtain ⟨d2,r2,rfl,h2,g2⟩:=q17n g1
  obtain ⟨d3,r3,rfl,h3,g3⟩:=q17n g2
  obtain ⟨d4,r4,rfl,h4,g4⟩:=q17n g3
  obtain ⟨d5,r5,rfl,h5,g5⟩:=q17n g4
  obtain rfl:=q17o g5
  obtain ⟨a0,rfl,w0⟩:=q17t h0
  obtain ⟨a1,rfl,w1⟩:=q17t h1
  obtain ⟨a2,rfl,w2⟩:=q17t h2
  obtain ⟨a3,rfl,w3⟩:=q17t h3
  obtain ⟨a4,rfl,w4⟩:=q17t h4
  obtain ⟨a5,rfl,w5⟩:=q17t h5
  exact ⟨⟨⟨a0,a1,a2⟩,⟨a3,a4,a5⟩⟩,rfl,⟨⟨q17w w0,q17w w1,q17w w2⟩,⟨q17w w3,q17w w4,q17w w5⟩⟩⟩
theorem q17z {x : List DV} (h : q5v [.int .i64,.int .i64,.int .i64] x) : ∃ a : qh,x = Qs a∧(I64 a.X∧I64 a.Y∧I64 a.Z):=by
  obtain ⟨d0,r0,rfl,h0,g0⟩:=q17n h
  obtain ⟨d1,r1,rfl,h1,g1⟩:=q17n g0
  obtain ⟨d2,r2,rfl,h2,g2⟩:=q17n g1
  obtain rfl:=q17o g2
  obtain ⟨a0,rfl,w0⟩:=q17t h0
  obtain ⟨a1,rfl,w1⟩:=q17t h1
  obtain ⟨a2,rfl,w2⟩:=q17t h2
  exact ⟨⟨a0,a1,a2⟩,rfl,⟨q17w w0,q17w w1,q17w w2⟩⟩
theorem q17y (xs : List DV) (h : Jw [(false,[.sl [.int .i64,.int .i64,.int .i64,.int .i64,.int .i64,.int .i64]]),(true,[.int .i64,.int .i64,.int .i64])] xs) : Pure Tryz.prog tab 8 xs (.bool true):=by
  obtain ⟨d0,r0,rfl,h0,h⟩:=q17f h
  obtain ⟨d1,r1,rfl,h1,h⟩:=q17d h
  obtain rfl:=q17e h
  obtain ⟨p0,s0,w0,l0⟩:=q17u (enc:=Q6) (fun _=>q180) h0
  obtain ⟨p1,rfl,w1⟩:=q17z h1
  exact qdb (.cons s0 (.cons (.refl _) .nil)) (q17k p0 p1 true (q17q p0 p1))
set_option maxRecDepth 100000 in
theorem q17x (os : Os) (started : os.Started) (H : Type) (enc : TypeId × Value→H) :
    ReturnsInHanded {} Tryz.checked os 8 .any (Rows.sunSurfaceSpec.pre6 enc Tryz.prog Tryz.f8 Rows.sunSurfaceRow.domain false) (Rows.sunSurfaceSpec.post enc Tryz.prog Tryz.f8 false true false false):=by
  refine returnsInHanded_of_change (C:=Tryz.checked) Tryz.own started (by kernel_rfl) Tryz.func8
    (ChangeSpec.witness6 (enc:=enc) (C:=Tryz.checked) false ⟨#[],#[.slice none 0 0,.agg #[.int .i64 0,.int .i64 0,.int .i64 0]],[]⟩ 8 (by kernel_rfl) (by kernel_rfl) (by kernel_rfl) (by kernel_rfl)) ?_
  intro W base args ds gs before hval0 hW hcnd _
  have hread : (Tryz.f8.params.toList.all fun t=>Tryz.prog.readableRec t && decide (t < Tryz.prog.types.size)) = true:=by kernel_rfl
  have hps : Tryz.f8.params.toList.map (fun t=>(aggT Tryz.prog t,tyL Tryz.prog 8 t)) = ([(false,[.sl [.int .i64,.int .i64,.int .i64,.int .i64,.int .i64,.int .i64]]),(true,[.int .i64,.int .i64,.int .i64])] : List (Bool × List CT)).map (fun x=>(x.1,some x.2)):=by kernel_rfl
  refine contract (P:=Tryz.prog) (f:=Tryz.f8) (F:=8) (s:=Rows.sunSurfaceSpec) (tb:=4) (fuel:=8) (base:=base) q17s mixed Tryz.laidOut rfl (by kernel_rfl) (by kernel_rfl) (fun t ht=>?_) hps (fun ds hd=>?_) q17y hval0 hW
  · have:=List.all_eq_true.1 hread t ht
    simpa using this
  · have hd : ds.length = 2:=hd
    match ds,hd with
    | [a0,a1],_=>rfl
theorem sunSurface_holds : Rows.SunSurfaceSaid:=
  OpenClaim.holds_of_wide 8 Tryz.f8 rfl rfl rfl rfl rfl rfl rfl ⟨rfl,rfl,rfl,rfl,rfl⟩ rfl rfl rfl rfl rfl (by kernel_rfl) Tryz.func8 (by kernel_rfl)
    (of_decide_eq_true (by kernel_rfl)) (by unfold Func.isWrapper;first | (rw [if_pos (by decide +kernel)];kernel_rfl) | (rw [if_neg (by decide +kernel)];exact ⟨rfl,rfl⟩))
    (fun os started H enc _=>q17x os started H enc)
end Go.Proofs.YtmnfbjlabfeneaaGreat
