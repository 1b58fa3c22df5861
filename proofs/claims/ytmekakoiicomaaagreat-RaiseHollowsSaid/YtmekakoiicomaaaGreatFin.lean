/- FinRaiseHollows -/
import Derived.Test.YtmekakoiicomaaaGreatK20
import Derived.ProofKit
namespace Go.Proofs.YtmekakoiicomaaaGreat
open Go Go.Am Go.Sh
open Go.ChangeShapes Go.WideShapes Go.ChangeAt Go.RowKit
theorem Tryz.own : ownKnob Tryz.prog.godebug = none:=by kernel_rfl
theorem Tryz.laidOut : laidOutB Tryz.prog = true:=by kernel_rfl
theorem q17x {x : List DV} (h : q67 [.int .i64,.int .i64,.int .i64,.int .i64,.int .i64,.int .i64] x) : ∃ a : qk,x = Qi a∧((I64 a.Lo.X∧I64 a.Lo.Y∧I64 a.Lo.Z)∧(I64 a.Hi.X∧I64 a.Hi.Y∧I64 a.Hi.Z)):=by
  obtain ⟨d0,r0,rfl,h0,g0⟩:=q17n h
  obtain ⟨d1,r1,rfl,h1,g1⟩:=q17n g0
  obtain ⟨d2,r2,rfl,h2,g2⟩:=q17n g1
  obtain ⟨d3,r3,rfl,h3,g3⟩:=q17n g2
  obtain ⟨d4,r4,rfl,h4,g4⟩:=q17n g3
  obtain ⟨d5,r5,rfl,h5,g5⟩:=q17n g4
  obtain rfl:=q17o g5
  obtain ⟨a0,rfl,w0⟩:=q17r h0
  obtain ⟨a1,rfl,w1⟩:=q17r h1
  obtain ⟨a2,rfl,w2⟩:=q17r h2
  obtain ⟨a3,rfl,w3⟩:=q17r h3
  obtain ⟨a4,rfl,w4⟩:=q17r h4
  obtain ⟨a5,rfl,w5⟩:=q17r h5
  exact ⟨⟨⟨a0,a1,a2⟩,⟨a3,a4,a5⟩⟩,rfl,⟨⟨q17t w0,q17t w1,q17t w2⟩,⟨q17t w3,q17t w4,q17t w5⟩⟩⟩
theorem q17w {x : List DV} (h : q67 [.int .i64,.int .i64,.int .i64] x) : ∃ a : Q0,x = Yv a∧(I64 a.X∧I64 a.Y∧I64 a.Z):=by
  obtain ⟨d0,r0,rfl,h0,g0⟩:=q17n h
  obtain ⟨d1,r1,rfl,h1,g1⟩:=q17n g0
  obtain ⟨d2,r2,rfl,h2,g2⟩:=q17n g1
  obtain rfl:=q17o g2
  obtain ⟨a0,rfl,w0⟩:=q17r h0
  obtain ⟨a1,rfl,w1⟩:=q17r h1
  obtain ⟨a2,rfl,w2⟩:=q17r h2
  exact ⟨⟨a0,a1,a2⟩,rfl,⟨q17t w0,q17t w1,q17t w2⟩⟩
theorem q17v (xs : List DV) (h : Uc [(false,[.sl [.int .i64,.int .i64,.int .i64,.int .i64,.int .i64,.int .i64]]),(false,[.int .i64]),(true,[.int .i64,.int .i64,.int .i64])] xs) : Pure Tryz.prog tab 4 xs (.bool true):=by
  obtain ⟨d0,r0,rfl,h0,h⟩:=q17i h
  obtain ⟨d1,r1,rfl,h1,h⟩:=q17i h
  obtain ⟨d2,r2,rfl,h2,h⟩:=q17g h
  obtain rfl:=q17h h
  obtain ⟨p0,s0,w0,l0⟩:=q17s (enc:=Qi) (fun _=>q17x) h0
  obtain ⟨p1,rfl,w1⟩:=q17r h1
  replace w1 : I64 p1:=q17t w1
  obtain ⟨p2,rfl,w2⟩:=q17w h2
  exact qa9 (.cons s0 (.cons (.refl _) (.cons (.refl _) .nil))) (q17k p0 p1 p2 true (q17m p0 p1 p2))
set_option maxRecDepth 100000 in
theorem q17u (os : Os) (started : os.Started) (H : Type) (enc : TypeId × Value→H) :
    ReturnsInHanded {} Tryz.checked os 4 .any (Rows.raiseHollowsSpec.pre6 enc Tryz.prog Tryz.f4 Rows.raiseHollowsRow.domain false) (Rows.raiseHollowsSpec.post enc Tryz.prog Tryz.f4 false true false false):=by
  refine returnsInHanded_of_change (C:=Tryz.checked) Tryz.own started (by kernel_rfl) Tryz.func4
    (ChangeSpec.witness6 (enc:=enc) (C:=Tryz.checked) false ⟨#[],#[.slice none 0 0,.int .i64 0,.agg #[.int .i64 0,.int .i64 0,.int .i64 0]],[]⟩ 8 (by kernel_rfl) (by kernel_rfl) (by kernel_rfl) (by kernel_rfl)) ?_
  intro W base args ds gs before hval0 hW hcnd _
  have hread : (Tryz.f4.params.toList.all fun t=>Tryz.prog.readableRec t && decide (t < Tryz.prog.types.size)) = true:=by kernel_rfl
  have hps : Tryz.f4.params.toList.map (fun t=>(aggT Tryz.prog t,tyL Tryz.prog 8 t)) = ([(false,[.sl [.int .i64,.int .i64,.int .i64,.int .i64,.int .i64,.int .i64]]),(false,[.int .i64]),(true,[.int .i64,.int .i64,.int .i64])] : List (Bool × List CT)).map (fun x=>(x.1,some x.2)):=by kernel_rfl
  refine contract (P:=Tryz.prog) (f:=Tryz.f4) (F:=4) (s:=Rows.raiseHollowsSpec) (tb:=4) (fuel:=8) (base:=base) q17q mixed Tryz.laidOut rfl (by kernel_rfl) (by kernel_rfl) (fun t ht=>?_) hps (fun ds hd=>?_) q17v hval0 hW
  · have:=List.all_eq_true.1 hread t ht
    simpa using this
  · have hd : ds.length = 3:=hd
    match ds,hd with
    | [a0,a1,a2],_=>rfl
theorem raiseHollows_holds : Rows.RaiseHollowsSaid:=
  OpenClaim.holds_of_wide 4 Tryz.f4 rfl rfl rfl rfl rfl rfl rfl ⟨rfl,rfl,rfl,rfl,rfl⟩ rfl rfl rfl rfl rfl (by kernel_rfl) Tryz.func4 (by kernel_rfl)
    (of_decide_eq_true (by kernel_rfl)) (by unfold Func.isWrapper;first | (rw [if_pos (by decide +kernel)];kernel_rfl) | (rw [if_neg (by decide +kernel)];exact ⟨rfl,rfl⟩))
    (fun os started H enc _=>q17u os started H enc)
end Go.Proofs.YtmekakoiicomaaaGreat
