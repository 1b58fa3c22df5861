/- FinSolidWhole -/
import Derived.Test.YtiejlbckgihckaaGreatK18
import Derived.ProofKit
namespace Go.Proofs.YtiejlbckgihckaaGreat
open Go Go.Am Go.Sh
open Go.ChangeShapes Go.WideShapes Go.ChangeAt Go.RowKit
theorem Tryz.own : ownKnob Tryz.prog.godebug = none:=by kernel_rfl
theorem Tryz.laidOut : laidOutB Tryz.prog = true:=by kernel_rfl
theorem q14s {x : List DV} (h : q8p [.int .i64,.int .i64,.int .i64,.int .i64,.int .i64,.int .i64] x) : ∃ a : qe,x = Q5 a∧((I64 a.Lo.X∧I64 a.Lo.Y∧I64 a.Lo.Z)∧(I64 a.Hi.X∧I64 a.Hi.Y∧I64 a.Hi.Z)):=by
  obtain ⟨d0,r0,rfl,h0,g0⟩:=q14h h
  obtain ⟨d1,r1,rfl,h1,g1⟩:=q14h g0
  obtain ⟨d2,r2,rfl,h2,g2⟩:=q14h g1
  obtain ⟨d3,r3,rfl,h3,g3⟩:=q14h g2
  obtain ⟨d4,r4,rfl,h4,g4⟩:=q14h g3
  obtain ⟨d5,r5,rfl,h5,g5⟩:=q14h g4
  obtain rfl:=q14i g5
  obtain ⟨a0,rfl,w0⟩:=q14n h0
  obtain ⟨a1,rfl,w1⟩:=q14n h1
  obtain ⟨a2,rfl,w2⟩:=q14n h2
  obtain ⟨a3,rfl,w3⟩:=q14n h3
  obtain ⟨a4,rfl,w4⟩:=q14n h4
  obtain ⟨a5,rfl,w5⟩:=q14n h5
  exact ⟨⟨⟨a0,a1,a2⟩,⟨a3,a4,a5⟩⟩,rfl,⟨⟨q14p w0,q14p w1,q14p w2⟩,⟨q14p w3,q14p w4,q14p w5⟩⟩⟩
theorem q14r (xs : List DV) (h : q10 [(false,[.sl [.int .i64,.int .i64,.int .i64,.int .i64,.int .i64,.int .i64]])] xs) : Pure Tryz.prog tab 3 xs (.bool true):=by
  obtain ⟨d0,r0,rfl,h0,h⟩:=q14c h
  obtain rfl:=q14b h
  obtain ⟨p0,s0,w0,l0⟩:=q14o (enc:=Q5) (fun _=>q14s) h0
  exact q6i (.cons s0 .nil) (q14f p0 true (q14l p0))
set_option maxRecDepth 100000 in
theorem q14q (os : Os) (started : os.Started) (H : Type) (enc : TypeId × Value→H) :
    ReturnsInHanded {} Tryz.checked os 3 .any (Rows.solidWholeSpec.pre6 enc Tryz.prog Tryz.f3 Rows.solidWholeRow.domain false) (Rows.solidWholeSpec.post enc Tryz.prog Tryz.f3 false true false false):=by
  refine returnsInHanded_of_change (C:=Tryz.checked) Tryz.own started (by kernel_rfl) Tryz.func3
    (ChangeSpec.witness6 (enc:=enc) (C:=Tryz.checked) false ⟨#[],#[.slice none 0 0],[]⟩ 8 (by kernel_rfl) (by kernel_rfl) (by kernel_rfl) (by kernel_rfl)) ?_
  intro W base args ds gs before hval0 hW hcnd _
  have hread : (Tryz.f3.params.toList.all fun t=>Tryz.prog.readableRec t && decide (t < Tryz.prog.types.size)) = true:=by kernel_rfl
  have hps : Tryz.f3.params.toList.map (fun t=>(aggT Tryz.prog t,tyL Tryz.prog 8 t)) = ([(false,[.sl [.int .i64,.int .i64,.int .i64,.int .i64,.int .i64,.int .i64]])] : List (Bool × List CT)).map (fun x=>(x.1,some x.2)):=by kernel_rfl
  refine contract (P:=Tryz.prog) (f:=Tryz.f3) (F:=3) (s:=Rows.solidWholeSpec) (tb:=4) (fuel:=8) (base:=base) q14m mixed Tryz.laidOut rfl (by kernel_rfl) (by kernel_rfl) (fun t ht=>?_) hps (fun ds hd=>?_) q14r hval0 hW
  · have:=List.all_eq_true.1 hread t ht
    simpa using this
  · have hd : ds.length = 1:=hd
    match ds,hd with
    | [a0],_=>rfl
theorem solidWhole_holds : Rows.SolidWholeSaid:=
  OpenClaim.holds_of_wide 3 Tryz.f3 rfl rfl rfl rfl rfl rfl rfl ⟨rfl,rfl,rfl,rfl,rfl⟩ rfl rfl rfl rfl rfl (by kernel_rfl) Tryz.func3 (by kernel_rfl)
    (of_decide_eq_true (by kernel_rfl)) (by unfold Func.isWrapper;first | (rw [if_pos (by decide +kernel)];kernel_rfl) | (rw [if_neg (by decide +kernel)];exact ⟨rfl,rfl⟩))
    (fun os started H enc _=>q14q os started H enc)
end Go.Proofs.YtiejlbckgihckaaGreat
