/- FinStreetBack -/
import Derived.Test.YtgkialgkmjnfbaaGreatK21
import Derived.ProofKit
namespace Go.Proofs.YtgkialgkmjnfbaaGreat
open Go Go.Am Go.Sh
open Go.ChangeShapes Go.WideShapes Go.ChangeAt Go.RowKit
theorem Tryz.own : ownKnob Tryz.prog.godebug = none:=by kernel_rfl
theorem Tryz.laidOut : laidOutB Tryz.prog = true:=by kernel_rfl
theorem q14b {x : List DV} (h : q7j [.int .i64,.int .i64,.int .i64,.int .i64] x) : ∃ a : qt,x = Kc a∧((I64 a.A.X∧I64 a.A.Y)∧(I64 a.B.X∧I64 a.B.Y)):=by
  obtain ⟨d0,r0,rfl,h0,g0⟩:=q141 h
  obtain ⟨d1,r1,rfl,h1,g1⟩:=q141 g0
  obtain ⟨d2,r2,rfl,h2,g2⟩:=q141 g1
  obtain ⟨d3,r3,rfl,h3,g3⟩:=q141 g2
  obtain rfl:=q142 g3
  obtain ⟨a0,rfl,w0⟩:=q146 h0
  obtain ⟨a1,rfl,w1⟩:=q146 h1
  obtain ⟨a2,rfl,w2⟩:=q146 h2
  obtain ⟨a3,rfl,w3⟩:=q146 h3
  exact ⟨⟨⟨a0,a1⟩,⟨a2,a3⟩⟩,rfl,⟨⟨q148 w0,q148 w1⟩,⟨q148 w2,q148 w3⟩⟩⟩
theorem q14a (xs : List DV) (h : q10 [(false,[.sl [.int .i64,.int .i64,.int .i64,.int .i64]]),(false,[.int .i64])] xs) : Pure Tryz.prog tab 5 xs (.bool true):=by
  obtain ⟨d0,r0,rfl,h0,h⟩:=q13y h
  obtain ⟨d1,r1,rfl,h1,h⟩:=q13y h
  obtain rfl:=q13x h
  obtain ⟨p0,s0,w0,l0⟩:=q147 (enc:=Kc) (fun _=>q14b) h0
  obtain ⟨p1,rfl,w1⟩:=q146 h1
  replace w1 : I64 p1:=q148 w1
  exact qn5 (.cons s0 (.cons (.refl _) .nil)) (q13z p0 p1 true (q144 p0 p1 l0))
set_option maxRecDepth 100000 in
theorem q149 (os : Os) (started : os.Started) (H : Type) (enc : TypeId × Value→H) :
    ReturnsInHanded {} Tryz.checked os 5 .any (Rows.streetBackSpec.pre6 enc Tryz.prog Tryz.f5 Rows.streetBackRow.domain false) (Rows.streetBackSpec.post enc Tryz.prog Tryz.f5 false true false false):=by
  refine returnsInHanded_of_change (C:=Tryz.checked) Tryz.own started (by kernel_rfl) Tryz.func5
    (ChangeSpec.witness6 (enc:=enc) (C:=Tryz.checked) false ⟨#[],#[.slice none 0 0,.int .i64 0],[]⟩ 8 (by kernel_rfl) (by kernel_rfl) (by kernel_rfl) (by kernel_rfl)) ?_
  intro W base args ds gs before hval0 hW hcnd _
  have hread : (Tryz.f5.params.toList.all fun t=>Tryz.prog.readableRec t && decide (t < Tryz.prog.types.size)) = true:=by kernel_rfl
  have hps : Tryz.f5.params.toList.map (fun t=>(aggT Tryz.prog t,tyL Tryz.prog 8 t)) = ([(false,[.sl [.int .i64,.int .i64,.int .i64,.int .i64]]),(false,[.int .i64])] : List (Bool × List CT)).map (fun x=>(x.1,some x.2)):=by kernel_rfl
  refine contract (P:=Tryz.prog) (f:=Tryz.f5) (F:=5) (s:=Rows.streetBackSpec) (tb:=4) (fuel:=8) (base:=base) q145 mixed Tryz.laidOut rfl (by kernel_rfl) (by kernel_rfl) (fun t ht=>?_) hps (fun ds hd=>?_) q14a hval0 hW
  · have:=List.all_eq_true.1 hread t ht
    simpa using this
  · have hd : ds.length = 2:=hd
    match ds,hd with
    | [a0,a1],_=>rfl
theorem streetBack_holds : Rows.StreetBackSaid:=
  OpenClaim.holds_of_wide 5 Tryz.f5 rfl rfl rfl rfl rfl rfl rfl ⟨rfl,rfl,rfl,rfl,rfl⟩ rfl rfl rfl rfl rfl (by kernel_rfl) Tryz.func5 (by kernel_rfl)
    (of_decide_eq_true (by kernel_rfl)) (by unfold Func.isWrapper;first | (rw [if_pos (by decide +kernel)];kernel_rfl) | (rw [if_neg (by decide +kernel)];exact ⟨rfl,rfl⟩))
    (fun os started H enc _=>q149 os started H enc)
end Go.Proofs.YtgkialgkmjnfbaaGreat
