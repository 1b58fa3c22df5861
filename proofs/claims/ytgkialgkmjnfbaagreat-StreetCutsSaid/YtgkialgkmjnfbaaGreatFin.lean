/- FinStreetCuts -/
import Derived.Test.YtgkialgkmjnfbaaGreatK21
import Derived.ProofKit
namespace Go.Proofs.YtgkialgkmjnfbaaGreat
open Go Go.Am Go.Sh
open Go.ChangeShapes Go.WideShapes Go.ChangeAt Go.RowKit
theorem Tryz.own : ownKnob Tryz.prog.godebug = none:=by kernel_rfl
theorem Tryz.laidOut : laidOutB Tryz.prog = true:=by kernel_rfl
theorem q14n {x : List DV} (h : q52 [.int .i64,.int .i64,.int .i64,.int .i64] x) : ∃ a : qr,x = Kc a∧((I64 a.A.X∧I64 a.A.Y)∧(I64 a.B.X∧I64 a.B.Y)):=by
  obtain ⟨d0,r0,rfl,h0,g0⟩:=q14c h
  obtain ⟨d1,r1,rfl,h1,g1⟩:=q14c g0
  obtain ⟨d2,r2,rfl,h2,g2⟩:=q14c g1
  obtain ⟨d3,r3,rfl,h3,g3⟩:=q14c g2
  obtain rfl:=q14d g3
  obtain ⟨a0,rfl,w0⟩:=q14h h0
  obtain ⟨a1,rfl,w1⟩:=q14h h1
  obtain ⟨a2,rfl,w2⟩:=q14h h2
  obtain ⟨a3,rfl,w3⟩:=q14h h3
  exact ⟨⟨⟨a0,a1⟩,⟨a2,a3⟩⟩,rfl,⟨⟨q14j w0,q14j w1⟩,⟨q14j w2,q14j w3⟩⟩⟩
theorem q14m {x : List DV} (h : q52 [.int .i64,.int .i64] x) : ∃ a : qa,x = qq a∧(I64 a.X∧I64 a.Y):=by
  obtain ⟨d0,r0,rfl,h0,g0⟩:=q14c h
  obtain ⟨d1,r1,rfl,h1,g1⟩:=q14c g0
  obtain rfl:=q14d g1
  obtain ⟨a0,rfl,w0⟩:=q14h h0
  obtain ⟨a1,rfl,w1⟩:=q14h h1
  exact ⟨⟨a0,a1⟩,rfl,⟨q14j w0,q14j w1⟩⟩
theorem q14l (xs : List DV) (h : Jw [(false,[.sl [.int .i64,.int .i64,.int .i64,.int .i64]]),(false,[.int .i64]),(false,[.int .i64]),(true,[.int .i64,.int .i64])] xs) : Pure Tryz.prog tab 9 xs (.bool true):=by
  obtain ⟨d0,r0,rfl,h0,h⟩:=q149 h
  obtain ⟨d1,r1,rfl,h1,h⟩:=q149 h
  obtain ⟨d2,r2,rfl,h2,h⟩:=q149 h
  obtain ⟨d3,r3,rfl,h3,h⟩:=q147 h
  obtain rfl:=q148 h
  obtain ⟨p0,s0,w0,l0⟩:=q14i (enc:=Kc) (fun _=>q14n) h0
  obtain ⟨p1,rfl,w1⟩:=q14h h1
  replace w1 : I64 p1:=q14j w1
  obtain ⟨p2,rfl,w2⟩:=q14h h2
  replace w2 : I64 p2:=q14j w2
  obtain ⟨p3,rfl,w3⟩:=q14m h3
  exact qnd (.cons s0 (.cons (.refl _) (.cons (.refl _) (.cons (.refl _) .nil)))) (q14a p0 p1 p2 p3 true (q14f p0 p1 p2 p3 l0))
set_option maxRecDepth 100000 in
theorem q14k (os : Os) (started : os.Started) (H : Type) (enc : TypeId × Value→H) :
    ReturnsInHanded {} Tryz.checked os 9 .any (Rows.streetCutsSpec.pre6 enc Tryz.prog Tryz.f9 Rows.streetCutsRow.domain false) (Rows.streetCutsSpec.post enc Tryz.prog Tryz.f9 false true false false):=by
  refine returnsInHanded_of_change (C:=Tryz.checked) Tryz.own started (by kernel_rfl) Tryz.func9
    (ChangeSpec.witness6 (enc:=enc) (C:=Tryz.checked) false ⟨#[],#[.slice none 0 0,.int .i64 0,.int .i64 0,.agg #[.int .i64 0,.int .i64 0]],[]⟩ 8 (by kernel_rfl) (by kernel_rfl) (by kernel_rfl) (by kernel_rfl)) ?_
  intro W base args ds gs before hval0 hW hcnd _
  have hread : (Tryz.f9.params.toList.all fun t=>Tryz.prog.readableRec t && decide (t < Tryz.prog.types.size)) = true:=by kernel_rfl
  have hps : Tryz.f9.params.toList.map (fun t=>(aggT Tryz.prog t,tyL Tryz.prog 8 t)) = ([(false,[.sl [.int .i64,.int .i64,.int .i64,.int .i64]]),(false,[.int .i64]),(false,[.int .i64]),(true,[.int .i64,.int .i64])] : List (Bool × List CT)).map (fun x=>(x.1,some x.2)):=by kernel_rfl
  refine contract (P:=Tryz.prog) (f:=Tryz.f9) (F:=9) (s:=Rows.streetCutsSpec) (tb:=4) (fuel:=8) (base:=base) q14g mixed Tryz.laidOut rfl (by kernel_rfl) (by kernel_rfl) (fun t ht=>?_) hps (fun ds hd=>?_) q14l hval0 hW
  · have:=List.all_eq_true.1 hread t ht
    simpa using this
  · have hd : ds.length = 4:=hd
    match ds,hd with
    | [a0,a1,a2,a3],_=>rfl
theorem streetCuts_holds : Rows.StreetCutsSaid:=
  OpenClaim.holds_of_wide 9 Tryz.f9 rfl rfl rfl rfl rfl rfl rfl ⟨rfl,rfl,rfl,rfl,rfl⟩ rfl rfl rfl rfl rfl (by kernel_rfl) Tryz.func9 (by kernel_rfl)
    (of_decide_eq_true (by kernel_rfl)) (by unfold Func.isWrapper;first | (rw [if_pos (by decide +kernel)];kernel_rfl) | (rw [if_neg (by decide +kernel)];exact ⟨rfl,rfl⟩))
    (fun os started H enc _=>q14k os started H enc)
end Go.Proofs.YtgkialgkmjnfbaaGreat
