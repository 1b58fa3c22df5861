/- FinStreetGrows -/
import Derived.Test.YtgkialgkmjnfbaaGreatK21
import Derived.ProofKit
namespace Go.Proofs.YtgkialgkmjnfbaaGreat
open Go Go.Am Go.Sh
open Go.ChangeShapes Go.WideShapes Go.ChangeAt Go.RowKit
theorem Tryz.own : ownKnob Tryz.prog.godebug = none:=by kernel_rfl
theorem Tryz.laidOut : laidOutB Tryz.prog = true:=by kernel_rfl
theorem q13n {x : List DV} (h : q7k [.int .i64,.int .i64,.int .u8,.int .i64,.int .i64] x) : ∃ a : Qx,x = Kh a∧((I64 a.At.X∧I64 a.At.Y)∧(Lit.int .u8 a.Kind).wf = true∧I64 a.Weight∧I64 a.Reach):=by
  obtain ⟨d0,r0,rfl,h0,g0⟩:=q13c h
  obtain ⟨d1,r1,rfl,h1,g1⟩:=q13c g0
  obtain ⟨d2,r2,rfl,h2,g2⟩:=q13c g1
  obtain ⟨d3,r3,rfl,h3,g3⟩:=q13c g2
  obtain ⟨d4,r4,rfl,h4,g4⟩:=q13c g3
  obtain rfl:=q13d g4
  obtain ⟨a0,rfl,w0⟩:=q13h h0
  obtain ⟨a1,rfl,w1⟩:=q13h h1
  obtain ⟨a2,rfl,w2⟩:=q13h h2
  obtain ⟨a3,rfl,w3⟩:=q13h h3
  obtain ⟨a4,rfl,w4⟩:=q13h h4
  exact ⟨⟨⟨a0,a1⟩,a2,a3,a4⟩,rfl,⟨⟨q13k w0,q13k w1⟩,w2,q13k w3,q13k w4⟩⟩
theorem q13o {x : List DV} (h : q7k [.int .i64,.int .i64,.int .u8,.int .i64] x) : ∃ a : Y2,x = Yx a∧((I64 a.At.X∧I64 a.At.Y)∧(Lit.int .u8 a.Head).wf = true∧I64 a.Steps):=by
  obtain ⟨d0,r0,rfl,h0,g0⟩:=q13c h
  obtain ⟨d1,r1,rfl,h1,g1⟩:=q13c g0
  obtain ⟨d2,r2,rfl,h2,g2⟩:=q13c g1
  obtain ⟨d3,r3,rfl,h3,g3⟩:=q13c g2
  obtain rfl:=q13d g3
  obtain ⟨a0,rfl,w0⟩:=q13h h0
  obtain ⟨a1,rfl,w1⟩:=q13h h1
  obtain ⟨a2,rfl,w2⟩:=q13h h2
  obtain ⟨a3,rfl,w3⟩:=q13h h3
  exact ⟨⟨⟨a0,a1⟩,a2,a3⟩,rfl,⟨⟨q13k w0,q13k w1⟩,w2,q13k w3⟩⟩
theorem q13m (xs : List DV) (h : q13 [(false,[.sl [.int .i64,.int .i64,.int .u8,.int .i64,.int .i64]]),(false,[.sl [.int .i64,.int .i64,.int .u8,.int .i64]])] xs) : Pure Tryz.prog tab 4 xs (.bool true):=by
  obtain ⟨d0,r0,rfl,h0,h⟩:=q139 h
  obtain ⟨d1,r1,rfl,h1,h⟩:=q139 h
  obtain rfl:=q138 h
  obtain ⟨p0,s0,w0,l0⟩:=q13i (enc:=Kh) (fun _=>q13n) h0
  obtain ⟨p1,s1,w1,l1⟩:=q13i (enc:=Yx) (fun _=>q13o) h1
  exact qxj (.cons s0 (.cons s1 .nil)) (q13a p0 p1 true (q13f p0 p1 (fun m hm=>q13j (w1 m hm).2.1)))
set_option maxRecDepth 100000 in
theorem q13l (os : Os) (started : os.Started) (H : Type) (enc : TypeId × Value→H) :
    ReturnsInHanded {} Tryz.checked os 4 .any (Rows.streetGrowsSpec.pre6 enc Tryz.prog Tryz.f4 Rows.streetGrowsRow.domain false) (Rows.streetGrowsSpec.post enc Tryz.prog Tryz.f4 false true false false):=by
  refine returnsInHanded_of_change (C:=Tryz.checked) Tryz.own started (by kernel_rfl) Tryz.func4
    (ChangeSpec.witness6 (enc:=enc) (C:=Tryz.checked) false ⟨#[],#[.slice none 0 0,.slice none 0 0],[]⟩ 8 (by kernel_rfl) (by kernel_rfl) (by kernel_rfl) (by kernel_rfl)) ?_
  intro W base args ds gs before hval0 hW hcnd _
  have hread : (Tryz.f4.params.toList.all fun t=>Tryz.prog.readableRec t && decide (t < Tryz.prog.types.size)) = true:=by kernel_rfl
  have hps : Tryz.f4.params.toList.map (fun t=>(aggT Tryz.prog t,tyL Tryz.prog 8 t)) = ([(false,[.sl [.int .i64,.int .i64,.int .u8,.int .i64,.int .i64]]),(false,[.sl [.int .i64,.int .i64,.int .u8,.int .i64]])] : List (Bool × List CT)).map (fun x=>(x.1,some x.2)):=by kernel_rfl
  refine contract (P:=Tryz.prog) (f:=Tryz.f4) (F:=4) (s:=Rows.streetGrowsSpec) (tb:=4) (fuel:=8) (base:=base) q13g mixed Tryz.laidOut rfl (by kernel_rfl) (by kernel_rfl) (fun t ht=>?_) hps (fun ds hd=>?_) q13m hval0 hW
  · have:=List.all_eq_true.1 hread t ht
    simpa using this
  · have hd : ds.length = 2:=hd
    match ds,hd with
    | [a0,a1],_=>rfl
theorem streetGrows_holds : Rows.StreetGrowsSaid:=
  OpenClaim.holds_of_wide 4 Tryz.f4 rfl rfl rfl rfl rfl rfl rfl ⟨rfl,rfl,rfl,rfl,rfl⟩ rfl rfl rfl rfl rfl (by kernel_rfl) Tryz.func4 (by kernel_rfl)
    (of_decide_eq_true (by kernel_rfl)) (by unfold Func.isWrapper;first | (rw [if_pos (by decide +kernel)];kernel_rfl) | (rw [if_neg (by decide +kernel)];exact ⟨rfl,rfl⟩))
    (fun os started H enc _=>q13l os started H enc)
end Go.Proofs.YtgkialgkmjnfbaaGreat
