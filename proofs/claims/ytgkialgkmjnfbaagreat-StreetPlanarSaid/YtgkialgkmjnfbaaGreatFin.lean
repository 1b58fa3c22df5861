/- FinStreetPlanar -/
import Derived.Test.YtgkialgkmjnfbaaGreatK21
import Derived.ProofKit
namespace Go.Proofs.YtgkialgkmjnfbaaGreat
open Go Go.Am Go.Sh
open Go.ChangeShapes Go.WideShapes Go.ChangeAt Go.RowKit
theorem Tryz.own : ownKnob Tryz.prog.godebug = none:=by kernel_rfl
theorem Tryz.laidOut : laidOutB Tryz.prog = true:=by kernel_rfl
theorem q14t {x : List DV} (h : q7m [.int .i64,.int .i64,.int .i64,.int .i64] x) : ∃ a : qu,x = Kv a∧((I64 a.A.X∧I64 a.A.Y)∧(I64 a.B.X∧I64 a.B.Y)):=by
  obtain ⟨d0,r0,rfl,h0,g0⟩:=q14j h
  obtain ⟨d1,r1,rfl,h1,g1⟩:=q14j g0
  obtain ⟨d2,r2,rfl,h2,g2⟩:=q14j g1
  obtain ⟨d3,r3,rfl,h3,g3⟩:=q14j g2
  obtain rfl:=q14k g3
  obtain ⟨a0,rfl,w0⟩:=q14o h0
  obtain ⟨a1,rfl,w1⟩:=q14o h1
  obtain ⟨a2,rfl,w2⟩:=q14o h2
  obtain ⟨a3,rfl,w3⟩:=q14o h3
  exact ⟨⟨⟨a0,a1⟩,⟨a2,a3⟩⟩,rfl,⟨⟨q14q w0,q14q w1⟩,⟨q14q w2,q14q w3⟩⟩⟩
theorem q14s (xs : List DV) (h : q13 [(false,[.sl [.int .i64,.int .i64,.int .i64,.int .i64]])] xs) : Pure Tryz.prog tab 6 xs (.bool true):=by
  obtain ⟨d0,r0,rfl,h0,h⟩:=q14g h
  obtain rfl:=q14f h
  obtain ⟨p0,s0,w0,l0⟩:=q14p (enc:=Kv) (fun _=>q14t) h0
  exact qnl (.cons s0 .nil) (q14h p0 true (q14m p0 l0))
set_option maxRecDepth 100000 in
theorem q14r (os : Os) (started : os.Started) (H : Type) (enc : TypeId × Value→H) :
    ReturnsInHanded {} Tryz.checked os 6 .any (Rows.streetPlanarSpec.pre6 enc Tryz.prog Tryz.f6 Rows.streetPlanarRow.domain false) (Rows.streetPlanarSpec.post enc Tryz.prog Tryz.f6 false true false false):=by
  refine returnsInHanded_of_change (C:=Tryz.checked) Tryz.own started (by kernel_rfl) Tryz.func6
    (ChangeSpec.witness6 (enc:=enc) (C:=Tryz.checked) false ⟨#[],#[.slice none 0 0],[]⟩ 8 (by kernel_rfl) (by kernel_rfl) (by kernel_rfl) (by kernel_rfl)) ?_
  intro W base args ds gs before hval0 hW hcnd _
  have hread : (Tryz.f6.params.toList.all fun t=>Tryz.prog.readableRec t && decide (t < Tryz.prog.types.size)) = true:=by kernel_rfl
  have hps : Tryz.f6.params.toList.map (fun t=>(aggT Tryz.prog t,tyL Tryz.prog 8 t)) = ([(false,[.sl [.int .i64,.int .i64,.int .i64,.int .i64]])] : List (Bool × List CT)).map (fun x=>(x.1,some x.2)):=by kernel_rfl
  refine contract (P:=Tryz.prog) (f:=Tryz.f6) (F:=6) (s:=Rows.streetPlanarSpec) (tb:=4) (fuel:=8) (base:=base) q14n mixed Tryz.laidOut rfl (by kernel_rfl) (by kernel_rfl) (fun t ht=>?_) hps (fun ds hd=>?_) q14s hval0 hW
  · have:=List.all_eq_true.1 hread t ht
    simpa using this
  · have hd : ds.length = 1:=hd
    match ds,hd with
    | [a0],_=>rfl
theorem streetPlanar_holds : Rows.StreetPlanarSaid:=
  OpenClaim.holds_of_wide 6 Tryz.f6 rfl rfl rfl rfl rfl rfl rfl ⟨rfl,rfl,rfl,rfl,rfl⟩ rfl rfl rfl rfl rfl (by kernel_rfl) Tryz.func6 (by kernel_rfl)
    (of_decide_eq_true (by kernel_rfl)) (by unfold Func.isWrapper;first | (rw [if_pos (by decide +kernel)];kernel_rfl) | (rw [if_neg (by decide +kernel)];exact ⟨rfl,rfl⟩))
    (fun os started H enc _=>q14r os started H enc)
end Go.Proofs.YtgkialgkmjnfbaaGreat
