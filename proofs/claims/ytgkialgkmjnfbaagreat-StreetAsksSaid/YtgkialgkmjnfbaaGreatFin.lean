/- FinStreetAsks -/
import Derived.Test.YtgkialgkmjnfbaaGreatK20
import Derived.ProofKit
namespace Go.Proofs.YtgkialgkmjnfbaaGreat
open Go Go.Am Go.Sh
open Go.ChangeShapes Go.WideShapes Go.ChangeAt Go.RowKit
def q11z (x : Qz) : List DV:=[.sl 2 (x.Nodes.map qq),.sl 2 (x.Edges.map qy)]
theorem Tryz.own : ownKnob Tryz.prog.godebug = none:=by kernel_rfl
theorem Tryz.laidOut : laidOutB Tryz.prog = true:=by kernel_rfl
theorem q122 {x : List DV} (h : q4z [.int .i64,.int .i64] x) : ∃ a : qf,x = qq a∧(I64 a.X∧I64 a.Y):=by
  obtain ⟨d0,r0,rfl,h0,g0⟩:=q11q h
  obtain ⟨d1,r1,rfl,h1,g1⟩:=q11q g0
  obtain rfl:=q11r g1
  obtain ⟨a0,rfl,w0⟩:=q11v h0
  obtain ⟨a1,rfl,w1⟩:=q11v h1
  exact ⟨⟨a0,a1⟩,rfl,⟨q11x w0,q11x w1⟩⟩
theorem q123 {x : List DV} (h : q4z [.int .i64,.int .i64] x) : ∃ a : qm,x = qy a∧(I64 a.A∧I64 a.B):=by
  obtain ⟨d0,r0,rfl,h0,g0⟩:=q11q h
  obtain ⟨d1,r1,rfl,h1,g1⟩:=q11q g0
  obtain rfl:=q11r g1
  obtain ⟨a0,rfl,w0⟩:=q11v h0
  obtain ⟨a1,rfl,w1⟩:=q11v h1
  exact ⟨⟨a0,a1⟩,rfl,⟨q11x w0,q11x w1⟩⟩
theorem q121 {x : List DV} (h : q4z [.sl [.int .i64,.int .i64],.sl [.int .i64,.int .i64]] x) : ∃ a : Qz,DLeL x (q11z a)∧(((∀ y∈a.Nodes,I64 y.X∧I64 y.Y)∧a.Nodes.length≤maxLen)∧((∀ y∈a.Edges,I64 y.A∧I64 y.B)∧a.Edges.length≤maxLen)):=by
  obtain ⟨d0,r0,rfl,h0,g0⟩:=q11q h
  obtain ⟨d1,r1,rfl,h1,g1⟩:=q11q g0
  obtain rfl:=q11r g1
  obtain ⟨a0,s0,w0,l0⟩:=q11w (enc:=qq) (fun _=>q122) h0
  obtain ⟨a1,s1,w1,l1⟩:=q11w (enc:=qy) (fun _=>q123) h1
  exact ⟨⟨a0,a1⟩,(.cons s0 (.cons s1 .nil)),⟨⟨w0,l0⟩,⟨w1,l1⟩⟩⟩
theorem q120 (xs : List DV) (h : Jh [(true,[.sl [.int .i64,.int .i64],.sl [.int .i64,.int .i64]]),(true,[.sl [.int .i64,.int .i64],.sl [.int .i64,.int .i64]]),(true,[.int .i64,.int .i64]),(false,[.int .i64])] xs) : Pure Tryz.prog tab 3 xs (.bool true):=by
  obtain ⟨d0,r0,rfl,h0,h⟩:=q11l h
  obtain ⟨d1,r1,rfl,h1,h⟩:=q11l h
  obtain ⟨d2,r2,rfl,h2,h⟩:=q11l h
  obtain ⟨d3,r3,rfl,h3,h⟩:=q11n h
  obtain rfl:=q11m h
  obtain ⟨p0,s0,w0⟩:=q121 h0
  obtain ⟨p1,s1,w1⟩:=q121 h1
  obtain ⟨p2,rfl,w2⟩:=q122 h2
  obtain ⟨p3,rfl,w3⟩:=q11v h3
  replace w3 : I64 p3:=q11x w3
  exact qw2 (.cons (qhy s0) (.cons (qhy s1) (.cons (.refl _) (.cons (.refl _) .nil)))) (q11o p0 p1 p2 p3 true (q11t p0 p1 p2 p3))
set_option maxRecDepth 100000 in
theorem q11y (os : Os) (started : os.Started) (H : Type) (enc : TypeId × Value→H) :
    ReturnsInHanded {} Tryz.checked os 3 .any (Rows.streetAsksSpec.pre6 enc Tryz.prog Tryz.f3 Rows.streetAsksRow.domain false) (Rows.streetAsksSpec.post enc Tryz.prog Tryz.f3 false true false false):=by
  refine returnsInHanded_of_change (C:=Tryz.checked) Tryz.own started (by kernel_rfl) Tryz.func3
    (ChangeSpec.witness6 (enc:=enc) (C:=Tryz.checked) false ⟨#[],#[.agg #[.slice none 0 0,.slice none 0 0],.agg #[.slice none 0 0,.slice none 0 0],.agg #[.int .i64 0,.int .i64 0],.int .i64 0],[]⟩ 8 (by kernel_rfl) (by kernel_rfl) (by kernel_rfl) (by kernel_rfl)) ?_
  intro W base args ds gs before hval0 hW hcnd _
  have hread : (Tryz.f3.params.toList.all fun t=>Tryz.prog.readableRec t && decide (t < Tryz.prog.types.size)) = true:=by kernel_rfl
  have hps : Tryz.f3.params.toList.map (fun t=>(aggT Tryz.prog t,tyL Tryz.prog 8 t)) = ([(true,[.sl [.int .i64,.int .i64],.sl [.int .i64,.int .i64]]),(true,[.sl [.int .i64,.int .i64],.sl [.int .i64,.int .i64]]),(true,[.int .i64,.int .i64]),(false,[.int .i64])] : List (Bool × List CT)).map (fun x=>(x.1,some x.2)):=by kernel_rfl
  refine contract (P:=Tryz.prog) (f:=Tryz.f3) (F:=3) (s:=Rows.streetAsksSpec) (tb:=4) (fuel:=8) (base:=base) q11u mixed Tryz.laidOut rfl (by kernel_rfl) (by kernel_rfl) (fun t ht=>?_) hps (fun ds hd=>?_) q120 hval0 hW
  · have:=List.all_eq_true.1 hread t ht
    simpa using this
  · have hd : ds.length = 4:=hd
    match ds,hd with
    | [a0,a1,a2,a3],_=>rfl
theorem streetAsks_holds : Rows.StreetAsksSaid:=
  OpenClaim.holds_of_wide 3 Tryz.f3 rfl rfl rfl rfl rfl rfl rfl ⟨rfl,rfl,rfl,rfl,rfl⟩ rfl rfl rfl rfl rfl (by kernel_rfl) Tryz.func3 (by kernel_rfl)
    (of_decide_eq_true (by kernel_rfl)) (by unfold Func.isWrapper;first | (rw [if_pos (by decide +kernel)];kernel_rfl) | (rw [if_neg (by decide +kernel)];exact ⟨rfl,rfl⟩))
    (fun os started H enc _=>q11y os started H enc)
end Go.Proofs.YtgkialgkmjnfbaaGreat
