/- FinRaisePrisms -/
import Derived.Test.YtlchefooafpdlaaK15
import Derived.ProofKit
namespace Go.Proofs.Ytlchefooafpdlaa
open Go Go.Am Go.Sh
open Go.ChangeShapes Go.WideShapes Go.ChangeAt Go.RowKit
theorem Try.own : ownKnob Try.prog.godebug = none:=by kernel_rfl
theorem Try.laidOut : laidOutB Try.prog = true:=by kernel_rfl
theorem qpg {x : List DV} (h : RowTy [.int .i64,.int .i64,.int .i64,.int .i64] x) : ∃ a : api_Rect,x = qb a∧(I64 a.X0∧I64 a.Y0∧I64 a.X1∧I64 a.Y1):=by
  obtain ⟨d0,r0,rfl,h0,g0⟩:=q8d h
  obtain ⟨d1,r1,rfl,h1,g1⟩:=q8d g0
  obtain ⟨d2,r2,rfl,h2,g2⟩:=q8d g1
  obtain ⟨d3,r3,rfl,h3,g3⟩:=q8d g2
  obtain rfl:=qj2 g3
  obtain ⟨a0,rfl,w0⟩:=qb9 h0
  obtain ⟨a1,rfl,w1⟩:=qb9 h1
  obtain ⟨a2,rfl,w2⟩:=qb9 h2
  obtain ⟨a3,rfl,w3⟩:=qb9 h3
  exact ⟨⟨a0,a1,a2,a3⟩,rfl,⟨qba w0,qba w1,qba w2,qba w3⟩⟩
theorem qs4 {x : List DV} (h : RowTy [.sl [.int .i64,.int .i64,.int .i64,.int .i64],.int .i64] x) : ∃ a : qs,DLeL x (qw a)∧(((∀ y∈a.Region,I64 y.X0∧I64 y.Y0∧I64 y.X1∧I64 y.Y1)∧a.Region.length≤maxLen)∧I64 a.Height):=by
  obtain ⟨d0,r0,rfl,h0,g0⟩:=q8d h
  obtain ⟨d1,r1,rfl,h1,g1⟩:=q8d g0
  obtain rfl:=qj2 g1
  obtain ⟨a0,s0,w0,l0⟩:=qqu (enc:=qb) (fun _=>qpg) h0
  obtain ⟨a1,rfl,w1⟩:=qb9 h1
  exact ⟨⟨a0,a1⟩,(.cons s0 (.cons (.refl _) .nil)),⟨⟨w0,l0⟩,qba w1⟩⟩
theorem qh3 (xs : List DV) (h : ArgsTy [(false,[.sl [.int .i64,.int .i64,.int .i64,.int .i64]]),(false,[.int .i64]),(false,[.int .i64]),(false,[.sl [.sl [.int .i64,.int .i64,.int .i64,.int .i64],.int .i64]])] xs) : Pure Try.prog tab 4 xs (.bool true):=by
  obtain ⟨d0,r0,rfl,h0,h⟩:=qd1 h
  obtain ⟨d1,r1,rfl,h1,h⟩:=qd1 h
  obtain ⟨d2,r2,rfl,h2,h⟩:=qd1 h
  obtain ⟨d3,r3,rfl,h3,h⟩:=qd1 h
  obtain rfl:=qqd h
  obtain ⟨p0,s0,w0,l0⟩:=qqu (enc:=qb) (fun _=>qpg) h0
  obtain ⟨p1,rfl,w1⟩:=qb9 h1
  replace w1 : I64 p1:=qba w1
  obtain ⟨p2,rfl,w2⟩:=qb9 h2
  replace w2 : I64 p2:=qba w2
  obtain ⟨p3,s3,w3,l3⟩:=qry (enc:=qw) (fun _=>qs4) h3
  exact q9w (.cons s0 (.cons (.refl _) (.cons (.refl _) (.cons s3 .nil)))) (qf4 p0 p1 p2 p3 true (raisePrisms p0 p1 p2 p3 l3))
set_option maxRecDepth 100000 in
theorem qf5 (os : Os) (started : os.Started) (H : Type) (enc : TypeId × Value→H) :
    ReturnsInHanded {} Try.checked os 4 .any (Rows.raisePrismsSpec.pre6 enc Try.prog Try.f4 Rows.raisePrismsRow.domain false) (Rows.raisePrismsSpec.post enc Try.prog Try.f4 false true false false):=by
  refine returnsInHanded_of_change (C:=Try.checked) Try.own started (by kernel_rfl) Try.func4
    (ChangeSpec.witness6 (enc:=enc) (C:=Try.checked) false ⟨#[],#[.slice none 0 0,.int .i64 0,.int .i64 0,.slice none 0 0],[]⟩ 8 (by kernel_rfl) (by kernel_rfl) (by kernel_rfl) (by kernel_rfl)) ?_
  intro W base args ds gs before hval0 hW hcnd _
  have hread : (Try.f4.params.toList.all fun t=>Try.prog.readableRec t && decide (t < Try.prog.types.size)) = true:=by kernel_rfl
  have hps : Try.f4.params.toList.map (fun t=>(aggT Try.prog t,tyL Try.prog 8 t)) = ([(false,[.sl [.int .i64,.int .i64,.int .i64,.int .i64]]),(false,[.int .i64]),(false,[.int .i64]),(false,[.sl [.sl [.int .i64,.int .i64,.int .i64,.int .i64],.int .i64]])] : List (Bool × List CT)).map (fun x=>(x.1,some x.2)):=by kernel_rfl
  refine contract (P:=Try.prog) (f:=Try.f4) (F:=4) (s:=Rows.raisePrismsSpec) (tb:=4) (fuel:=8) (base:=base) tabOk mixed Try.laidOut rfl (by kernel_rfl) (by kernel_rfl) (fun t ht=>?_) hps (fun ds hd=>?_) qh3 hval0 hW
  · have:=List.all_eq_true.1 hread t ht
    simpa using this
  · have hd : ds.length = 4:=hd
    match ds,hd with
    | [a0,a1,a2,a3],_=>rfl
theorem raisePrisms_holds : Rows.RaisePrismsSaid:=
  OpenClaim.holds_of_wide 4 Try.f4 rfl rfl rfl rfl rfl rfl rfl ⟨rfl,rfl,rfl,rfl,rfl⟩ rfl rfl rfl rfl rfl (by kernel_rfl) Try.func4 (by kernel_rfl)
    (of_decide_eq_true (by kernel_rfl)) (by unfold Func.isWrapper;first | (rw [if_pos (by decide +kernel)];kernel_rfl) | (rw [if_neg (by decide +kernel)];exact ⟨rfl,rfl⟩))
    (fun os started H enc _=>qf5 os started H enc)
end Go.Proofs.Ytlchefooafpdlaa
