/- FinStreetNames -/
import Derived.Test.YtgkialgkmjnfbaaGreatK21
import Derived.ProofKit
namespace Go.Proofs.YtgkialgkmjnfbaaGreat
open Go Go.Am Go.Sh
open Go.ChangeShapes Go.WideShapes Go.ChangeAt Go.RowKit
theorem Tryz.own : ownKnob Tryz.prog.godebug = none:=by kernel_rfl
theorem Tryz.laidOut : laidOutB Tryz.prog = true:=by kernel_rfl
theorem q144 (xs : List DV) (h : q3d [] xs) : Pure Tryz.prog tab 7 xs (.bool true):=by
  obtain rfl:=q13x h
  exact q22 .nil (q13y  true (q141))
set_option maxRecDepth 100000 in
theorem q143 (os : Os) (started : os.Started) (H : Type) (enc : TypeId × Value→H) :
    ReturnsInHanded {} Tryz.checked os 7 .any (Rows.streetNamesSpec.pre6 enc Tryz.prog Tryz.f7 Rows.streetNamesRow.domain false) (Rows.streetNamesSpec.post enc Tryz.prog Tryz.f7 false true false false):=by
  refine returnsInHanded_of_change (C:=Tryz.checked) Tryz.own started (by kernel_rfl) Tryz.func7
    (ChangeSpec.witness6 (enc:=enc) (C:=Tryz.checked) false ⟨#[],#[],[]⟩ 8 (by kernel_rfl) (by kernel_rfl) (by kernel_rfl) (by kernel_rfl)) ?_
  intro W base args ds gs before hval0 hW hcnd _
  have hread : (Tryz.f7.params.toList.all fun t=>Tryz.prog.readableRec t && decide (t < Tryz.prog.types.size)) = true:=by kernel_rfl
  have hps : Tryz.f7.params.toList.map (fun t=>(aggT Tryz.prog t,tyL Tryz.prog 8 t)) = ([] : List (Bool × List CT)).map (fun x=>(x.1,some x.2)):=by kernel_rfl
  refine contract (P:=Tryz.prog) (f:=Tryz.f7) (F:=7) (s:=Rows.streetNamesSpec) (tb:=4) (fuel:=8) (base:=base) q142 mixed Tryz.laidOut rfl (by kernel_rfl) (by kernel_rfl) (fun t ht=>?_) hps (fun ds hd=>?_) q144 hval0 hW
  · have:=List.all_eq_true.1 hread t ht
    simpa using this
  · have hd : ds.length = 0:=hd
    match ds,hd with
    | [],_=>rfl
theorem streetNames_holds : Rows.StreetNamesSaid:=
  OpenClaim.holds_of_wide 7 Tryz.f7 rfl rfl rfl rfl rfl rfl rfl ⟨rfl,rfl,rfl,rfl,rfl⟩ rfl rfl rfl rfl rfl (by kernel_rfl) Tryz.func7 (by kernel_rfl)
    (of_decide_eq_true (by kernel_rfl)) (by unfold Func.isWrapper;first | (rw [if_pos (by decide +kernel)];kernel_rfl) | (rw [if_neg (by decide +kernel)];exact ⟨rfl,rfl⟩))
    (fun os started H enc _=>q143 os started H enc)
end Go.Proofs.YtgkialgkmjnfbaaGreat
