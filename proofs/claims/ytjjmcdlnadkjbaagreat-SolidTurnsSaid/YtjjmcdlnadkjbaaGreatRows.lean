/-
  No cell of these rows narrows 'for every input' (looked for: loops, veiled, ifaces, maps, wideKeys, modest, calm, conditions, laid).
  DERIVED. THE GIVEN ROWS OF THIS SEAT. 9 by the template 'for every input the law returns true; each argument reads behind the call as it read before'; 0 by the template 'total and deterministic' (their statements: YtjjmcdlnadkjbaaGreatTotals.lean).
  GIVEN WITH THE SEED: the statements are not yours to turn. If you find one false, say at which input.
  Laid BY PROGRAM, IN A SANDBOX (cutbox-rows.mjs): the forced cells as the released guide's own fill.sh prints them over the translation efbbd8961241404e… (all of the seat's roots in one cut). By AI agents, Wed Nov 11 2026. No macro, syntax, notation, axiom, sorry.
-/
import Derived.Test.YtjjmcdlnadkjbaaGreatChecked
import GoSem.Claim
import GoSem.ClaimJoined
import GoSem.ClaimMapViews
import Derived.JoinedTies
import Derived.KernelRfl
namespace Go.Proofs.YtjjmcdlnadkjbaaGreat
/- THE CELL 'sum', in the pinned program and in every row, IS THE sha256 OF THE DUMP (.gsa) THAT YtjjmcdlnadkjbaaGreatProg.lean LOADS. Nothing in Lean hashes anything: it is a label: what it is worth is what the hold of that sum in a sandbox is worth. -/
noncomputable def Tryz.pinned : Pinned := { name := "ytjjmcdlnadkjbaagreat", sum := "efbbd8961241404e1d3cfa893cc7107f0f44b7bb01de2aed5b8b7a05c7f4de7f", checked := Tryz.checked }
namespace Rows
def none {H : Type} : Left H := { results := [], args := [] }

/-- 'gambrellaw18.SolidMakes': WHATEVER THE INPUT: true; the input reads as it did. -/
def solidMakesSpec : ChangeSpec := { name := "solidMakes", fn := fun _ => fun
  | [d1, d2, d3] => { results := [.lit (.bool true)], args := [d1, d2, d3] }
  | _ => none }
def solidMakesRow : OpenClaim := { program := "ytjjmcdlnadkjbaagreat", sum := "efbbd8961241404e1d3cfa893cc7107f0f44b7bb01de2aed5b8b7a05c7f4de7f", func := "gambrel/gambrellaw18.SolidMakes", spec := "solidMakes", unfollowed := true, recurses := true, apart := false }
def SolidMakesSaid : Prop := solidMakesRow.holds Tryz.pinned (OpenSpec.ofChange solidMakesSpec)

/-- ITS FALSE NEIGHBOUR: 'it returns false'. Refute it at one input. -/
def solidMakesWrong : ChangeSpec := { name := "solidMakes", fn := fun _ => fun
  | [d1, d2, d3] => { results := [.lit (.bool false)], args := [d1, d2, d3] }
  | _ => none }
def SolidMakesWrongFalsely : Prop := solidMakesRow.holds Tryz.pinned (OpenSpec.ofChange solidMakesWrong)

/-- 'gambrellaw18.SolidJoins': WHATEVER THE INPUT: true; the input reads as it did. -/
def solidJoinsSpec : ChangeSpec := { name := "solidJoins", fn := fun _ => fun
  | [d1, d2] => { results := [.lit (.bool true)], args := [d1, d2] }
  | _ => none }
def solidJoinsRow : OpenClaim := { program := "ytjjmcdlnadkjbaagreat", sum := "efbbd8961241404e1d3cfa893cc7107f0f44b7bb01de2aed5b8b7a05c7f4de7f", func := "gambrel/gambrellaw18.SolidJoins", spec := "solidJoins", unfollowed := true, recurses := true, apart := false }
def SolidJoinsSaid : Prop := solidJoinsRow.holds Tryz.pinned (OpenSpec.ofChange solidJoinsSpec)

/-- ITS FALSE NEIGHBOUR: 'it returns false'. Refute it at one input. -/
def solidJoinsWrong : ChangeSpec := { name := "solidJoins", fn := fun _ => fun
  | [d1, d2] => { results := [.lit (.bool false)], args := [d1, d2] }
  | _ => none }
def SolidJoinsWrongFalsely : Prop := solidJoinsRow.holds Tryz.pinned (OpenSpec.ofChange solidJoinsWrong)

/-- 'gambrellaw18.SolidLooks': WHATEVER THE INPUT: true; the input reads as it did. -/
def solidLooksSpec : ChangeSpec := { name := "solidLooks", fn := fun _ => fun
  | [d1, d2, d3] => { results := [.lit (.bool true)], args := [d1, d2, d3] }
  | _ => none }
def solidLooksRow : OpenClaim := { program := "ytjjmcdlnadkjbaagreat", sum := "efbbd8961241404e1d3cfa893cc7107f0f44b7bb01de2aed5b8b7a05c7f4de7f", func := "gambrel/gambrellaw18.SolidLooks", spec := "solidLooks", unfollowed := true, recurses := true, apart := false }
def SolidLooksSaid : Prop := solidLooksRow.holds Tryz.pinned (OpenSpec.ofChange solidLooksSpec)

/-- ITS FALSE NEIGHBOUR: 'it returns false'. Refute it at one input. -/
def solidLooksWrong : ChangeSpec := { name := "solidLooks", fn := fun _ => fun
  | [d1, d2, d3] => { results := [.lit (.bool false)], args := [d1, d2, d3] }
  | _ => none }
def SolidLooksWrongFalsely : Prop := solidLooksRow.holds Tryz.pinned (OpenSpec.ofChange solidLooksWrong)

/-- 'gambrellaw18.SolidTurns': WHATEVER THE INPUT: true; the input reads as it did. -/
def solidTurnsSpec : ChangeSpec := { name := "solidTurns", fn := fun _ => fun
  | [d1, d2, d3] => { results := [.lit (.bool true)], args := [d1, d2, d3] }
  | _ => none }
def solidTurnsRow : OpenClaim := { program := "ytjjmcdlnadkjbaagreat", sum := "efbbd8961241404e1d3cfa893cc7107f0f44b7bb01de2aed5b8b7a05c7f4de7f", func := "gambrel/gambrellaw18.SolidTurns", spec := "solidTurns", unfollowed := true, recurses := true, apart := false }
def SolidTurnsSaid : Prop := solidTurnsRow.holds Tryz.pinned (OpenSpec.ofChange solidTurnsSpec)

/-- ITS FALSE NEIGHBOUR: 'it returns false'. Refute it at one input. -/
def solidTurnsWrong : ChangeSpec := { name := "solidTurns", fn := fun _ => fun
  | [d1, d2, d3] => { results := [.lit (.bool false)], args := [d1, d2, d3] }
  | _ => none }
def SolidTurnsWrongFalsely : Prop := solidTurnsRow.holds Tryz.pinned (OpenSpec.ofChange solidTurnsWrong)

/-- 'gambrellaw18.SolidSections': WHATEVER THE INPUT: true; the input reads as it did. -/
def solidSectionsSpec : ChangeSpec := { name := "solidSections", fn := fun _ => fun
  | [d1, d2] => { results := [.lit (.bool true)], args := [d1, d2] }
  | _ => none }
def solidSectionsRow : OpenClaim := { program := "ytjjmcdlnadkjbaagreat", sum := "efbbd8961241404e1d3cfa893cc7107f0f44b7bb01de2aed5b8b7a05c7f4de7f", func := "gambrel/gambrellaw18.SolidSections", spec := "solidSections", unfollowed := true, recurses := true, apart := false }
def SolidSectionsSaid : Prop := solidSectionsRow.holds Tryz.pinned (OpenSpec.ofChange solidSectionsSpec)

/-- ITS FALSE NEIGHBOUR: 'it returns false'. Refute it at one input. -/
def solidSectionsWrong : ChangeSpec := { name := "solidSections", fn := fun _ => fun
  | [d1, d2] => { results := [.lit (.bool false)], args := [d1, d2] }
  | _ => none }
def SolidSectionsWrongFalsely : Prop := solidSectionsRow.holds Tryz.pinned (OpenSpec.ofChange solidSectionsWrong)

/-- 'gambrellaw18.SolidPoints': WHATEVER THE INPUT: true; the input reads as it did. -/
def solidPointsSpec : ChangeSpec := { name := "solidPoints", fn := fun _ => fun
  | [d1, d2, d3] => { results := [.lit (.bool true)], args := [d1, d2, d3] }
  | _ => none }
def solidPointsRow : OpenClaim := { program := "ytjjmcdlnadkjbaagreat", sum := "efbbd8961241404e1d3cfa893cc7107f0f44b7bb01de2aed5b8b7a05c7f4de7f", func := "gambrel/gambrellaw18.SolidPoints", spec := "solidPoints", unfollowed := true, recurses := true, apart := false }
def SolidPointsSaid : Prop := solidPointsRow.holds Tryz.pinned (OpenSpec.ofChange solidPointsSpec)

/-- ITS FALSE NEIGHBOUR: 'it returns false'. Refute it at one input. -/
def solidPointsWrong : ChangeSpec := { name := "solidPoints", fn := fun _ => fun
  | [d1, d2, d3] => { results := [.lit (.bool false)], args := [d1, d2, d3] }
  | _ => none }
def SolidPointsWrongFalsely : Prop := solidPointsRow.holds Tryz.pinned (OpenSpec.ofChange solidPointsWrong)

/-- 'gambrellaw18.SolidVolumes': WHATEVER THE INPUT: true; the input reads as it did. -/
def solidVolumesSpec : ChangeSpec := { name := "solidVolumes", fn := fun _ => fun
  | [d1, d2] => { results := [.lit (.bool true)], args := [d1, d2] }
  | _ => none }
def solidVolumesRow : OpenClaim := { program := "ytjjmcdlnadkjbaagreat", sum := "efbbd8961241404e1d3cfa893cc7107f0f44b7bb01de2aed5b8b7a05c7f4de7f", func := "gambrel/gambrellaw18.SolidVolumes", spec := "solidVolumes", unfollowed := true, recurses := true, apart := false }
def SolidVolumesSaid : Prop := solidVolumesRow.holds Tryz.pinned (OpenSpec.ofChange solidVolumesSpec)

/-- ITS FALSE NEIGHBOUR: 'it returns false'. Refute it at one input. -/
def solidVolumesWrong : ChangeSpec := { name := "solidVolumes", fn := fun _ => fun
  | [d1, d2] => { results := [.lit (.bool false)], args := [d1, d2] }
  | _ => none }
def SolidVolumesWrongFalsely : Prop := solidVolumesRow.holds Tryz.pinned (OpenSpec.ofChange solidVolumesWrong)

/-- 'gambrellaw18.SolidWhole': WHATEVER THE INPUT: true; the input reads as it did. -/
def solidWholeSpec : ChangeSpec := { name := "solidWhole", fn := fun _ => fun
  | [d] => { results := [.lit (.bool true)], args := [d] }
  | _ => none }
def solidWholeRow : OpenClaim := { program := "ytjjmcdlnadkjbaagreat", sum := "efbbd8961241404e1d3cfa893cc7107f0f44b7bb01de2aed5b8b7a05c7f4de7f", func := "gambrel/gambrellaw18.SolidWhole", spec := "solidWhole", unfollowed := true, recurses := true, apart := false }
def SolidWholeSaid : Prop := solidWholeRow.holds Tryz.pinned (OpenSpec.ofChange solidWholeSpec)

/-- ITS FALSE NEIGHBOUR: 'it returns false'. Refute it at one input. -/
def solidWholeWrong : ChangeSpec := { name := "solidWhole", fn := fun _ => fun
  | [d] => { results := [.lit (.bool false)], args := [d] }
  | _ => none }
def SolidWholeWrongFalsely : Prop := solidWholeRow.holds Tryz.pinned (OpenSpec.ofChange solidWholeWrong)

/-- 'gambrellaw18.SolidNames': WHATEVER THE INPUT: true; the input reads as it did. -/
def solidNamesSpec : ChangeSpec := { name := "solidNames", fn := fun _ => fun
  | [] => { results := [.lit (.bool true)], args := [] }
  | _ => none }
def solidNamesRow : OpenClaim := { program := "ytjjmcdlnadkjbaagreat", sum := "efbbd8961241404e1d3cfa893cc7107f0f44b7bb01de2aed5b8b7a05c7f4de7f", func := "gambrel/gambrellaw18.SolidNames", spec := "solidNames", unfollowed := true, recurses := true, apart := false }
def SolidNamesSaid : Prop := solidNamesRow.holds Tryz.pinned (OpenSpec.ofChange solidNamesSpec)

/-- ITS FALSE NEIGHBOUR: 'it returns false'. Refute it at one input. -/
def solidNamesWrong : ChangeSpec := { name := "solidNames", fn := fun _ => fun
  | [] => { results := [.lit (.bool false)], args := [] }
  | _ => none }
def SolidNamesWrongFalsely : Prop := solidNamesRow.holds Tryz.pinned (OpenSpec.ofChange solidNamesWrong)

/- THE SECOND FORM. 'bulk': how many values and letters a reading holds, each counted each time it is reached (what is shared counts as often as it is met; a slice's spare places count too). A statement '..UptoSaid' is the law's where the arguments, and the package variables that the reading takes, are together of bulk at most 1048576: NARROWER than '..Said'. Prove '..Said' where nothing that the law and all that it calls make is longer than what came in: it says more and counts as full. Else prove '..UptoSaid'. A law counts once. -/
mutual
def uptoBulk {H : Type} : DataW H → Nat
  | .lit (.string bytes) => bytes.length + 1
  | .lit _ => 1
  | .nil => 1
  | .ptr d => uptoBulk d + 1
  | .slice elems spare => uptoBulkAll elems + uptoBulkAll spare + 1
  | .agg parts => uptoBulkAll parts + 1
  | .iface _ d => uptoBulk d + 1
  | .map entries => uptoBulkEntries entries + 1
  | .held _ => 1
def uptoBulkAll {H : Type} : List (DataW H) → Nat
  | [] => 0
  | d :: r => uptoBulk d + uptoBulkAll r
def uptoBulkEntries {H : Type} : List (Lit × DataW H) → Nat
  | [] => 0
  | x :: r => uptoBulkEntry x + uptoBulkEntries r
def uptoBulkEntry {H : Type} : Lit × DataW H → Nat
  | (.string bytes, d) => bytes.length + uptoBulk d + 1
  | (_, d) => uptoBulk d + 1
 end
def uptoSmall : (H : Type) → List (DataW H) → Bool := fun _ ds => decide (uptoBulkAll ds ≤ 1048576)
def OpenSpec.upto (s : _root_.Go.ChangeSpec) : _root_.Go.OpenSpec := { _root_.Go.OpenSpec.ofChange s with cond := some uptoSmall }

/-- 'gambrellaw18.SolidMakes', WHERE WHAT IT READS IS OF BULK AT MOST 1048576: true; the input reads as it did. -/
def solidMakesUptoRow : OpenClaim := { program := "ytjjmcdlnadkjbaagreat", sum := "efbbd8961241404e1d3cfa893cc7107f0f44b7bb01de2aed5b8b7a05c7f4de7f", func := "gambrel/gambrellaw18.SolidMakes", spec := "solidMakes", unfollowed := true, recurses := true, apart := false, narrowed := true }
def SolidMakesUptoSaid : Prop := solidMakesUptoRow.holds Tryz.pinned (OpenSpec.upto solidMakesSpec)

/-- 'gambrellaw18.SolidJoins', WHERE WHAT IT READS IS OF BULK AT MOST 1048576: true; the input reads as it did. -/
def solidJoinsUptoRow : OpenClaim := { program := "ytjjmcdlnadkjbaagreat", sum := "efbbd8961241404e1d3cfa893cc7107f0f44b7bb01de2aed5b8b7a05c7f4de7f", func := "gambrel/gambrellaw18.SolidJoins", spec := "solidJoins", unfollowed := true, recurses := true, apart := false, narrowed := true }
def SolidJoinsUptoSaid : Prop := solidJoinsUptoRow.holds Tryz.pinned (OpenSpec.upto solidJoinsSpec)

/-- 'gambrellaw18.SolidLooks', WHERE WHAT IT READS IS OF BULK AT MOST 1048576: true; the input reads as it did. -/
def solidLooksUptoRow : OpenClaim := { program := "ytjjmcdlnadkjbaagreat", sum := "efbbd8961241404e1d3cfa893cc7107f0f44b7bb01de2aed5b8b7a05c7f4de7f", func := "gambrel/gambrellaw18.SolidLooks", spec := "solidLooks", unfollowed := true, recurses := true, apart := false, narrowed := true }
def SolidLooksUptoSaid : Prop := solidLooksUptoRow.holds Tryz.pinned (OpenSpec.upto solidLooksSpec)

/-- 'gambrellaw18.SolidTurns', WHERE WHAT IT READS IS OF BULK AT MOST 1048576: true; the input reads as it did. -/
def solidTurnsUptoRow : OpenClaim := { program := "ytjjmcdlnadkjbaagreat", sum := "efbbd8961241404e1d3cfa893cc7107f0f44b7bb01de2aed5b8b7a05c7f4de7f", func := "gambrel/gambrellaw18.SolidTurns", spec := "solidTurns", unfollowed := true, recurses := true, apart := false, narrowed := true }
def SolidTurnsUptoSaid : Prop := solidTurnsUptoRow.holds Tryz.pinned (OpenSpec.upto solidTurnsSpec)

/-- 'gambrellaw18.SolidSections', WHERE WHAT IT READS IS OF BULK AT MOST 1048576: true; the input reads as it did. -/
def solidSectionsUptoRow : OpenClaim := { program := "ytjjmcdlnadkjbaagreat", sum := "efbbd8961241404e1d3cfa893cc7107f0f44b7bb01de2aed5b8b7a05c7f4de7f", func := "gambrel/gambrellaw18.SolidSections", spec := "solidSections", unfollowed := true, recurses := true, apart := false, narrowed := true }
def SolidSectionsUptoSaid : Prop := solidSectionsUptoRow.holds Tryz.pinned (OpenSpec.upto solidSectionsSpec)

/-- 'gambrellaw18.SolidPoints', WHERE WHAT IT READS IS OF BULK AT MOST 1048576: true; the input reads as it did. -/
def solidPointsUptoRow : OpenClaim := { program := "ytjjmcdlnadkjbaagreat", sum := "efbbd8961241404e1d3cfa893cc7107f0f44b7bb01de2aed5b8b7a05c7f4de7f", func := "gambrel/gambrellaw18.SolidPoints", spec := "solidPoints", unfollowed := true, recurses := true, apart := false, narrowed := true }
def SolidPointsUptoSaid : Prop := solidPointsUptoRow.holds Tryz.pinned (OpenSpec.upto solidPointsSpec)

/-- 'gambrellaw18.SolidVolumes', WHERE WHAT IT READS IS OF BULK AT MOST 1048576: true; the input reads as it did. -/
def solidVolumesUptoRow : OpenClaim := { program := "ytjjmcdlnadkjbaagreat", sum := "efbbd8961241404e1d3cfa893cc7107f0f44b7bb01de2aed5b8b7a05c7f4de7f", func := "gambrel/gambrellaw18.SolidVolumes", spec := "solidVolumes", unfollowed := true, recurses := true, apart := false, narrowed := true }
def SolidVolumesUptoSaid : Prop := solidVolumesUptoRow.holds Tryz.pinned (OpenSpec.upto solidVolumesSpec)

/-- 'gambrellaw18.SolidWhole', WHERE WHAT IT READS IS OF BULK AT MOST 1048576: true; the input reads as it did. -/
def solidWholeUptoRow : OpenClaim := { program := "ytjjmcdlnadkjbaagreat", sum := "efbbd8961241404e1d3cfa893cc7107f0f44b7bb01de2aed5b8b7a05c7f4de7f", func := "gambrel/gambrellaw18.SolidWhole", spec := "solidWhole", unfollowed := true, recurses := true, apart := false, narrowed := true }
def SolidWholeUptoSaid : Prop := solidWholeUptoRow.holds Tryz.pinned (OpenSpec.upto solidWholeSpec)

/-- 'gambrellaw18.SolidNames', WHERE WHAT IT READS IS OF BULK AT MOST 1048576: true; the input reads as it did. -/
def solidNamesUptoRow : OpenClaim := { program := "ytjjmcdlnadkjbaagreat", sum := "efbbd8961241404e1d3cfa893cc7107f0f44b7bb01de2aed5b8b7a05c7f4de7f", func := "gambrel/gambrellaw18.SolidNames", spec := "solidNames", unfollowed := true, recurses := true, apart := false, narrowed := true }
def SolidNamesUptoSaid : Prop := solidNamesUptoRow.holds Tryz.pinned (OpenSpec.upto solidNamesSpec)

end Rows
end Go.Proofs.YtjjmcdlnadkjbaaGreat
