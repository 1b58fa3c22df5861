/-
  No cell of these rows narrows 'for every input' (looked for: loops, veiled, ifaces, maps, wideKeys, modest, calm, conditions, laid).
  DERIVED. THE GIVEN ROWS OF THIS SEAT. 3 by the template 'for every input the law returns true; each argument reads behind the call as it read before'; 0 by the template 'total and deterministic' (their statements: YtiejlbckgihckaaGreatTotals.lean).
  GIVEN WITH THE SEED: the statements are not yours to turn. If you find one false, say at which input.
  Laid BY PROGRAM, IN A SANDBOX (cutbox-rows.mjs): the forced cells as the released guide's own fill.sh prints them over the translation 5630d6938b62195a… (all of the seat's roots in one cut). By AI agents, Wed Nov 11 2026. No macro, syntax, notation, axiom, sorry.
-/
import Derived.Test.YtiejlbckgihckaaGreatChecked
import GoSem.Claim
import GoSem.ClaimJoined
import GoSem.ClaimMapViews
import Derived.JoinedTies
import Derived.KernelRfl
namespace Go.Proofs.YtiejlbckgihckaaGreat
/- THE CELL 'sum', in the pinned program and in every row, IS THE sha256 OF THE DUMP (.gsa) THAT YtiejlbckgihckaaGreatProg.lean LOADS. Nothing in Lean hashes anything: it is a label: what it is worth is what the hold of that sum in a sandbox is worth. -/
noncomputable def Tryz.pinned : Pinned := { name := "ytiejlbckgihckaagreat", sum := "5630d6938b62195a418a5c084ac1a614156c31fe6c69d4c7bb85e66f3f78dd17", checked := Tryz.checked }
namespace Rows
def none {H : Type} : Left H := { results := [], args := [] }

/-- 'gambrellaw18.SolidWhole': WHATEVER THE INPUT: true; the input reads as it did. -/
def solidWholeSpec : ChangeSpec := { name := "solidWhole", fn := fun _ => fun
  | [d] => { results := [.lit (.bool true)], args := [d] }
  | _ => none }
def solidWholeRow : OpenClaim := { program := "ytiejlbckgihckaagreat", sum := "5630d6938b62195a418a5c084ac1a614156c31fe6c69d4c7bb85e66f3f78dd17", func := "gambrel/gambrellaw18.SolidWhole", spec := "solidWhole", unfollowed := true, recurses := true, apart := false }
def SolidWholeSaid : Prop := solidWholeRow.holds Tryz.pinned (OpenSpec.ofChange solidWholeSpec)

/-- ITS FALSE NEIGHBOUR: 'it returns false'. Refute it at one input. -/
def solidWholeWrong : ChangeSpec := { name := "solidWhole", fn := fun _ => fun
  | [d] => { results := [.lit (.bool false)], args := [d] }
  | _ => none }
def SolidWholeWrongFalsely : Prop := solidWholeRow.holds Tryz.pinned (OpenSpec.ofChange solidWholeWrong)

/-- 'gambrellaw18.SolidNames': WHATEVER THE INPUT: true; the input reads as it did. -/
def solidNamesSpec : ChangeSpec := { name := "solidNames", fn := fun _ => fun
  | [] => { results := [.lit (.bool true)], args := [] }
  | _ => none }
def solidNamesRow : OpenClaim := { program := "ytiejlbckgihckaagreat", sum := "5630d6938b62195a418a5c084ac1a614156c31fe6c69d4c7bb85e66f3f78dd17", func := "gambrel/gambrellaw18.SolidNames", spec := "solidNames", unfollowed := true, recurses := true, apart := false }
def SolidNamesSaid : Prop := solidNamesRow.holds Tryz.pinned (OpenSpec.ofChange solidNamesSpec)

/-- ITS FALSE NEIGHBOUR: 'it returns false'. Refute it at one input. -/
def solidNamesWrong : ChangeSpec := { name := "solidNames", fn := fun _ => fun
  | [] => { results := [.lit (.bool false)], args := [] }
  | _ => none }
def SolidNamesWrongFalsely : Prop := solidNamesRow.holds Tryz.pinned (OpenSpec.ofChange solidNamesWrong)

/-- 'gambrellaw23.SplitBoxes': WHATEVER THE INPUT: true; the input reads as it did. -/
def splitBoxesSpec : ChangeSpec := { name := "splitBoxes", fn := fun _ => fun
  | [d1, d2, d3] => { results := [.lit (.bool true)], args := [d1, d2, d3] }
  | _ => none }
def splitBoxesRow : OpenClaim := { program := "ytiejlbckgihckaagreat", sum := "5630d6938b62195a418a5c084ac1a614156c31fe6c69d4c7bb85e66f3f78dd17", func := "gambrel/gambrellaw23.SplitBoxes", spec := "splitBoxes", unfollowed := true, recurses := true, apart := false }
def SplitBoxesSaid : Prop := splitBoxesRow.holds Tryz.pinned (OpenSpec.ofChange splitBoxesSpec)

/-- ITS FALSE NEIGHBOUR: 'it returns false'. Refute it at one input. -/
def splitBoxesWrong : ChangeSpec := { name := "splitBoxes", fn := fun _ => fun
  | [d1, d2, d3] => { results := [.lit (.bool false)], args := [d1, d2, d3] }
  | _ => none }
def SplitBoxesWrongFalsely : Prop := splitBoxesRow.holds Tryz.pinned (OpenSpec.ofChange splitBoxesWrong)

/- THE SECOND FORM. 'bulk': how many values and letters a reading holds, each counted each time it is reached (what is shared counts as often as it is met; a slice's spare places count too). A statement '..UptoSaid' is the law's where the arguments, and the package variables that the reading takes, are together of bulk at most 1048576: NARROWER than '..Said'. Prove '..Said' where nothing that the law and all that it calls make is longer than what came in: it says more and counts as full. Else prove '..UptoSaid'. A law counts once. -/
mutual
def uptoBulk {H : Type} : DataW H → Nat
  | .lit (.string bytes) => bytes.length + 1
  | .lit _ => 1
  | .nil => 1
  | .ptr d => uptoBulk d + 1
  | .slice elems spare => uptoBulkAll elems + uptoBulkAll spare + 1
  | .agg parts => uptoBulkAll parts + 1
  | .iface _ d => uptoBulk d + 1
  | .map entries => uptoBulkEntries entries + 1
  | .held _ => 1
def uptoBulkAll {H : Type} : List (DataW H) → Nat
  | [] => 0
  | d :: r => uptoBulk d + uptoBulkAll r
def uptoBulkEntries {H : Type} : List (Lit × DataW H) → Nat
  | [] => 0
  | x :: r => uptoBulkEntry x + uptoBulkEntries r
def uptoBulkEntry {H : Type} : Lit × DataW H → Nat
  | (.string bytes, d) => bytes.length + uptoBulk d + 1
  | (_, d) => uptoBulk d + 1
 end
def uptoSmall : (H : Type) → List (DataW H) → Bool := fun _ ds => decide (uptoBulkAll ds ≤ 1048576)
def OpenSpec.upto (s : _root_.Go.ChangeSpec) : _root_.Go.OpenSpec := { _root_.Go.OpenSpec.ofChange s with cond := some uptoSmall }

/-- 'gambrellaw18.SolidWhole', WHERE WHAT IT READS IS OF BULK AT MOST 1048576: true; the input reads as it did. -/
def solidWholeUptoRow : OpenClaim := { program := "ytiejlbckgihckaagreat", sum := "5630d6938b62195a418a5c084ac1a614156c31fe6c69d4c7bb85e66f3f78dd17", func := "gambrel/gambrellaw18.SolidWhole", spec := "solidWhole", unfollowed := true, recurses := true, apart := false, narrowed := true }
def SolidWholeUptoSaid : Prop := solidWholeUptoRow.holds Tryz.pinned (OpenSpec.upto solidWholeSpec)

/-- 'gambrellaw18.SolidNames', WHERE WHAT IT READS IS OF BULK AT MOST 1048576: true; the input reads as it did. -/
def solidNamesUptoRow : OpenClaim := { program := "ytiejlbckgihckaagreat", sum := "5630d6938b62195a418a5c084ac1a614156c31fe6c69d4c7bb85e66f3f78dd17", func := "gambrel/gambrellaw18.SolidNames", spec := "solidNames", unfollowed := true, recurses := true, apart := false, narrowed := true }
def SolidNamesUptoSaid : Prop := solidNamesUptoRow.holds Tryz.pinned (OpenSpec.upto solidNamesSpec)

/-- 'gambrellaw23.SplitBoxes', WHERE WHAT IT READS IS OF BULK AT MOST 1048576: true; the input reads as it did. -/
def splitBoxesUptoRow : OpenClaim := { program := "ytiejlbckgihckaagreat", sum := "5630d6938b62195a418a5c084ac1a614156c31fe6c69d4c7bb85e66f3f78dd17", func := "gambrel/gambrellaw23.SplitBoxes", spec := "splitBoxes", unfollowed := true, recurses := true, apart := false, narrowed := true }
def SplitBoxesUptoSaid : Prop := splitBoxesUptoRow.holds Tryz.pinned (OpenSpec.upto splitBoxesSpec)

end Rows
end Go.Proofs.YtiejlbckgihckaaGreat
