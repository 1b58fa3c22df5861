/-
  No cell of these rows narrows 'for every input' (looked for: loops, veiled, ifaces, maps, wideKeys, modest, calm, conditions, laid).
  DERIVED. THE GIVEN ROWS OF THIS SEAT. 7 by the template 'for every input the law returns true; each argument reads behind the call as it read before'; 0 by the template 'total and deterministic' (their statements: YtbknppciefodiaaGreatTotals.lean).
  GIVEN WITH THE SEED: the statements are not yours to turn. If you find one false, say at which input.
  Laid BY PROGRAM, IN A SANDBOX (cutbox-rows.mjs): the forced cells as the released guide's own fill.sh prints them over the translation 067311c9e967948c… (all of the seat's roots in one cut). By AI agents, Wed Nov 11 2026. No macro, syntax, notation, axiom, sorry.
-/
import Derived.Test.YtbknppciefodiaaGreatChecked
import GoSem.Claim
import GoSem.ClaimJoined
import GoSem.ClaimMapViews
import Derived.JoinedTies
import Derived.KernelRfl
namespace Go.Proofs.YtbknppciefodiaaGreat
/- THE CELL 'sum', in the pinned program and in every row, IS THE sha256 OF THE DUMP (.gsa) THAT YtbknppciefodiaaGreatProg.lean LOADS. Nothing in Lean hashes anything: it is a label: what it is worth is what the hold of that sum in a sandbox is worth. -/
noncomputable def Tryz.pinned : Pinned := { name := "ytbknppciefodiaagreat", sum := "067311c9e967948ceae453efae528c9c0cf3d6d457a9df2048c72296edf14a80", checked := Tryz.checked }
namespace Rows
def none {H : Type} : Left H := { results := [], args := [] }

/-- 'gambrellaw21.SweepBars': WHATEVER THE INPUT: true; the input reads as it did. -/
def sweepBarsSpec : ChangeSpec := { name := "sweepBars", fn := fun _ => fun
  | [d1, d2] => { results := [.lit (.bool true)], args := [d1, d2] }
  | _ => none }
def sweepBarsRow : OpenClaim := { program := "ytbknppciefodiaagreat", sum := "067311c9e967948ceae453efae528c9c0cf3d6d457a9df2048c72296edf14a80", func := "gambrel/gambrellaw21.SweepBars", spec := "sweepBars", unfollowed := true, recurses := true, plainKeys := false, apart := false }
def SweepBarsSaid : Prop := sweepBarsRow.holds Tryz.pinned (OpenSpec.ofChange sweepBarsSpec)

/-- ITS FALSE NEIGHBOUR: 'it returns false'. Refute it at one input. -/
def sweepBarsWrong : ChangeSpec := { name := "sweepBars", fn := fun _ => fun
  | [d1, d2] => { results := [.lit (.bool false)], args := [d1, d2] }
  | _ => none }
def SweepBarsWrongFalsely : Prop := sweepBarsRow.holds Tryz.pinned (OpenSpec.ofChange sweepBarsWrong)

/-- 'gambrellaw21.SweepSolids': WHATEVER THE INPUT: true; the input reads as it did. -/
def sweepSolidsSpec : ChangeSpec := { name := "sweepSolids", fn := fun _ => fun
  | [d1, d2] => { results := [.lit (.bool true)], args := [d1, d2] }
  | _ => none }
def sweepSolidsRow : OpenClaim := { program := "ytbknppciefodiaagreat", sum := "067311c9e967948ceae453efae528c9c0cf3d6d457a9df2048c72296edf14a80", func := "gambrel/gambrellaw21.SweepSolids", spec := "sweepSolids", unfollowed := true, recurses := true, plainKeys := false, apart := false }
def SweepSolidsSaid : Prop := sweepSolidsRow.holds Tryz.pinned (OpenSpec.ofChange sweepSolidsSpec)

/-- ITS FALSE NEIGHBOUR: 'it returns false'. Refute it at one input. -/
def sweepSolidsWrong : ChangeSpec := { name := "sweepSolids", fn := fun _ => fun
  | [d1, d2] => { results := [.lit (.bool false)], args := [d1, d2] }
  | _ => none }
def SweepSolidsWrongFalsely : Prop := sweepSolidsRow.holds Tryz.pinned (OpenSpec.ofChange sweepSolidsWrong)

/-- 'gambrellaw21.SweepNames': WHATEVER THE INPUT: true; the input reads as it did. -/
def sweepNamesSpec : ChangeSpec := { name := "sweepNames", fn := fun _ => fun
  | [] => { results := [.lit (.bool true)], args := [] }
  | _ => none }
def sweepNamesRow : OpenClaim := { program := "ytbknppciefodiaagreat", sum := "067311c9e967948ceae453efae528c9c0cf3d6d457a9df2048c72296edf14a80", func := "gambrel/gambrellaw21.SweepNames", spec := "sweepNames", unfollowed := true, recurses := true, plainKeys := false, apart := false }
def SweepNamesSaid : Prop := sweepNamesRow.holds Tryz.pinned (OpenSpec.ofChange sweepNamesSpec)

/-- ITS FALSE NEIGHBOUR: 'it returns false'. Refute it at one input. -/
def sweepNamesWrong : ChangeSpec := { name := "sweepNames", fn := fun _ => fun
  | [] => { results := [.lit (.bool false)], args := [] }
  | _ => none }
def SweepNamesWrongFalsely : Prop := sweepNamesRow.holds Tryz.pinned (OpenSpec.ofChange sweepNamesWrong)

/-- 'gambrellaw21.SweepBack': WHATEVER THE INPUT: true; the input reads as it did. -/
def sweepBackSpec : ChangeSpec := { name := "sweepBack", fn := fun _ => fun
  | [d1, d2, d3] => { results := [.lit (.bool true)], args := [d1, d2, d3] }
  | _ => none }
def sweepBackRow : OpenClaim := { program := "ytbknppciefodiaagreat", sum := "067311c9e967948ceae453efae528c9c0cf3d6d457a9df2048c72296edf14a80", func := "gambrel/gambrellaw21.SweepBack", spec := "sweepBack", unfollowed := true, recurses := true, plainKeys := false, apart := false }
def SweepBackSaid : Prop := sweepBackRow.holds Tryz.pinned (OpenSpec.ofChange sweepBackSpec)

/-- ITS FALSE NEIGHBOUR: 'it returns false'. Refute it at one input. -/
def sweepBackWrong : ChangeSpec := { name := "sweepBack", fn := fun _ => fun
  | [d1, d2, d3] => { results := [.lit (.bool false)], args := [d1, d2, d3] }
  | _ => none }
def SweepBackWrongFalsely : Prop := sweepBackRow.holds Tryz.pinned (OpenSpec.ofChange sweepBackWrong)

/-- 'gambrellaw21.SweepPoints': WHATEVER THE INPUT: true; the input reads as it did. -/
def sweepPointsSpec : ChangeSpec := { name := "sweepPoints", fn := fun _ => fun
  | [d1, d2, d3] => { results := [.lit (.bool true)], args := [d1, d2, d3] }
  | _ => none }
def sweepPointsRow : OpenClaim := { program := "ytbknppciefodiaagreat", sum := "067311c9e967948ceae453efae528c9c0cf3d6d457a9df2048c72296edf14a80", func := "gambrel/gambrellaw21.SweepPoints", spec := "sweepPoints", unfollowed := true, recurses := true, plainKeys := false, apart := false }
def SweepPointsSaid : Prop := sweepPointsRow.holds Tryz.pinned (OpenSpec.ofChange sweepPointsSpec)

/-- ITS FALSE NEIGHBOUR: 'it returns false'. Refute it at one input. -/
def sweepPointsWrong : ChangeSpec := { name := "sweepPoints", fn := fun _ => fun
  | [d1, d2, d3] => { results := [.lit (.bool false)], args := [d1, d2, d3] }
  | _ => none }
def SweepPointsWrongFalsely : Prop := sweepPointsRow.holds Tryz.pinned (OpenSpec.ofChange sweepPointsWrong)

/-- 'gambrellaw21.SweepClashes': WHATEVER THE INPUT: true; the input reads as it did. -/
def sweepClashesSpec : ChangeSpec := { name := "sweepClashes", fn := fun _ => fun
  | [d1, d2, d3, d4] => { results := [.lit (.bool true)], args := [d1, d2, d3, d4] }
  | _ => none }
def sweepClashesRow : OpenClaim := { program := "ytbknppciefodiaagreat", sum := "067311c9e967948ceae453efae528c9c0cf3d6d457a9df2048c72296edf14a80", func := "gambrel/gambrellaw21.SweepClashes", spec := "sweepClashes", unfollowed := true, recurses := true, plainKeys := false, apart := false }
def SweepClashesSaid : Prop := sweepClashesRow.holds Tryz.pinned (OpenSpec.ofChange sweepClashesSpec)

/-- ITS FALSE NEIGHBOUR: 'it returns false'. Refute it at one input. -/
def sweepClashesWrong : ChangeSpec := { name := "sweepClashes", fn := fun _ => fun
  | [d1, d2, d3, d4] => { results := [.lit (.bool false)], args := [d1, d2, d3, d4] }
  | _ => none }
def SweepClashesWrongFalsely : Prop := sweepClashesRow.holds Tryz.pinned (OpenSpec.ofChange sweepClashesWrong)

/-- 'gambrellaw21.SweepPlaces': WHATEVER THE INPUT: true; the input reads as it did. -/
def sweepPlacesSpec : ChangeSpec := { name := "sweepPlaces", fn := fun _ => fun
  | [d1, d2, d3] => { results := [.lit (.bool true)], args := [d1, d2, d3] }
  | _ => none }
def sweepPlacesRow : OpenClaim := { program := "ytbknppciefodiaagreat", sum := "067311c9e967948ceae453efae528c9c0cf3d6d457a9df2048c72296edf14a80", func := "gambrel/gambrellaw21.SweepPlaces", spec := "sweepPlaces", unfollowed := true, recurses := true, plainKeys := false, apart := false }
def SweepPlacesSaid : Prop := sweepPlacesRow.holds Tryz.pinned (OpenSpec.ofChange sweepPlacesSpec)

/-- ITS FALSE NEIGHBOUR: 'it returns false'. Refute it at one input. -/
def sweepPlacesWrong : ChangeSpec := { name := "sweepPlaces", fn := fun _ => fun
  | [d1, d2, d3] => { results := [.lit (.bool false)], args := [d1, d2, d3] }
  | _ => none }
def SweepPlacesWrongFalsely : Prop := sweepPlacesRow.holds Tryz.pinned (OpenSpec.ofChange sweepPlacesWrong)

/- THE SECOND FORM. 'bulk': how many values and letters a reading holds, each counted each time it is reached (what is shared counts as often as it is met; a slice's spare places count too). A statement '..UptoSaid' is the law's where the arguments, and the package variables that the reading takes, are together of bulk at most 1048576: NARROWER than '..Said'. Prove '..Said' where nothing that the law and all that it calls make is longer than what came in: it says more and counts as full. Else prove '..UptoSaid'. A law counts once. -/
mutual
def uptoBulk {H : Type} : DataW H → Nat
  | .lit (.string bytes) => bytes.length + 1
  | .lit _ => 1
  | .nil => 1
  | .ptr d => uptoBulk d + 1
  | .slice elems spare => uptoBulkAll elems + uptoBulkAll spare + 1
  | .agg parts => uptoBulkAll parts + 1
  | .iface _ d => uptoBulk d + 1
  | .map entries => uptoBulkEntries entries + 1
  | .held _ => 1
def uptoBulkAll {H : Type} : List (DataW H) → Nat
  | [] => 0
  | d :: r => uptoBulk d + uptoBulkAll r
def uptoBulkEntries {H : Type} : List (Lit × DataW H) → Nat
  | [] => 0
  | x :: r => uptoBulkEntry x + uptoBulkEntries r
def uptoBulkEntry {H : Type} : Lit × DataW H → Nat
  | (.string bytes, d) => bytes.length + uptoBulk d + 1
  | (_, d) => uptoBulk d + 1
 end
def uptoSmall : (H : Type) → List (DataW H) → Bool := fun _ ds => decide (uptoBulkAll ds ≤ 1048576)
def OpenSpec.upto (s : _root_.Go.ChangeSpec) : _root_.Go.OpenSpec := { _root_.Go.OpenSpec.ofChange s with cond := some uptoSmall }

/-- 'gambrellaw21.SweepBars', WHERE WHAT IT READS IS OF BULK AT MOST 1048576: true; the input reads as it did. -/
def sweepBarsUptoRow : OpenClaim := { program := "ytbknppciefodiaagreat", sum := "067311c9e967948ceae453efae528c9c0cf3d6d457a9df2048c72296edf14a80", func := "gambrel/gambrellaw21.SweepBars", spec := "sweepBars", unfollowed := true, recurses := true, plainKeys := false, apart := false, narrowed := true }
def SweepBarsUptoSaid : Prop := sweepBarsUptoRow.holds Tryz.pinned (OpenSpec.upto sweepBarsSpec)

/-- 'gambrellaw21.SweepSolids', WHERE WHAT IT READS IS OF BULK AT MOST 1048576: true; the input reads as it did. -/
def sweepSolidsUptoRow : OpenClaim := { program := "ytbknppciefodiaagreat", sum := "067311c9e967948ceae453efae528c9c0cf3d6d457a9df2048c72296edf14a80", func := "gambrel/gambrellaw21.SweepSolids", spec := "sweepSolids", unfollowed := true, recurses := true, plainKeys := false, apart := false, narrowed := true }
def SweepSolidsUptoSaid : Prop := sweepSolidsUptoRow.holds Tryz.pinned (OpenSpec.upto sweepSolidsSpec)

/-- 'gambrellaw21.SweepNames', WHERE WHAT IT READS IS OF BULK AT MOST 1048576: true; the input reads as it did. -/
def sweepNamesUptoRow : OpenClaim := { program := "ytbknppciefodiaagreat", sum := "067311c9e967948ceae453efae528c9c0cf3d6d457a9df2048c72296edf14a80", func := "gambrel/gambrellaw21.SweepNames", spec := "sweepNames", unfollowed := true, recurses := true, plainKeys := false, apart := false, narrowed := true }
def SweepNamesUptoSaid : Prop := sweepNamesUptoRow.holds Tryz.pinned (OpenSpec.upto sweepNamesSpec)

/-- 'gambrellaw21.SweepBack', WHERE WHAT IT READS IS OF BULK AT MOST 1048576: true; the input reads as it did. -/
def sweepBackUptoRow : OpenClaim := { program := "ytbknppciefodiaagreat", sum := "067311c9e967948ceae453efae528c9c0cf3d6d457a9df2048c72296edf14a80", func := "gambrel/gambrellaw21.SweepBack", spec := "sweepBack", unfollowed := true, recurses := true, plainKeys := false, apart := false, narrowed := true }
def SweepBackUptoSaid : Prop := sweepBackUptoRow.holds Tryz.pinned (OpenSpec.upto sweepBackSpec)

/-- 'gambrellaw21.SweepPoints', WHERE WHAT IT READS IS OF BULK AT MOST 1048576: true; the input reads as it did. -/
def sweepPointsUptoRow : OpenClaim := { program := "ytbknppciefodiaagreat", sum := "067311c9e967948ceae453efae528c9c0cf3d6d457a9df2048c72296edf14a80", func := "gambrel/gambrellaw21.SweepPoints", spec := "sweepPoints", unfollowed := true, recurses := true, plainKeys := false, apart := false, narrowed := true }
def SweepPointsUptoSaid : Prop := sweepPointsUptoRow.holds Tryz.pinned (OpenSpec.upto sweepPointsSpec)

/-- 'gambrellaw21.SweepClashes', WHERE WHAT IT READS IS OF BULK AT MOST 1048576: true; the input reads as it did. -/
def sweepClashesUptoRow : OpenClaim := { program := "ytbknppciefodiaagreat", sum := "067311c9e967948ceae453efae528c9c0cf3d6d457a9df2048c72296edf14a80", func := "gambrel/gambrellaw21.SweepClashes", spec := "sweepClashes", unfollowed := true, recurses := true, plainKeys := false, apart := false, narrowed := true }
def SweepClashesUptoSaid : Prop := sweepClashesUptoRow.holds Tryz.pinned (OpenSpec.upto sweepClashesSpec)

/-- 'gambrellaw21.SweepPlaces', WHERE WHAT IT READS IS OF BULK AT MOST 1048576: true; the input reads as it did. -/
def sweepPlacesUptoRow : OpenClaim := { program := "ytbknppciefodiaagreat", sum := "067311c9e967948ceae453efae528c9c0cf3d6d457a9df2048c72296edf14a80", func := "gambrel/gambrellaw21.SweepPlaces", spec := "sweepPlaces", unfollowed := true, recurses := true, plainKeys := false, apart := false, narrowed := true }
def SweepPlacesUptoSaid : Prop := sweepPlacesUptoRow.holds Tryz.pinned (OpenSpec.upto sweepPlacesSpec)

end Rows
end Go.Proofs.YtbknppciefodiaaGreat
