/-
  No cell of these rows narrows 'for every input' (looked for: loops, veiled, ifaces, maps, wideKeys, modest, calm, conditions, laid).
  DERIVED. THE GIVEN ROWS OF THIS SEAT. 8 by the template 'for every input the law returns true; each argument reads behind the call as it read before'; 0 by the template 'total and deterministic' (their statements: YtbfdjpffambpfaaTotals.lean).
  GIVEN WITH THE SEED: the statements are not yours to turn. If you find one false, say at which input.
  Laid BY PROGRAM, IN A SANDBOX (cutbox-rows.mjs): the forced cells as the released guide's own fill.sh prints them over the translation 9cbfe0cf1cf9bbe9… (all of the seat's roots in one cut). By AI agents, Wed Nov 11 2026. No macro, syntax, notation, axiom, sorry.
-/
import Derived.Test.YtbfdjpffambpfaaChecked
import GoSem.Claim
import GoSem.ClaimJoined
import GoSem.ClaimMapViews
import Derived.JoinedTies
import Derived.KernelRfl
namespace Go.Proofs.Ytbfdjpffambpfaa
/- THE CELL 'sum', in the pinned program and in every row, IS THE sha256 OF THE DUMP (.gsa) THAT YtbfdjpffambpfaaProg.lean LOADS. Nothing in Lean hashes anything: it is a label: what it is worth is what the hold of that sum in a sandbox is worth. -/
noncomputable def Try.pinned : Pinned := { name := "ytbfdjpffambpfaa", sum := "9cbfe0cf1cf9bbe92f6781acb40d6f54993a4c232830c470c3c42cb00f18e69e", checked := Try.checked }
namespace Rows
def none {H : Type} : Left H := { results := [], args := [] }

/-- 'gambrellaw23.SplitSizes': WHATEVER THE INPUT: true; the input reads as it did. -/
def splitSizesSpec : ChangeSpec := { name := "splitSizes", fn := fun _ => fun
  | [d1, d2] => { results := [.lit (.bool true)], args := [d1, d2] }
  | _ => none }
def splitSizesRow : OpenClaim := { program := "ytbfdjpffambpfaa", sum := "9cbfe0cf1cf9bbe92f6781acb40d6f54993a4c232830c470c3c42cb00f18e69e", func := "gambrel/gambrellaw23.SplitSizes", spec := "splitSizes", unfollowed := true, recurses := true, apart := false }
def SplitSizesSaid : Prop := splitSizesRow.holds Try.pinned (OpenSpec.ofChange splitSizesSpec)

/-- ITS FALSE NEIGHBOUR: 'it returns false'. Refute it at one input. -/
def splitSizesWrong : ChangeSpec := { name := "splitSizes", fn := fun _ => fun
  | [d1, d2] => { results := [.lit (.bool false)], args := [d1, d2] }
  | _ => none }
def SplitSizesWrongFalsely : Prop := splitSizesRow.holds Try.pinned (OpenSpec.ofChange splitSizesWrong)

/-- 'gambrellaw23.SplitCuts': WHATEVER THE INPUT: true; the input reads as it did. -/
def splitCutsSpec : ChangeSpec := { name := "splitCuts", fn := fun _ => fun
  | [d1, d2, d3, d4] => { results := [.lit (.bool true)], args := [d1, d2, d3, d4] }
  | _ => none }
def splitCutsRow : OpenClaim := { program := "ytbfdjpffambpfaa", sum := "9cbfe0cf1cf9bbe92f6781acb40d6f54993a4c232830c470c3c42cb00f18e69e", func := "gambrel/gambrellaw23.SplitCuts", spec := "splitCuts", unfollowed := true, recurses := true, apart := false }
def SplitCutsSaid : Prop := splitCutsRow.holds Try.pinned (OpenSpec.ofChange splitCutsSpec)

/-- ITS FALSE NEIGHBOUR: 'it returns false'. Refute it at one input. -/
def splitCutsWrong : ChangeSpec := { name := "splitCuts", fn := fun _ => fun
  | [d1, d2, d3, d4] => { results := [.lit (.bool false)], args := [d1, d2, d3, d4] }
  | _ => none }
def SplitCutsWrongFalsely : Prop := splitCutsRow.holds Try.pinned (OpenSpec.ofChange splitCutsWrong)

/-- 'gambrellaw23.SplitScopes': WHATEVER THE INPUT: true; the input reads as it did. -/
def splitScopesSpec : ChangeSpec := { name := "splitScopes", fn := fun _ => fun
  | [d1, d2, d3] => { results := [.lit (.bool true)], args := [d1, d2, d3] }
  | _ => none }
def splitScopesRow : OpenClaim := { program := "ytbfdjpffambpfaa", sum := "9cbfe0cf1cf9bbe92f6781acb40d6f54993a4c232830c470c3c42cb00f18e69e", func := "gambrel/gambrellaw23.SplitScopes", spec := "splitScopes", unfollowed := true, recurses := true, apart := false }
def SplitScopesSaid : Prop := splitScopesRow.holds Try.pinned (OpenSpec.ofChange splitScopesSpec)

/-- ITS FALSE NEIGHBOUR: 'it returns false'. Refute it at one input. -/
def splitScopesWrong : ChangeSpec := { name := "splitScopes", fn := fun _ => fun
  | [d1, d2, d3] => { results := [.lit (.bool false)], args := [d1, d2, d3] }
  | _ => none }
def SplitScopesWrongFalsely : Prop := splitScopesRow.holds Try.pinned (OpenSpec.ofChange splitScopesWrong)

/-- 'gambrellaw23.SplitWhole': WHATEVER THE INPUT: true; the input reads as it did. -/
def splitWholeSpec : ChangeSpec := { name := "splitWhole", fn := fun _ => fun
  | [d1, d2] => { results := [.lit (.bool true)], args := [d1, d2] }
  | _ => none }
def splitWholeRow : OpenClaim := { program := "ytbfdjpffambpfaa", sum := "9cbfe0cf1cf9bbe92f6781acb40d6f54993a4c232830c470c3c42cb00f18e69e", func := "gambrel/gambrellaw23.SplitWhole", spec := "splitWhole", unfollowed := true, recurses := true, apart := false }
def SplitWholeSaid : Prop := splitWholeRow.holds Try.pinned (OpenSpec.ofChange splitWholeSpec)

/-- ITS FALSE NEIGHBOUR: 'it returns false'. Refute it at one input. -/
def splitWholeWrong : ChangeSpec := { name := "splitWhole", fn := fun _ => fun
  | [d1, d2] => { results := [.lit (.bool false)], args := [d1, d2] }
  | _ => none }
def SplitWholeWrongFalsely : Prop := splitWholeRow.holds Try.pinned (OpenSpec.ofChange splitWholeWrong)

/-- 'gambrellaw23.SplitFair': WHATEVER THE INPUT: true; the input reads as it did. -/
def splitFairSpec : ChangeSpec := { name := "splitFair", fn := fun _ => fun
  | [d1, d2] => { results := [.lit (.bool true)], args := [d1, d2] }
  | _ => none }
def splitFairRow : OpenClaim := { program := "ytbfdjpffambpfaa", sum := "9cbfe0cf1cf9bbe92f6781acb40d6f54993a4c232830c470c3c42cb00f18e69e", func := "gambrel/gambrellaw23.SplitFair", spec := "splitFair", unfollowed := true, recurses := true, apart := false }
def SplitFairSaid : Prop := splitFairRow.holds Try.pinned (OpenSpec.ofChange splitFairSpec)

/-- ITS FALSE NEIGHBOUR: 'it returns false'. Refute it at one input. -/
def splitFairWrong : ChangeSpec := { name := "splitFair", fn := fun _ => fun
  | [d1, d2] => { results := [.lit (.bool false)], args := [d1, d2] }
  | _ => none }
def SplitFairWrongFalsely : Prop := splitFairRow.holds Try.pinned (OpenSpec.ofChange splitFairWrong)

/-- 'gambrellaw23.SplitRepeats': WHATEVER THE INPUT: true; the input reads as it did. -/
def splitRepeatsSpec : ChangeSpec := { name := "splitRepeats", fn := fun _ => fun
  | [d1, d2] => { results := [.lit (.bool true)], args := [d1, d2] }
  | _ => none }
def splitRepeatsRow : OpenClaim := { program := "ytbfdjpffambpfaa", sum := "9cbfe0cf1cf9bbe92f6781acb40d6f54993a4c232830c470c3c42cb00f18e69e", func := "gambrel/gambrellaw23.SplitRepeats", spec := "splitRepeats", unfollowed := true, recurses := true, apart := false }
def SplitRepeatsSaid : Prop := splitRepeatsRow.holds Try.pinned (OpenSpec.ofChange splitRepeatsSpec)

/-- ITS FALSE NEIGHBOUR: 'it returns false'. Refute it at one input. -/
def splitRepeatsWrong : ChangeSpec := { name := "splitRepeats", fn := fun _ => fun
  | [d1, d2] => { results := [.lit (.bool false)], args := [d1, d2] }
  | _ => none }
def SplitRepeatsWrongFalsely : Prop := splitRepeatsRow.holds Try.pinned (OpenSpec.ofChange splitRepeatsWrong)

/-- 'gambrellaw23.SplitPoints': WHATEVER THE INPUT: true; the input reads as it did. -/
def splitPointsSpec : ChangeSpec := { name := "splitPoints", fn := fun _ => fun
  | [d1, d2] => { results := [.lit (.bool true)], args := [d1, d2] }
  | _ => none }
def splitPointsRow : OpenClaim := { program := "ytbfdjpffambpfaa", sum := "9cbfe0cf1cf9bbe92f6781acb40d6f54993a4c232830c470c3c42cb00f18e69e", func := "gambrel/gambrellaw23.SplitPoints", spec := "splitPoints", unfollowed := true, recurses := true, apart := false }
def SplitPointsSaid : Prop := splitPointsRow.holds Try.pinned (OpenSpec.ofChange splitPointsSpec)

/-- ITS FALSE NEIGHBOUR: 'it returns false'. Refute it at one input. -/
def splitPointsWrong : ChangeSpec := { name := "splitPoints", fn := fun _ => fun
  | [d1, d2] => { results := [.lit (.bool false)], args := [d1, d2] }
  | _ => none }
def SplitPointsWrongFalsely : Prop := splitPointsRow.holds Try.pinned (OpenSpec.ofChange splitPointsWrong)

/-- 'gambrellaw23.SplitNames': WHATEVER THE INPUT: true; the input reads as it did. -/
def splitNamesSpec : ChangeSpec := { name := "splitNames", fn := fun _ => fun
  | [] => { results := [.lit (.bool true)], args := [] }
  | _ => none }
def splitNamesRow : OpenClaim := { program := "ytbfdjpffambpfaa", sum := "9cbfe0cf1cf9bbe92f6781acb40d6f54993a4c232830c470c3c42cb00f18e69e", func := "gambrel/gambrellaw23.SplitNames", spec := "splitNames", unfollowed := true, recurses := true, apart := false }
def SplitNamesSaid : Prop := splitNamesRow.holds Try.pinned (OpenSpec.ofChange splitNamesSpec)

/-- ITS FALSE NEIGHBOUR: 'it returns false'. Refute it at one input. -/
def splitNamesWrong : ChangeSpec := { name := "splitNames", fn := fun _ => fun
  | [] => { results := [.lit (.bool false)], args := [] }
  | _ => none }
def SplitNamesWrongFalsely : Prop := splitNamesRow.holds Try.pinned (OpenSpec.ofChange splitNamesWrong)

/- THE SECOND FORM. 'bulk': how many values and letters a reading holds, each counted each time it is reached (what is shared counts as often as it is met; a slice's spare places count too). A statement '..UptoSaid' is the law's where the arguments, and the package variables that the reading takes, are together of bulk at most 1048576: NARROWER than '..Said'. Prove '..Said' where nothing that the law and all that it calls make is longer than what came in: it says more and counts as full. Else prove '..UptoSaid'. A law counts once. -/
mutual
def uptoBulk {H : Type} : DataW H → Nat
  | .lit (.string bytes) => bytes.length + 1
  | .lit _ => 1
  | .nil => 1
  | .ptr d => uptoBulk d + 1
  | .slice elems spare => uptoBulkAll elems + uptoBulkAll spare + 1
  | .agg parts => uptoBulkAll parts + 1
  | .iface _ d => uptoBulk d + 1
  | .map entries => uptoBulkEntries entries + 1
  | .held _ => 1
def uptoBulkAll {H : Type} : List (DataW H) → Nat
  | [] => 0
  | d :: r => uptoBulk d + uptoBulkAll r
def uptoBulkEntries {H : Type} : List (Lit × DataW H) → Nat
  | [] => 0
  | x :: r => uptoBulkEntry x + uptoBulkEntries r
def uptoBulkEntry {H : Type} : Lit × DataW H → Nat
  | (.string bytes, d) => bytes.length + uptoBulk d + 1
  | (_, d) => uptoBulk d + 1
 end
def uptoSmall : (H : Type) → List (DataW H) → Bool := fun _ ds => decide (uptoBulkAll ds ≤ 1048576)
def OpenSpec.upto (s : _root_.Go.ChangeSpec) : _root_.Go.OpenSpec := { _root_.Go.OpenSpec.ofChange s with cond := some uptoSmall }

/-- 'gambrellaw23.SplitSizes', WHERE WHAT IT READS IS OF BULK AT MOST 1048576: true; the input reads as it did. -/
def splitSizesUptoRow : OpenClaim := { program := "ytbfdjpffambpfaa", sum := "9cbfe0cf1cf9bbe92f6781acb40d6f54993a4c232830c470c3c42cb00f18e69e", func := "gambrel/gambrellaw23.SplitSizes", spec := "splitSizes", unfollowed := true, recurses := true, apart := false, narrowed := true }
def SplitSizesUptoSaid : Prop := splitSizesUptoRow.holds Try.pinned (OpenSpec.upto splitSizesSpec)

/-- 'gambrellaw23.SplitCuts', WHERE WHAT IT READS IS OF BULK AT MOST 1048576: true; the input reads as it did. -/
def splitCutsUptoRow : OpenClaim := { program := "ytbfdjpffambpfaa", sum := "9cbfe0cf1cf9bbe92f6781acb40d6f54993a4c232830c470c3c42cb00f18e69e", func := "gambrel/gambrellaw23.SplitCuts", spec := "splitCuts", unfollowed := true, recurses := true, apart := false, narrowed := true }
def SplitCutsUptoSaid : Prop := splitCutsUptoRow.holds Try.pinned (OpenSpec.upto splitCutsSpec)

/-- 'gambrellaw23.SplitScopes', WHERE WHAT IT READS IS OF BULK AT MOST 1048576: true; the input reads as it did. -/
def splitScopesUptoRow : OpenClaim := { program := "ytbfdjpffambpfaa", sum := "9cbfe0cf1cf9bbe92f6781acb40d6f54993a4c232830c470c3c42cb00f18e69e", func := "gambrel/gambrellaw23.SplitScopes", spec := "splitScopes", unfollowed := true, recurses := true, apart := false, narrowed := true }
def SplitScopesUptoSaid : Prop := splitScopesUptoRow.holds Try.pinned (OpenSpec.upto splitScopesSpec)

/-- 'gambrellaw23.SplitWhole', WHERE WHAT IT READS IS OF BULK AT MOST 1048576: true; the input reads as it did. -/
def splitWholeUptoRow : OpenClaim := { program := "ytbfdjpffambpfaa", sum := "9cbfe0cf1cf9bbe92f6781acb40d6f54993a4c232830c470c3c42cb00f18e69e", func := "gambrel/gambrellaw23.SplitWhole", spec := "splitWhole", unfollowed := true, recurses := true, apart := false, narrowed := true }
def SplitWholeUptoSaid : Prop := splitWholeUptoRow.holds Try.pinned (OpenSpec.upto splitWholeSpec)

/-- 'gambrellaw23.SplitFair', WHERE WHAT IT READS IS OF BULK AT MOST 1048576: true; the input reads as it did. -/
def splitFairUptoRow : OpenClaim := { program := "ytbfdjpffambpfaa", sum := "9cbfe0cf1cf9bbe92f6781acb40d6f54993a4c232830c470c3c42cb00f18e69e", func := "gambrel/gambrellaw23.SplitFair", spec := "splitFair", unfollowed := true, recurses := true, apart := false, narrowed := true }
def SplitFairUptoSaid : Prop := splitFairUptoRow.holds Try.pinned (OpenSpec.upto splitFairSpec)

/-- 'gambrellaw23.SplitRepeats', WHERE WHAT IT READS IS OF BULK AT MOST 1048576: true; the input reads as it did. -/
def splitRepeatsUptoRow : OpenClaim := { program := "ytbfdjpffambpfaa", sum := "9cbfe0cf1cf9bbe92f6781acb40d6f54993a4c232830c470c3c42cb00f18e69e", func := "gambrel/gambrellaw23.SplitRepeats", spec := "splitRepeats", unfollowed := true, recurses := true, apart := false, narrowed := true }
def SplitRepeatsUptoSaid : Prop := splitRepeatsUptoRow.holds Try.pinned (OpenSpec.upto splitRepeatsSpec)

/-- 'gambrellaw23.SplitPoints', WHERE WHAT IT READS IS OF BULK AT MOST 1048576: true; the input reads as it did. -/
def splitPointsUptoRow : OpenClaim := { program := "ytbfdjpffambpfaa", sum := "9cbfe0cf1cf9bbe92f6781acb40d6f54993a4c232830c470c3c42cb00f18e69e", func := "gambrel/gambrellaw23.SplitPoints", spec := "splitPoints", unfollowed := true, recurses := true, apart := false, narrowed := true }
def SplitPointsUptoSaid : Prop := splitPointsUptoRow.holds Try.pinned (OpenSpec.upto splitPointsSpec)

/-- 'gambrellaw23.SplitNames', WHERE WHAT IT READS IS OF BULK AT MOST 1048576: true; the input reads as it did. -/
def splitNamesUptoRow : OpenClaim := { program := "ytbfdjpffambpfaa", sum := "9cbfe0cf1cf9bbe92f6781acb40d6f54993a4c232830c470c3c42cb00f18e69e", func := "gambrel/gambrellaw23.SplitNames", spec := "splitNames", unfollowed := true, recurses := true, apart := false, narrowed := true }
def SplitNamesUptoSaid : Prop := splitNamesUptoRow.holds Try.pinned (OpenSpec.upto splitNamesSpec)

end Rows
end Go.Proofs.Ytbfdjpffambpfaa
