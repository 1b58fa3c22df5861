/-
  No cell of these rows narrows 'for every input' (looked for: loops, veiled, ifaces, maps, wideKeys, modest, calm, conditions, laid).
  DERIVED. THE GIVEN ROWS OF THIS SEAT. 7 by the template 'for every input the law returns true; each argument reads behind the call as it read before'; 0 by the template 'total and deterministic' (their statements: YtgkialgkmjnfbaaGreatTotals.lean).
  GIVEN WITH THE SEED: the statements are not yours to turn. If you find one false, say at which input.
  Laid BY PROGRAM, IN A SANDBOX (cutbox-rows.mjs): the forced cells as the released guide's own fill.sh prints them over the translation af3b05e844721566… (all of the seat's roots in one cut). By AI agents, Wed Nov 11 2026. No macro, syntax, notation, axiom, sorry.
-/
import Derived.Test.YtgkialgkmjnfbaaGreatChecked
import GoSem.Claim
import GoSem.ClaimJoined
import GoSem.ClaimMapViews
import Derived.JoinedTies
import Derived.KernelRfl
namespace Go.Proofs.YtgkialgkmjnfbaaGreat
/- THE CELL 'sum', in the pinned program and in every row, IS THE sha256 OF THE DUMP (.gsa) THAT YtgkialgkmjnfbaaGreatProg.lean LOADS. Nothing in Lean hashes anything: it is a label: what it is worth is what the hold of that sum in a sandbox is worth. -/
noncomputable def Tryz.pinned : Pinned := { name := "ytgkialgkmjnfbaagreat", sum := "af3b05e844721566ab94d67ebd1dc348f28839caa274a684addcc75ca768f2ed", checked := Tryz.checked }
namespace Rows
def none {H : Type} : Left H := { results := [], args := [] }

/-- 'gambrellaw34.StreetAsks': WHATEVER THE INPUT: true; the input reads as it did. -/
def streetAsksSpec : ChangeSpec := { name := "streetAsks", fn := fun _ => fun
  | [d1, d2, d3, d4] => { results := [.lit (.bool true)], args := [d1, d2, d3, d4] }
  | _ => none }
def streetAsksRow : OpenClaim := { program := "ytgkialgkmjnfbaagreat", sum := "af3b05e844721566ab94d67ebd1dc348f28839caa274a684addcc75ca768f2ed", func := "gambrel/gambrellaw34.StreetAsks", spec := "streetAsks", unfollowed := true, recurses := true, plainKeys := false, apart := false }
def StreetAsksSaid : Prop := streetAsksRow.holds Tryz.pinned (OpenSpec.ofChange streetAsksSpec)

/-- ITS FALSE NEIGHBOUR: 'it returns false'. Refute it at one input. -/
def streetAsksWrong : ChangeSpec := { name := "streetAsks", fn := fun _ => fun
  | [d1, d2, d3, d4] => { results := [.lit (.bool false)], args := [d1, d2, d3, d4] }
  | _ => none }
def StreetAsksWrongFalsely : Prop := streetAsksRow.holds Tryz.pinned (OpenSpec.ofChange streetAsksWrong)

/-- 'gambrellaw34.StreetGrows': WHATEVER THE INPUT: true; the input reads as it did. -/
def streetGrowsSpec : ChangeSpec := { name := "streetGrows", fn := fun _ => fun
  | [d1, d2] => { results := [.lit (.bool true)], args := [d1, d2] }
  | _ => none }
def streetGrowsRow : OpenClaim := { program := "ytgkialgkmjnfbaagreat", sum := "af3b05e844721566ab94d67ebd1dc348f28839caa274a684addcc75ca768f2ed", func := "gambrel/gambrellaw34.StreetGrows", spec := "streetGrows", unfollowed := true, recurses := true, plainKeys := false, apart := false }
def StreetGrowsSaid : Prop := streetGrowsRow.holds Tryz.pinned (OpenSpec.ofChange streetGrowsSpec)

/-- ITS FALSE NEIGHBOUR: 'it returns false'. Refute it at one input. -/
def streetGrowsWrong : ChangeSpec := { name := "streetGrows", fn := fun _ => fun
  | [d1, d2] => { results := [.lit (.bool false)], args := [d1, d2] }
  | _ => none }
def StreetGrowsWrongFalsely : Prop := streetGrowsRow.holds Tryz.pinned (OpenSpec.ofChange streetGrowsWrong)

/-- 'gambrellaw34.StreetBack': WHATEVER THE INPUT: true; the input reads as it did. -/
def streetBackSpec : ChangeSpec := { name := "streetBack", fn := fun _ => fun
  | [d1, d2] => { results := [.lit (.bool true)], args := [d1, d2] }
  | _ => none }
def streetBackRow : OpenClaim := { program := "ytgkialgkmjnfbaagreat", sum := "af3b05e844721566ab94d67ebd1dc348f28839caa274a684addcc75ca768f2ed", func := "gambrel/gambrellaw34.StreetBack", spec := "streetBack", unfollowed := true, recurses := true, plainKeys := false, apart := false }
def StreetBackSaid : Prop := streetBackRow.holds Tryz.pinned (OpenSpec.ofChange streetBackSpec)

/-- ITS FALSE NEIGHBOUR: 'it returns false'. Refute it at one input. -/
def streetBackWrong : ChangeSpec := { name := "streetBack", fn := fun _ => fun
  | [d1, d2] => { results := [.lit (.bool false)], args := [d1, d2] }
  | _ => none }
def StreetBackWrongFalsely : Prop := streetBackRow.holds Tryz.pinned (OpenSpec.ofChange streetBackWrong)

/-- 'gambrellaw34.StreetPlanar': WHATEVER THE INPUT: true; the input reads as it did. -/
def streetPlanarSpec : ChangeSpec := { name := "streetPlanar", fn := fun _ => fun
  | [d] => { results := [.lit (.bool true)], args := [d] }
  | _ => none }
def streetPlanarRow : OpenClaim := { program := "ytgkialgkmjnfbaagreat", sum := "af3b05e844721566ab94d67ebd1dc348f28839caa274a684addcc75ca768f2ed", func := "gambrel/gambrellaw34.StreetPlanar", spec := "streetPlanar", unfollowed := true, recurses := true, plainKeys := false, apart := false }
def StreetPlanarSaid : Prop := streetPlanarRow.holds Tryz.pinned (OpenSpec.ofChange streetPlanarSpec)

/-- ITS FALSE NEIGHBOUR: 'it returns false'. Refute it at one input. -/
def streetPlanarWrong : ChangeSpec := { name := "streetPlanar", fn := fun _ => fun
  | [d] => { results := [.lit (.bool false)], args := [d] }
  | _ => none }
def StreetPlanarWrongFalsely : Prop := streetPlanarRow.holds Tryz.pinned (OpenSpec.ofChange streetPlanarWrong)

/-- 'gambrellaw34.StreetNames': WHATEVER THE INPUT: true; the input reads as it did. -/
def streetNamesSpec : ChangeSpec := { name := "streetNames", fn := fun _ => fun
  | [] => { results := [.lit (.bool true)], args := [] }
  | _ => none }
def streetNamesRow : OpenClaim := { program := "ytgkialgkmjnfbaagreat", sum := "af3b05e844721566ab94d67ebd1dc348f28839caa274a684addcc75ca768f2ed", func := "gambrel/gambrellaw34.StreetNames", spec := "streetNames", unfollowed := true, recurses := true, plainKeys := false, apart := false }
def StreetNamesSaid : Prop := streetNamesRow.holds Tryz.pinned (OpenSpec.ofChange streetNamesSpec)

/-- ITS FALSE NEIGHBOUR: 'it returns false'. Refute it at one input. -/
def streetNamesWrong : ChangeSpec := { name := "streetNames", fn := fun _ => fun
  | [] => { results := [.lit (.bool false)], args := [] }
  | _ => none }
def StreetNamesWrongFalsely : Prop := streetNamesRow.holds Tryz.pinned (OpenSpec.ofChange streetNamesWrong)

/-- 'gambrellaw34.StreetHas': WHATEVER THE INPUT: true; the input reads as it did. -/
def streetHasSpec : ChangeSpec := { name := "streetHas", fn := fun _ => fun
  | [d1, d2] => { results := [.lit (.bool true)], args := [d1, d2] }
  | _ => none }
def streetHasRow : OpenClaim := { program := "ytgkialgkmjnfbaagreat", sum := "af3b05e844721566ab94d67ebd1dc348f28839caa274a684addcc75ca768f2ed", func := "gambrel/gambrellaw34.StreetHas", spec := "streetHas", unfollowed := true, recurses := true, plainKeys := false, apart := false }
def StreetHasSaid : Prop := streetHasRow.holds Tryz.pinned (OpenSpec.ofChange streetHasSpec)

/-- ITS FALSE NEIGHBOUR: 'it returns false'. Refute it at one input. -/
def streetHasWrong : ChangeSpec := { name := "streetHas", fn := fun _ => fun
  | [d1, d2] => { results := [.lit (.bool false)], args := [d1, d2] }
  | _ => none }
def StreetHasWrongFalsely : Prop := streetHasRow.holds Tryz.pinned (OpenSpec.ofChange streetHasWrong)

/-- 'gambrellaw34.StreetCuts': WHATEVER THE INPUT: true; the input reads as it did. -/
def streetCutsSpec : ChangeSpec := { name := "streetCuts", fn := fun _ => fun
  | [d1, d2, d3, d4] => { results := [.lit (.bool true)], args := [d1, d2, d3, d4] }
  | _ => none }
def streetCutsRow : OpenClaim := { program := "ytgkialgkmjnfbaagreat", sum := "af3b05e844721566ab94d67ebd1dc348f28839caa274a684addcc75ca768f2ed", func := "gambrel/gambrellaw34.StreetCuts", spec := "streetCuts", unfollowed := true, recurses := true, plainKeys := false, apart := false }
def StreetCutsSaid : Prop := streetCutsRow.holds Tryz.pinned (OpenSpec.ofChange streetCutsSpec)

/-- ITS FALSE NEIGHBOUR: 'it returns false'. Refute it at one input. -/
def streetCutsWrong : ChangeSpec := { name := "streetCuts", fn := fun _ => fun
  | [d1, d2, d3, d4] => { results := [.lit (.bool false)], args := [d1, d2, d3, d4] }
  | _ => none }
def StreetCutsWrongFalsely : Prop := streetCutsRow.holds Tryz.pinned (OpenSpec.ofChange streetCutsWrong)

/- THE SECOND FORM. 'bulk': how many values and letters a reading holds, each counted each time it is reached (what is shared counts as often as it is met; a slice's spare places count too). A statement '..UptoSaid' is the law's where the arguments, and the package variables that the reading takes, are together of bulk at most 1048576: NARROWER than '..Said'. Prove '..Said' where nothing that the law and all that it calls make is longer than what came in: it says more and counts as full. Else prove '..UptoSaid'. A law counts once. -/
mutual
def uptoBulk {H : Type} : DataW H → Nat
  | .lit (.string bytes) => bytes.length + 1
  | .lit _ => 1
  | .nil => 1
  | .ptr d => uptoBulk d + 1
  | .slice elems spare => uptoBulkAll elems + uptoBulkAll spare + 1
  | .agg parts => uptoBulkAll parts + 1
  | .iface _ d => uptoBulk d + 1
  | .map entries => uptoBulkEntries entries + 1
  | .held _ => 1
def uptoBulkAll {H : Type} : List (DataW H) → Nat
  | [] => 0
  | d :: r => uptoBulk d + uptoBulkAll r
def uptoBulkEntries {H : Type} : List (Lit × DataW H) → Nat
  | [] => 0
  | x :: r => uptoBulkEntry x + uptoBulkEntries r
def uptoBulkEntry {H : Type} : Lit × DataW H → Nat
  | (.string bytes, d) => bytes.length + uptoBulk d + 1
  | (_, d) => uptoBulk d + 1
 end
def uptoSmall : (H : Type) → List (DataW H) → Bool := fun _ ds => decide (uptoBulkAll ds ≤ 1048576)
def OpenSpec.upto (s : _root_.Go.ChangeSpec) : _root_.Go.OpenSpec := { _root_.Go.OpenSpec.ofChange s with cond := some uptoSmall }

/-- 'gambrellaw34.StreetAsks', WHERE WHAT IT READS IS OF BULK AT MOST 1048576: true; the input reads as it did. -/
def streetAsksUptoRow : OpenClaim := { program := "ytgkialgkmjnfbaagreat", sum := "af3b05e844721566ab94d67ebd1dc348f28839caa274a684addcc75ca768f2ed", func := "gambrel/gambrellaw34.StreetAsks", spec := "streetAsks", unfollowed := true, recurses := true, plainKeys := false, apart := false, narrowed := true }
def StreetAsksUptoSaid : Prop := streetAsksUptoRow.holds Tryz.pinned (OpenSpec.upto streetAsksSpec)

/-- 'gambrellaw34.StreetGrows', WHERE WHAT IT READS IS OF BULK AT MOST 1048576: true; the input reads as it did. -/
def streetGrowsUptoRow : OpenClaim := { program := "ytgkialgkmjnfbaagreat", sum := "af3b05e844721566ab94d67ebd1dc348f28839caa274a684addcc75ca768f2ed", func := "gambrel/gambrellaw34.StreetGrows", spec := "streetGrows", unfollowed := true, recurses := true, plainKeys := false, apart := false, narrowed := true }
def StreetGrowsUptoSaid : Prop := streetGrowsUptoRow.holds Tryz.pinned (OpenSpec.upto streetGrowsSpec)

/-- 'gambrellaw34.StreetBack', WHERE WHAT IT READS IS OF BULK AT MOST 1048576: true; the input reads as it did. -/
def streetBackUptoRow : OpenClaim := { program := "ytgkialgkmjnfbaagreat", sum := "af3b05e844721566ab94d67ebd1dc348f28839caa274a684addcc75ca768f2ed", func := "gambrel/gambrellaw34.StreetBack", spec := "streetBack", unfollowed := true, recurses := true, plainKeys := false, apart := false, narrowed := true }
def StreetBackUptoSaid : Prop := streetBackUptoRow.holds Tryz.pinned (OpenSpec.upto streetBackSpec)

/-- 'gambrellaw34.StreetPlanar', WHERE WHAT IT READS IS OF BULK AT MOST 1048576: true; the input reads as it did. -/
def streetPlanarUptoRow : OpenClaim := { program := "ytgkialgkmjnfbaagreat", sum := "af3b05e844721566ab94d67ebd1dc348f28839caa274a684addcc75ca768f2ed", func := "gambrel/gambrellaw34.StreetPlanar", spec := "streetPlanar", unfollowed := true, recurses := true, plainKeys := false, apart := false, narrowed := true }
def StreetPlanarUptoSaid : Prop := streetPlanarUptoRow.holds Tryz.pinned (OpenSpec.upto streetPlanarSpec)

/-- 'gambrellaw34.StreetNames', WHERE WHAT IT READS IS OF BULK AT MOST 1048576: true; the input reads as it did. -/
def streetNamesUptoRow : OpenClaim := { program := "ytgkialgkmjnfbaagreat", sum := "af3b05e844721566ab94d67ebd1dc348f28839caa274a684addcc75ca768f2ed", func := "gambrel/gambrellaw34.StreetNames", spec := "streetNames", unfollowed := true, recurses := true, plainKeys := false, apart := false, narrowed := true }
def StreetNamesUptoSaid : Prop := streetNamesUptoRow.holds Tryz.pinned (OpenSpec.upto streetNamesSpec)

/-- 'gambrellaw34.StreetHas', WHERE WHAT IT READS IS OF BULK AT MOST 1048576: true; the input reads as it did. -/
def streetHasUptoRow : OpenClaim := { program := "ytgkialgkmjnfbaagreat", sum := "af3b05e844721566ab94d67ebd1dc348f28839caa274a684addcc75ca768f2ed", func := "gambrel/gambrellaw34.StreetHas", spec := "streetHas", unfollowed := true, recurses := true, plainKeys := false, apart := false, narrowed := true }
def StreetHasUptoSaid : Prop := streetHasUptoRow.holds Tryz.pinned (OpenSpec.upto streetHasSpec)

/-- 'gambrellaw34.StreetCuts', WHERE WHAT IT READS IS OF BULK AT MOST 1048576: true; the input reads as it did. -/
def streetCutsUptoRow : OpenClaim := { program := "ytgkialgkmjnfbaagreat", sum := "af3b05e844721566ab94d67ebd1dc348f28839caa274a684addcc75ca768f2ed", func := "gambrel/gambrellaw34.StreetCuts", spec := "streetCuts", unfollowed := true, recurses := true, plainKeys := false, apart := false, narrowed := true }
def StreetCutsUptoSaid : Prop := streetCutsUptoRow.holds Tryz.pinned (OpenSpec.upto streetCutsSpec)

end Rows
end Go.Proofs.YtgkialgkmjnfbaaGreat
