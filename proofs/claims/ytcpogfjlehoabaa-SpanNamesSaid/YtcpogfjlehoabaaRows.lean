/-
  No cell of these rows narrows 'for every input' (looked for: loops, veiled, ifaces, maps, wideKeys, modest, calm, conditions, laid).
  DERIVED. THE GIVEN ROWS OF THIS SEAT. 8 by the template 'for every input the law returns true; each argument reads behind the call as it read before'; 0 by the template 'total and deterministic' (their statements: YtcpogfjlehoabaaTotals.lean).
  GIVEN WITH THE SEED: the statements are not yours to turn. If you find one false, say at which input.
  Laid BY PROGRAM, IN A SANDBOX (cutbox-rows.mjs): the forced cells as the released guide's own fill.sh prints them over the translation 71eb132ecbb6ae6d… (all of the seat's roots in one cut). By AI agents, Wed Nov 11 2026. No macro, syntax, notation, axiom, sorry.
-/
import Derived.Test.YtcpogfjlehoabaaChecked
import GoSem.Claim
import GoSem.ClaimJoined
import GoSem.ClaimMapViews
import Derived.JoinedTies
import Derived.KernelRfl
namespace Go.Proofs.Ytcpogfjlehoabaa
/- THE CELL 'sum', in the pinned program and in every row, IS THE sha256 OF THE DUMP (.gsa) THAT YtcpogfjlehoabaaProg.lean LOADS. Nothing in Lean hashes anything: it is a label: what it is worth is what the hold of that sum in a sandbox is worth. -/
noncomputable def Try.pinned : Pinned := { name := "ytcpogfjlehoabaa", sum := "71eb132ecbb6ae6dc7b3a56ef12e916615400dae8c310dc031ad44698803014f", checked := Try.checked }
namespace Rows
def none {H : Type} : Left H := { results := [], args := [] }

/-- 'gambrellaw11.SpanMoves': WHATEVER THE INPUT: true; the input reads as it did. -/
def spanMovesSpec : ChangeSpec := { name := "spanMoves", fn := fun _ => fun
  | [d1, d2, d3] => { results := [.lit (.bool true)], args := [d1, d2, d3] }
  | _ => none }
def spanMovesRow : OpenClaim := { program := "ytcpogfjlehoabaa", sum := "71eb132ecbb6ae6dc7b3a56ef12e916615400dae8c310dc031ad44698803014f", func := "gambrel/gambrellaw11.SpanMoves", spec := "spanMoves", apart := false }
def SpanMovesSaid : Prop := spanMovesRow.holds Try.pinned (OpenSpec.ofChange spanMovesSpec)

/-- ITS FALSE NEIGHBOUR: 'it returns false'. Refute it at one input. -/
def spanMovesWrong : ChangeSpec := { name := "spanMoves", fn := fun _ => fun
  | [d1, d2, d3] => { results := [.lit (.bool false)], args := [d1, d2, d3] }
  | _ => none }
def SpanMovesWrongFalsely : Prop := spanMovesRow.holds Try.pinned (OpenSpec.ofChange spanMovesWrong)

/-- 'gambrellaw11.SpanJoins': WHATEVER THE INPUT: true; the input reads as it did. -/
def spanJoinsSpec : ChangeSpec := { name := "spanJoins", fn := fun _ => fun
  | [d1, d2] => { results := [.lit (.bool true)], args := [d1, d2] }
  | _ => none }
def spanJoinsRow : OpenClaim := { program := "ytcpogfjlehoabaa", sum := "71eb132ecbb6ae6dc7b3a56ef12e916615400dae8c310dc031ad44698803014f", func := "gambrel/gambrellaw11.SpanJoins", spec := "spanJoins", unfollowed := true, recurses := true, apart := false }
def SpanJoinsSaid : Prop := spanJoinsRow.holds Try.pinned (OpenSpec.ofChange spanJoinsSpec)

/-- ITS FALSE NEIGHBOUR: 'it returns false'. Refute it at one input. -/
def spanJoinsWrong : ChangeSpec := { name := "spanJoins", fn := fun _ => fun
  | [d1, d2] => { results := [.lit (.bool false)], args := [d1, d2] }
  | _ => none }
def SpanJoinsWrongFalsely : Prop := spanJoinsRow.holds Try.pinned (OpenSpec.ofChange spanJoinsWrong)

/-- 'gambrellaw11.SpanMakes': WHATEVER THE INPUT: true; the input reads as it did. -/
def spanMakesSpec : ChangeSpec := { name := "spanMakes", fn := fun _ => fun
  | [d1, d2] => { results := [.lit (.bool true)], args := [d1, d2] }
  | _ => none }
def spanMakesRow : OpenClaim := { program := "ytcpogfjlehoabaa", sum := "71eb132ecbb6ae6dc7b3a56ef12e916615400dae8c310dc031ad44698803014f", func := "gambrel/gambrellaw11.SpanMakes", spec := "spanMakes", unfollowed := true, recurses := true, apart := false }
def SpanMakesSaid : Prop := spanMakesRow.holds Try.pinned (OpenSpec.ofChange spanMakesSpec)

/-- ITS FALSE NEIGHBOUR: 'it returns false'. Refute it at one input. -/
def spanMakesWrong : ChangeSpec := { name := "spanMakes", fn := fun _ => fun
  | [d1, d2] => { results := [.lit (.bool false)], args := [d1, d2] }
  | _ => none }
def SpanMakesWrongFalsely : Prop := spanMakesRow.holds Try.pinned (OpenSpec.ofChange spanMakesWrong)

/-- 'gambrellaw11.SpanNear': WHATEVER THE INPUT: true; the input reads as it did. -/
def spanNearSpec : ChangeSpec := { name := "spanNear", fn := fun _ => fun
  | [d1, d2] => { results := [.lit (.bool true)], args := [d1, d2] }
  | _ => none }
def spanNearRow : OpenClaim := { program := "ytcpogfjlehoabaa", sum := "71eb132ecbb6ae6dc7b3a56ef12e916615400dae8c310dc031ad44698803014f", func := "gambrel/gambrellaw11.SpanNear", spec := "spanNear", unfollowed := true, recurses := true, apart := false }
def SpanNearSaid : Prop := spanNearRow.holds Try.pinned (OpenSpec.ofChange spanNearSpec)

/-- ITS FALSE NEIGHBOUR: 'it returns false'. Refute it at one input. -/
def spanNearWrong : ChangeSpec := { name := "spanNear", fn := fun _ => fun
  | [d1, d2] => { results := [.lit (.bool false)], args := [d1, d2] }
  | _ => none }
def SpanNearWrongFalsely : Prop := spanNearRow.holds Try.pinned (OpenSpec.ofChange spanNearWrong)

/-- 'gambrellaw11.SpanPoints': WHATEVER THE INPUT: true; the input reads as it did. -/
def spanPointsSpec : ChangeSpec := { name := "spanPoints", fn := fun _ => fun
  | [d1, d2, d3] => { results := [.lit (.bool true)], args := [d1, d2, d3] }
  | _ => none }
def spanPointsRow : OpenClaim := { program := "ytcpogfjlehoabaa", sum := "71eb132ecbb6ae6dc7b3a56ef12e916615400dae8c310dc031ad44698803014f", func := "gambrel/gambrellaw11.SpanPoints", spec := "spanPoints", unfollowed := true, recurses := true, apart := false }
def SpanPointsSaid : Prop := spanPointsRow.holds Try.pinned (OpenSpec.ofChange spanPointsSpec)

/-- ITS FALSE NEIGHBOUR: 'it returns false'. Refute it at one input. -/
def spanPointsWrong : ChangeSpec := { name := "spanPoints", fn := fun _ => fun
  | [d1, d2, d3] => { results := [.lit (.bool false)], args := [d1, d2, d3] }
  | _ => none }
def SpanPointsWrongFalsely : Prop := spanPointsRow.holds Try.pinned (OpenSpec.ofChange spanPointsWrong)

/-- 'gambrellaw11.SpanLengths': WHATEVER THE INPUT: true; the input reads as it did. -/
def spanLengthsSpec : ChangeSpec := { name := "spanLengths", fn := fun _ => fun
  | [d1, d2] => { results := [.lit (.bool true)], args := [d1, d2] }
  | _ => none }
def spanLengthsRow : OpenClaim := { program := "ytcpogfjlehoabaa", sum := "71eb132ecbb6ae6dc7b3a56ef12e916615400dae8c310dc031ad44698803014f", func := "gambrel/gambrellaw11.SpanLengths", spec := "spanLengths", unfollowed := true, recurses := true, apart := false }
def SpanLengthsSaid : Prop := spanLengthsRow.holds Try.pinned (OpenSpec.ofChange spanLengthsSpec)

/-- ITS FALSE NEIGHBOUR: 'it returns false'. Refute it at one input. -/
def spanLengthsWrong : ChangeSpec := { name := "spanLengths", fn := fun _ => fun
  | [d1, d2] => { results := [.lit (.bool false)], args := [d1, d2] }
  | _ => none }
def SpanLengthsWrongFalsely : Prop := spanLengthsRow.holds Try.pinned (OpenSpec.ofChange spanLengthsWrong)

/-- 'gambrellaw11.SpanNames': WHATEVER THE INPUT: true; the input reads as it did. -/
def spanNamesSpec : ChangeSpec := { name := "spanNames", fn := fun _ => fun
  | [] => { results := [.lit (.bool true)], args := [] }
  | _ => none }
def spanNamesRow : OpenClaim := { program := "ytcpogfjlehoabaa", sum := "71eb132ecbb6ae6dc7b3a56ef12e916615400dae8c310dc031ad44698803014f", func := "gambrel/gambrellaw11.SpanNames", spec := "spanNames", unfollowed := true, recurses := true, apart := false }
def SpanNamesSaid : Prop := spanNamesRow.holds Try.pinned (OpenSpec.ofChange spanNamesSpec)

/-- ITS FALSE NEIGHBOUR: 'it returns false'. Refute it at one input. -/
def spanNamesWrong : ChangeSpec := { name := "spanNames", fn := fun _ => fun
  | [] => { results := [.lit (.bool false)], args := [] }
  | _ => none }
def SpanNamesWrongFalsely : Prop := spanNamesRow.holds Try.pinned (OpenSpec.ofChange spanNamesWrong)

/-- 'gambrellaw11.SpanHull': WHATEVER THE INPUT: true; the input reads as it did. -/
def spanHullSpec : ChangeSpec := { name := "spanHull", fn := fun _ => fun
  | [d1, d2] => { results := [.lit (.bool true)], args := [d1, d2] }
  | _ => none }
def spanHullRow : OpenClaim := { program := "ytcpogfjlehoabaa", sum := "71eb132ecbb6ae6dc7b3a56ef12e916615400dae8c310dc031ad44698803014f", func := "gambrel/gambrellaw11.SpanHull", spec := "spanHull", unfollowed := true, recurses := true, apart := false }
def SpanHullSaid : Prop := spanHullRow.holds Try.pinned (OpenSpec.ofChange spanHullSpec)

/-- ITS FALSE NEIGHBOUR: 'it returns false'. Refute it at one input. -/
def spanHullWrong : ChangeSpec := { name := "spanHull", fn := fun _ => fun
  | [d1, d2] => { results := [.lit (.bool false)], args := [d1, d2] }
  | _ => none }
def SpanHullWrongFalsely : Prop := spanHullRow.holds Try.pinned (OpenSpec.ofChange spanHullWrong)

/- THE SECOND FORM. 'bulk': how many values and letters a reading holds, each counted each time it is reached (what is shared counts as often as it is met; a slice's spare places count too). A statement '..UptoSaid' is the law's where the arguments, and the package variables that the reading takes, are together of bulk at most 1048576: NARROWER than '..Said'. Prove '..Said' where nothing that the law and all that it calls make is longer than what came in: it says more and counts as full. Else prove '..UptoSaid'. A law counts once. -/
mutual
def uptoBulk {H : Type} : DataW H → Nat
  | .lit (.string bytes) => bytes.length + 1
  | .lit _ => 1
  | .nil => 1
  | .ptr d => uptoBulk d + 1
  | .slice elems spare => uptoBulkAll elems + uptoBulkAll spare + 1
  | .agg parts => uptoBulkAll parts + 1
  | .iface _ d => uptoBulk d + 1
  | .map entries => uptoBulkEntries entries + 1
  | .held _ => 1
def uptoBulkAll {H : Type} : List (DataW H) → Nat
  | [] => 0
  | d :: r => uptoBulk d + uptoBulkAll r
def uptoBulkEntries {H : Type} : List (Lit × DataW H) → Nat
  | [] => 0
  | x :: r => uptoBulkEntry x + uptoBulkEntries r
def uptoBulkEntry {H : Type} : Lit × DataW H → Nat
  | (.string bytes, d) => bytes.length + uptoBulk d + 1
  | (_, d) => uptoBulk d + 1
 end
def uptoSmall : (H : Type) → List (DataW H) → Bool := fun _ ds => decide (uptoBulkAll ds ≤ 1048576)
def OpenSpec.upto (s : _root_.Go.ChangeSpec) : _root_.Go.OpenSpec := { _root_.Go.OpenSpec.ofChange s with cond := some uptoSmall }

/-- 'gambrellaw11.SpanMoves', WHERE WHAT IT READS IS OF BULK AT MOST 1048576: true; the input reads as it did. -/
def spanMovesUptoRow : OpenClaim := { program := "ytcpogfjlehoabaa", sum := "71eb132ecbb6ae6dc7b3a56ef12e916615400dae8c310dc031ad44698803014f", func := "gambrel/gambrellaw11.SpanMoves", spec := "spanMoves", apart := false, narrowed := true }
def SpanMovesUptoSaid : Prop := spanMovesUptoRow.holds Try.pinned (OpenSpec.upto spanMovesSpec)

/-- 'gambrellaw11.SpanJoins', WHERE WHAT IT READS IS OF BULK AT MOST 1048576: true; the input reads as it did. -/
def spanJoinsUptoRow : OpenClaim := { program := "ytcpogfjlehoabaa", sum := "71eb132ecbb6ae6dc7b3a56ef12e916615400dae8c310dc031ad44698803014f", func := "gambrel/gambrellaw11.SpanJoins", spec := "spanJoins", unfollowed := true, recurses := true, apart := false, narrowed := true }
def SpanJoinsUptoSaid : Prop := spanJoinsUptoRow.holds Try.pinned (OpenSpec.upto spanJoinsSpec)

/-- 'gambrellaw11.SpanMakes', WHERE WHAT IT READS IS OF BULK AT MOST 1048576: true; the input reads as it did. -/
def spanMakesUptoRow : OpenClaim := { program := "ytcpogfjlehoabaa", sum := "71eb132ecbb6ae6dc7b3a56ef12e916615400dae8c310dc031ad44698803014f", func := "gambrel/gambrellaw11.SpanMakes", spec := "spanMakes", unfollowed := true, recurses := true, apart := false, narrowed := true }
def SpanMakesUptoSaid : Prop := spanMakesUptoRow.holds Try.pinned (OpenSpec.upto spanMakesSpec)

/-- 'gambrellaw11.SpanNear', WHERE WHAT IT READS IS OF BULK AT MOST 1048576: true; the input reads as it did. -/
def spanNearUptoRow : OpenClaim := { program := "ytcpogfjlehoabaa", sum := "71eb132ecbb6ae6dc7b3a56ef12e916615400dae8c310dc031ad44698803014f", func := "gambrel/gambrellaw11.SpanNear", spec := "spanNear", unfollowed := true, recurses := true, apart := false, narrowed := true }
def SpanNearUptoSaid : Prop := spanNearUptoRow.holds Try.pinned (OpenSpec.upto spanNearSpec)

/-- 'gambrellaw11.SpanPoints', WHERE WHAT IT READS IS OF BULK AT MOST 1048576: true; the input reads as it did. -/
def spanPointsUptoRow : OpenClaim := { program := "ytcpogfjlehoabaa", sum := "71eb132ecbb6ae6dc7b3a56ef12e916615400dae8c310dc031ad44698803014f", func := "gambrel/gambrellaw11.SpanPoints", spec := "spanPoints", unfollowed := true, recurses := true, apart := false, narrowed := true }
def SpanPointsUptoSaid : Prop := spanPointsUptoRow.holds Try.pinned (OpenSpec.upto spanPointsSpec)

/-- 'gambrellaw11.SpanLengths', WHERE WHAT IT READS IS OF BULK AT MOST 1048576: true; the input reads as it did. -/
def spanLengthsUptoRow : OpenClaim := { program := "ytcpogfjlehoabaa", sum := "71eb132ecbb6ae6dc7b3a56ef12e916615400dae8c310dc031ad44698803014f", func := "gambrel/gambrellaw11.SpanLengths", spec := "spanLengths", unfollowed := true, recurses := true, apart := false, narrowed := true }
def SpanLengthsUptoSaid : Prop := spanLengthsUptoRow.holds Try.pinned (OpenSpec.upto spanLengthsSpec)

/-- 'gambrellaw11.SpanNames', WHERE WHAT IT READS IS OF BULK AT MOST 1048576: true; the input reads as it did. -/
def spanNamesUptoRow : OpenClaim := { program := "ytcpogfjlehoabaa", sum := "71eb132ecbb6ae6dc7b3a56ef12e916615400dae8c310dc031ad44698803014f", func := "gambrel/gambrellaw11.SpanNames", spec := "spanNames", unfollowed := true, recurses := true, apart := false, narrowed := true }
def SpanNamesUptoSaid : Prop := spanNamesUptoRow.holds Try.pinned (OpenSpec.upto spanNamesSpec)

/-- 'gambrellaw11.SpanHull', WHERE WHAT IT READS IS OF BULK AT MOST 1048576: true; the input reads as it did. -/
def spanHullUptoRow : OpenClaim := { program := "ytcpogfjlehoabaa", sum := "71eb132ecbb6ae6dc7b3a56ef12e916615400dae8c310dc031ad44698803014f", func := "gambrel/gambrellaw11.SpanHull", spec := "spanHull", unfollowed := true, recurses := true, apart := false, narrowed := true }
def SpanHullUptoSaid : Prop := spanHullUptoRow.holds Try.pinned (OpenSpec.upto spanHullSpec)

end Rows
end Go.Proofs.Ytcpogfjlehoabaa
