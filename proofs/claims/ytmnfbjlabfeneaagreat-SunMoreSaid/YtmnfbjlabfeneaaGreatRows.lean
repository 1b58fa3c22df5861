/-
  No cell of these rows narrows 'for every input' (looked for: loops, veiled, ifaces, maps, wideKeys, modest, calm, conditions, laid).
  DERIVED. THE GIVEN ROWS OF THIS SEAT. 8 by the template 'for every input the law returns true; each argument reads behind the call as it read before'; 0 by the template 'total and deterministic' (their statements: YtmnfbjlabfeneaaGreatTotals.lean).
  GIVEN WITH THE SEED: the statements are not yours to turn. If you find one false, say at which input.
  Laid BY PROGRAM, IN A SANDBOX (cutbox-rows.mjs): the forced cells as the released guide's own fill.sh prints them over the translation 5c2b356dde51aada… (all of the seat's roots in one cut). By AI agents, Wed Nov 11 2026. No macro, syntax, notation, axiom, sorry.
-/
import Derived.Test.YtmnfbjlabfeneaaGreatChecked
import GoSem.Claim
import GoSem.ClaimJoined
import GoSem.ClaimMapViews
import Derived.JoinedTies
import Derived.KernelRfl
namespace Go.Proofs.YtmnfbjlabfeneaaGreat
/- THE CELL 'sum', in the pinned program and in every row, IS THE sha256 OF THE DUMP (.gsa) THAT YtmnfbjlabfeneaaGreatProg.lean LOADS. Nothing in Lean hashes anything: it is a label: what it is worth is what the hold of that sum in a sandbox is worth. -/
noncomputable def Tryz.pinned : Pinned := { name := "ytmnfbjlabfeneaagreat", sum := "5c2b356dde51aada26d3cafb45ee021f6462b35c44dfbe1acd9648823e0f7234", checked := Tryz.checked }
namespace Rows
def none {H : Type} : Left H := { results := [], args := [] }

/-- 'gambrellaw38.SunFaces': WHATEVER THE INPUT: true; the input reads as it did. -/
def sunFacesSpec : ChangeSpec := { name := "sunFaces", fn := fun _ => fun
  | [d1, d2, d3, d4] => { results := [.lit (.bool true)], args := [d1, d2, d3, d4] }
  | _ => none }
def sunFacesRow : OpenClaim := { program := "ytmnfbjlabfeneaagreat", sum := "5c2b356dde51aada26d3cafb45ee021f6462b35c44dfbe1acd9648823e0f7234", func := "gambrel/gambrellaw38.SunFaces", spec := "sunFaces", unfollowed := true, recurses := true, apart := false }
def SunFacesSaid : Prop := sunFacesRow.holds Tryz.pinned (OpenSpec.ofChange sunFacesSpec)

/-- ITS FALSE NEIGHBOUR: 'it returns false'. Refute it at one input. -/
def sunFacesWrong : ChangeSpec := { name := "sunFaces", fn := fun _ => fun
  | [d1, d2, d3, d4] => { results := [.lit (.bool false)], args := [d1, d2, d3, d4] }
  | _ => none }
def SunFacesWrongFalsely : Prop := sunFacesRow.holds Tryz.pinned (OpenSpec.ofChange sunFacesWrong)

/-- 'gambrellaw38.SunShadows': WHATEVER THE INPUT: true; the input reads as it did. -/
def sunShadowsSpec : ChangeSpec := { name := "sunShadows", fn := fun _ => fun
  | [d1, d2, d3] => { results := [.lit (.bool true)], args := [d1, d2, d3] }
  | _ => none }
def sunShadowsRow : OpenClaim := { program := "ytmnfbjlabfeneaagreat", sum := "5c2b356dde51aada26d3cafb45ee021f6462b35c44dfbe1acd9648823e0f7234", func := "gambrel/gambrellaw38.SunShadows", spec := "sunShadows", unfollowed := true, recurses := true, apart := false }
def SunShadowsSaid : Prop := sunShadowsRow.holds Tryz.pinned (OpenSpec.ofChange sunShadowsSpec)

/-- ITS FALSE NEIGHBOUR: 'it returns false'. Refute it at one input. -/
def sunShadowsWrong : ChangeSpec := { name := "sunShadows", fn := fun _ => fun
  | [d1, d2, d3] => { results := [.lit (.bool false)], args := [d1, d2, d3] }
  | _ => none }
def SunShadowsWrongFalsely : Prop := sunShadowsRow.holds Tryz.pinned (OpenSpec.ofChange sunShadowsWrong)

/-- 'gambrellaw38.SunRays': WHATEVER THE INPUT: true; the input reads as it did. -/
def sunRaysSpec : ChangeSpec := { name := "sunRays", fn := fun _ => fun
  | [d1, d2, d3] => { results := [.lit (.bool true)], args := [d1, d2, d3] }
  | _ => none }
def sunRaysRow : OpenClaim := { program := "ytmnfbjlabfeneaagreat", sum := "5c2b356dde51aada26d3cafb45ee021f6462b35c44dfbe1acd9648823e0f7234", func := "gambrel/gambrellaw38.SunRays", spec := "sunRays", unfollowed := true, recurses := true, apart := false }
def SunRaysSaid : Prop := sunRaysRow.holds Tryz.pinned (OpenSpec.ofChange sunRaysSpec)

/-- ITS FALSE NEIGHBOUR: 'it returns false'. Refute it at one input. -/
def sunRaysWrong : ChangeSpec := { name := "sunRays", fn := fun _ => fun
  | [d1, d2, d3] => { results := [.lit (.bool false)], args := [d1, d2, d3] }
  | _ => none }
def SunRaysWrongFalsely : Prop := sunRaysRow.holds Tryz.pinned (OpenSpec.ofChange sunRaysWrong)

/-- 'gambrellaw38.SunNames': WHATEVER THE INPUT: true; the input reads as it did. -/
def sunNamesSpec : ChangeSpec := { name := "sunNames", fn := fun _ => fun
  | [] => { results := [.lit (.bool true)], args := [] }
  | _ => none }
def sunNamesRow : OpenClaim := { program := "ytmnfbjlabfeneaagreat", sum := "5c2b356dde51aada26d3cafb45ee021f6462b35c44dfbe1acd9648823e0f7234", func := "gambrel/gambrellaw38.SunNames", spec := "sunNames", unfollowed := true, recurses := true, apart := false }
def SunNamesSaid : Prop := sunNamesRow.holds Tryz.pinned (OpenSpec.ofChange sunNamesSpec)

/-- ITS FALSE NEIGHBOUR: 'it returns false'. Refute it at one input. -/
def sunNamesWrong : ChangeSpec := { name := "sunNames", fn := fun _ => fun
  | [] => { results := [.lit (.bool false)], args := [] }
  | _ => none }
def SunNamesWrongFalsely : Prop := sunNamesRow.holds Tryz.pinned (OpenSpec.ofChange sunNamesWrong)

/-- 'gambrellaw38.SunWay': WHATEVER THE INPUT: true; the input reads as it did. -/
def sunWaySpec : ChangeSpec := { name := "sunWay", fn := fun _ => fun
  | [d1, d2, d3, d4, d5] => { results := [.lit (.bool true)], args := [d1, d2, d3, d4, d5] }
  | _ => none }
def sunWayRow : OpenClaim := { program := "ytmnfbjlabfeneaagreat", sum := "5c2b356dde51aada26d3cafb45ee021f6462b35c44dfbe1acd9648823e0f7234", func := "gambrel/gambrellaw38.SunWay", spec := "sunWay", unfollowed := true, recurses := true, apart := false }
def SunWaySaid : Prop := sunWayRow.holds Tryz.pinned (OpenSpec.ofChange sunWaySpec)

/-- ITS FALSE NEIGHBOUR: 'it returns false'. Refute it at one input. -/
def sunWayWrong : ChangeSpec := { name := "sunWay", fn := fun _ => fun
  | [d1, d2, d3, d4, d5] => { results := [.lit (.bool false)], args := [d1, d2, d3, d4, d5] }
  | _ => none }
def SunWayWrongFalsely : Prop := sunWayRow.holds Tryz.pinned (OpenSpec.ofChange sunWayWrong)

/-- 'gambrellaw38.SunSurface': WHATEVER THE INPUT: true; the input reads as it did. -/
def sunSurfaceSpec : ChangeSpec := { name := "sunSurface", fn := fun _ => fun
  | [d1, d2] => { results := [.lit (.bool true)], args := [d1, d2] }
  | _ => none }
def sunSurfaceRow : OpenClaim := { program := "ytmnfbjlabfeneaagreat", sum := "5c2b356dde51aada26d3cafb45ee021f6462b35c44dfbe1acd9648823e0f7234", func := "gambrel/gambrellaw38.SunSurface", spec := "sunSurface", unfollowed := true, recurses := true, apart := false }
def SunSurfaceSaid : Prop := sunSurfaceRow.holds Tryz.pinned (OpenSpec.ofChange sunSurfaceSpec)

/-- ITS FALSE NEIGHBOUR: 'it returns false'. Refute it at one input. -/
def sunSurfaceWrong : ChangeSpec := { name := "sunSurface", fn := fun _ => fun
  | [d1, d2] => { results := [.lit (.bool false)], args := [d1, d2] }
  | _ => none }
def SunSurfaceWrongFalsely : Prop := sunSurfaceRow.holds Tryz.pinned (OpenSpec.ofChange sunSurfaceWrong)

/-- 'gambrellaw38.SunMore': WHATEVER THE INPUT: true; the input reads as it did. -/
def sunMoreSpec : ChangeSpec := { name := "sunMore", fn := fun _ => fun
  | [d1, d2, d3, d4] => { results := [.lit (.bool true)], args := [d1, d2, d3, d4] }
  | _ => none }
def sunMoreRow : OpenClaim := { program := "ytmnfbjlabfeneaagreat", sum := "5c2b356dde51aada26d3cafb45ee021f6462b35c44dfbe1acd9648823e0f7234", func := "gambrel/gambrellaw38.SunMore", spec := "sunMore", unfollowed := true, recurses := true, apart := false }
def SunMoreSaid : Prop := sunMoreRow.holds Tryz.pinned (OpenSpec.ofChange sunMoreSpec)

/-- ITS FALSE NEIGHBOUR: 'it returns false'. Refute it at one input. -/
def sunMoreWrong : ChangeSpec := { name := "sunMore", fn := fun _ => fun
  | [d1, d2, d3, d4] => { results := [.lit (.bool false)], args := [d1, d2, d3, d4] }
  | _ => none }
def SunMoreWrongFalsely : Prop := sunMoreRow.holds Tryz.pinned (OpenSpec.ofChange sunMoreWrong)

/-- 'gambrellaw38.SunTurns': WHATEVER THE INPUT: true; the input reads as it did. -/
def sunTurnsSpec : ChangeSpec := { name := "sunTurns", fn := fun _ => fun
  | [d1, d2, d3, d4] => { results := [.lit (.bool true)], args := [d1, d2, d3, d4] }
  | _ => none }
def sunTurnsRow : OpenClaim := { program := "ytmnfbjlabfeneaagreat", sum := "5c2b356dde51aada26d3cafb45ee021f6462b35c44dfbe1acd9648823e0f7234", func := "gambrel/gambrellaw38.SunTurns", spec := "sunTurns", unfollowed := true, recurses := true, apart := false }
def SunTurnsSaid : Prop := sunTurnsRow.holds Tryz.pinned (OpenSpec.ofChange sunTurnsSpec)

/-- ITS FALSE NEIGHBOUR: 'it returns false'. Refute it at one input. -/
def sunTurnsWrong : ChangeSpec := { name := "sunTurns", fn := fun _ => fun
  | [d1, d2, d3, d4] => { results := [.lit (.bool false)], args := [d1, d2, d3, d4] }
  | _ => none }
def SunTurnsWrongFalsely : Prop := sunTurnsRow.holds Tryz.pinned (OpenSpec.ofChange sunTurnsWrong)

/- THE SECOND FORM. 'bulk': how many values and letters a reading holds, each counted each time it is reached (what is shared counts as often as it is met; a slice's spare places count too). A statement '..UptoSaid' is the law's where the arguments, and the package variables that the reading takes, are together of bulk at most 1048576: NARROWER than '..Said'. Prove '..Said' where nothing that the law and all that it calls make is longer than what came in: it says more and counts as full. Else prove '..UptoSaid'. A law counts once. -/
mutual
def uptoBulk {H : Type} : DataW H → Nat
  | .lit (.string bytes) => bytes.length + 1
  | .lit _ => 1
  | .nil => 1
  | .ptr d => uptoBulk d + 1
  | .slice elems spare => uptoBulkAll elems + uptoBulkAll spare + 1
  | .agg parts => uptoBulkAll parts + 1
  | .iface _ d => uptoBulk d + 1
  | .map entries => uptoBulkEntries entries + 1
  | .held _ => 1
def uptoBulkAll {H : Type} : List (DataW H) → Nat
  | [] => 0
  | d :: r => uptoBulk d + uptoBulkAll r
def uptoBulkEntries {H : Type} : List (Lit × DataW H) → Nat
  | [] => 0
  | x :: r => uptoBulkEntry x + uptoBulkEntries r
def uptoBulkEntry {H : Type} : Lit × DataW H → Nat
  | (.string bytes, d) => bytes.length + uptoBulk d + 1
  | (_, d) => uptoBulk d + 1
 end
def uptoSmall : (H : Type) → List (DataW H) → Bool := fun _ ds => decide (uptoBulkAll ds ≤ 1048576)
def OpenSpec.upto (s : _root_.Go.ChangeSpec) : _root_.Go.OpenSpec := { _root_.Go.OpenSpec.ofChange s with cond := some uptoSmall }

/-- 'gambrellaw38.SunFaces', WHERE WHAT IT READS IS OF BULK AT MOST 1048576: true; the input reads as it did. -/
def sunFacesUptoRow : OpenClaim := { program := "ytmnfbjlabfeneaagreat", sum := "5c2b356dde51aada26d3cafb45ee021f6462b35c44dfbe1acd9648823e0f7234", func := "gambrel/gambrellaw38.SunFaces", spec := "sunFaces", unfollowed := true, recurses := true, apart := false, narrowed := true }
def SunFacesUptoSaid : Prop := sunFacesUptoRow.holds Tryz.pinned (OpenSpec.upto sunFacesSpec)

/-- 'gambrellaw38.SunShadows', WHERE WHAT IT READS IS OF BULK AT MOST 1048576: true; the input reads as it did. -/
def sunShadowsUptoRow : OpenClaim := { program := "ytmnfbjlabfeneaagreat", sum := "5c2b356dde51aada26d3cafb45ee021f6462b35c44dfbe1acd9648823e0f7234", func := "gambrel/gambrellaw38.SunShadows", spec := "sunShadows", unfollowed := true, recurses := true, apart := false, narrowed := true }
def SunShadowsUptoSaid : Prop := sunShadowsUptoRow.holds Tryz.pinned (OpenSpec.upto sunShadowsSpec)

/-- 'gambrellaw38.SunRays', WHERE WHAT IT READS IS OF BULK AT MOST 1048576: true; the input reads as it did. -/
def sunRaysUptoRow : OpenClaim := { program := "ytmnfbjlabfeneaagreat", sum := "5c2b356dde51aada26d3cafb45ee021f6462b35c44dfbe1acd9648823e0f7234", func := "gambrel/gambrellaw38.SunRays", spec := "sunRays", unfollowed := true, recurses := true, apart := false, narrowed := true }
def SunRaysUptoSaid : Prop := sunRaysUptoRow.holds Tryz.pinned (OpenSpec.upto sunRaysSpec)

/-- 'gambrellaw38.SunNames', WHERE WHAT IT READS IS OF BULK AT MOST 1048576: true; the input reads as it did. -/
def sunNamesUptoRow : OpenClaim := { program := "ytmnfbjlabfeneaagreat", sum := "5c2b356dde51aada26d3cafb45ee021f6462b35c44dfbe1acd9648823e0f7234", func := "gambrel/gambrellaw38.SunNames", spec := "sunNames", unfollowed := true, recurses := true, apart := false, narrowed := true }
def SunNamesUptoSaid : Prop := sunNamesUptoRow.holds Tryz.pinned (OpenSpec.upto sunNamesSpec)

/-- 'gambrellaw38.SunWay', WHERE WHAT IT READS IS OF BULK AT MOST 1048576: true; the input reads as it did. -/
def sunWayUptoRow : OpenClaim := { program := "ytmnfbjlabfeneaagreat", sum := "5c2b356dde51aada26d3cafb45ee021f6462b35c44dfbe1acd9648823e0f7234", func := "gambrel/gambrellaw38.SunWay", spec := "sunWay", unfollowed := true, recurses := true, apart := false, narrowed := true }
def SunWayUptoSaid : Prop := sunWayUptoRow.holds Tryz.pinned (OpenSpec.upto sunWaySpec)

/-- 'gambrellaw38.SunSurface', WHERE WHAT IT READS IS OF BULK AT MOST 1048576: true; the input reads as it did. -/
def sunSurfaceUptoRow : OpenClaim := { program := "ytmnfbjlabfeneaagreat", sum := "5c2b356dde51aada26d3cafb45ee021f6462b35c44dfbe1acd9648823e0f7234", func := "gambrel/gambrellaw38.SunSurface", spec := "sunSurface", unfollowed := true, recurses := true, apart := false, narrowed := true }
def SunSurfaceUptoSaid : Prop := sunSurfaceUptoRow.holds Tryz.pinned (OpenSpec.upto sunSurfaceSpec)

/-- 'gambrellaw38.SunMore', WHERE WHAT IT READS IS OF BULK AT MOST 1048576: true; the input reads as it did. -/
def sunMoreUptoRow : OpenClaim := { program := "ytmnfbjlabfeneaagreat", sum := "5c2b356dde51aada26d3cafb45ee021f6462b35c44dfbe1acd9648823e0f7234", func := "gambrel/gambrellaw38.SunMore", spec := "sunMore", unfollowed := true, recurses := true, apart := false, narrowed := true }
def SunMoreUptoSaid : Prop := sunMoreUptoRow.holds Tryz.pinned (OpenSpec.upto sunMoreSpec)

/-- 'gambrellaw38.SunTurns', WHERE WHAT IT READS IS OF BULK AT MOST 1048576: true; the input reads as it did. -/
def sunTurnsUptoRow : OpenClaim := { program := "ytmnfbjlabfeneaagreat", sum := "5c2b356dde51aada26d3cafb45ee021f6462b35c44dfbe1acd9648823e0f7234", func := "gambrel/gambrellaw38.SunTurns", spec := "sunTurns", unfollowed := true, recurses := true, apart := false, narrowed := true }
def SunTurnsUptoSaid : Prop := sunTurnsUptoRow.holds Tryz.pinned (OpenSpec.upto sunTurnsSpec)

end Rows
end Go.Proofs.YtmnfbjlabfeneaaGreat
