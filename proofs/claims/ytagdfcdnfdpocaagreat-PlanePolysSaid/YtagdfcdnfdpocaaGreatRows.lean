/-
  No cell of these rows narrows 'for every input' (looked for: loops, veiled, ifaces, maps, wideKeys, modest, calm, conditions, laid).
  DERIVED. THE GIVEN ROWS OF THIS SEAT. 12 by the template 'for every input the law returns true; each argument reads behind the call as it read before'; 0 by the template 'total and deterministic' (their statements: YtagdfcdnfdpocaaGreatTotals.lean).
  GIVEN WITH THE SEED: the statements are not yours to turn. If you find one false, say at which input.
  Laid BY PROGRAM, IN A SANDBOX (cutbox-rows.mjs): the forced cells as the released guide's own fill.sh prints them over the translation 41ead502b71be6d8… (all of the seat's roots in one cut). By AI agents, Wed Nov 11 2026. No macro, syntax, notation, axiom, sorry.
-/
import Derived.Test.YtagdfcdnfdpocaaGreatChecked
import GoSem.Claim
import GoSem.ClaimJoined
import GoSem.ClaimMapViews
import Derived.JoinedTies
import Derived.KernelRfl
namespace Go.Proofs.YtagdfcdnfdpocaaGreat
/- THE CELL 'sum', in the pinned program and in every row, IS THE sha256 OF THE DUMP (.gsa) THAT YtagdfcdnfdpocaaGreatProg.lean LOADS. Nothing in Lean hashes anything: it is a label: what it is worth is what the hold of that sum in a sandbox is worth. -/
noncomputable def Tryz.pinned : Pinned := { name := "ytagdfcdnfdpocaagreat", sum := "41ead502b71be6d8c9c6218388dc27d32f7acd5930ab113582b9e40e14f7bc8c", checked := Tryz.checked }
namespace Rows
def none {H : Type} : Left H := { results := [], args := [] }

/-- 'giornatalaw01.PlaneTurns': WHATEVER THE INPUT: true; the input reads as it did. -/
def planeTurnsSpec : ChangeSpec := { name := "planeTurns", fn := fun _ => fun
  | [d1, d2, d3] => { results := [.lit (.bool true)], args := [d1, d2, d3] }
  | _ => none }
def planeTurnsRow : OpenClaim := { program := "ytagdfcdnfdpocaagreat", sum := "41ead502b71be6d8c9c6218388dc27d32f7acd5930ab113582b9e40e14f7bc8c", func := "giornata/giornatalaw01.PlaneTurns", spec := "planeTurns", unfollowed := true, recurses := true, plainKeys := false, apart := false }
def PlaneTurnsSaid : Prop := planeTurnsRow.holds Tryz.pinned (OpenSpec.ofChange planeTurnsSpec)

/-- ITS FALSE NEIGHBOUR: 'it returns false'. Refute it at one input. -/
def planeTurnsWrong : ChangeSpec := { name := "planeTurns", fn := fun _ => fun
  | [d1, d2, d3] => { results := [.lit (.bool false)], args := [d1, d2, d3] }
  | _ => none }
def PlaneTurnsWrongFalsely : Prop := planeTurnsRow.holds Tryz.pinned (OpenSpec.ofChange planeTurnsWrong)

/-- 'giornatalaw01.PlaneOn': WHATEVER THE INPUT: true; the input reads as it did. -/
def planeOnSpec : ChangeSpec := { name := "planeOn", fn := fun _ => fun
  | [d1, d2] => { results := [.lit (.bool true)], args := [d1, d2] }
  | _ => none }
def planeOnRow : OpenClaim := { program := "ytagdfcdnfdpocaagreat", sum := "41ead502b71be6d8c9c6218388dc27d32f7acd5930ab113582b9e40e14f7bc8c", func := "giornata/giornatalaw01.PlaneOn", spec := "planeOn", unfollowed := true, recurses := true, plainKeys := false, apart := false }
def PlaneOnSaid : Prop := planeOnRow.holds Tryz.pinned (OpenSpec.ofChange planeOnSpec)

/-- ITS FALSE NEIGHBOUR: 'it returns false'. Refute it at one input. -/
def planeOnWrong : ChangeSpec := { name := "planeOn", fn := fun _ => fun
  | [d1, d2] => { results := [.lit (.bool false)], args := [d1, d2] }
  | _ => none }
def PlaneOnWrongFalsely : Prop := planeOnRow.holds Tryz.pinned (OpenSpec.ofChange planeOnWrong)

/-- 'giornatalaw01.PlaneMeets': WHATEVER THE INPUT: true; the input reads as it did. -/
def planeMeetsSpec : ChangeSpec := { name := "planeMeets", fn := fun _ => fun
  | [d1, d2] => { results := [.lit (.bool true)], args := [d1, d2] }
  | _ => none }
def planeMeetsRow : OpenClaim := { program := "ytagdfcdnfdpocaagreat", sum := "41ead502b71be6d8c9c6218388dc27d32f7acd5930ab113582b9e40e14f7bc8c", func := "giornata/giornatalaw01.PlaneMeets", spec := "planeMeets", unfollowed := true, recurses := true, plainKeys := false, apart := false }
def PlaneMeetsSaid : Prop := planeMeetsRow.holds Tryz.pinned (OpenSpec.ofChange planeMeetsSpec)

/-- ITS FALSE NEIGHBOUR: 'it returns false'. Refute it at one input. -/
def planeMeetsWrong : ChangeSpec := { name := "planeMeets", fn := fun _ => fun
  | [d1, d2] => { results := [.lit (.bool false)], args := [d1, d2] }
  | _ => none }
def PlaneMeetsWrongFalsely : Prop := planeMeetsRow.holds Tryz.pinned (OpenSpec.ofChange planeMeetsWrong)

/-- 'giornatalaw01.PlaneAbove': WHATEVER THE INPUT: true; the input reads as it did. -/
def planeAboveSpec : ChangeSpec := { name := "planeAbove", fn := fun _ => fun
  | [d1, d2] => { results := [.lit (.bool true)], args := [d1, d2] }
  | _ => none }
def planeAboveRow : OpenClaim := { program := "ytagdfcdnfdpocaagreat", sum := "41ead502b71be6d8c9c6218388dc27d32f7acd5930ab113582b9e40e14f7bc8c", func := "giornata/giornatalaw01.PlaneAbove", spec := "planeAbove", unfollowed := true, recurses := true, plainKeys := false, apart := false }
def PlaneAboveSaid : Prop := planeAboveRow.holds Tryz.pinned (OpenSpec.ofChange planeAboveSpec)

/-- ITS FALSE NEIGHBOUR: 'it returns false'. Refute it at one input. -/
def planeAboveWrong : ChangeSpec := { name := "planeAbove", fn := fun _ => fun
  | [d1, d2] => { results := [.lit (.bool false)], args := [d1, d2] }
  | _ => none }
def PlaneAboveWrongFalsely : Prop := planeAboveRow.holds Tryz.pinned (OpenSpec.ofChange planeAboveWrong)

/-- 'giornatalaw01.PlaneLengths': WHATEVER THE INPUT: true; the input reads as it did. -/
def planeLengthsSpec : ChangeSpec := { name := "planeLengths", fn := fun _ => fun
  | [d] => { results := [.lit (.bool true)], args := [d] }
  | _ => none }
def planeLengthsRow : OpenClaim := { program := "ytagdfcdnfdpocaagreat", sum := "41ead502b71be6d8c9c6218388dc27d32f7acd5930ab113582b9e40e14f7bc8c", func := "giornata/giornatalaw01.PlaneLengths", spec := "planeLengths", unfollowed := true, recurses := true, plainKeys := false, apart := false }
def PlaneLengthsSaid : Prop := planeLengthsRow.holds Tryz.pinned (OpenSpec.ofChange planeLengthsSpec)

/-- ITS FALSE NEIGHBOUR: 'it returns false'. Refute it at one input. -/
def planeLengthsWrong : ChangeSpec := { name := "planeLengths", fn := fun _ => fun
  | [d] => { results := [.lit (.bool false)], args := [d] }
  | _ => none }
def PlaneLengthsWrongFalsely : Prop := planeLengthsRow.holds Tryz.pinned (OpenSpec.ofChange planeLengthsWrong)

/-- 'giornatalaw01.PlanePolys': WHATEVER THE INPUT: true; the input reads as it did. -/
def planePolysSpec : ChangeSpec := { name := "planePolys", fn := fun _ => fun
  | [d] => { results := [.lit (.bool true)], args := [d] }
  | _ => none }
def planePolysRow : OpenClaim := { program := "ytagdfcdnfdpocaagreat", sum := "41ead502b71be6d8c9c6218388dc27d32f7acd5930ab113582b9e40e14f7bc8c", func := "giornata/giornatalaw01.PlanePolys", spec := "planePolys", unfollowed := true, recurses := true, plainKeys := false, apart := false }
def PlanePolysSaid : Prop := planePolysRow.holds Tryz.pinned (OpenSpec.ofChange planePolysSpec)

/-- ITS FALSE NEIGHBOUR: 'it returns false'. Refute it at one input. -/
def planePolysWrong : ChangeSpec := { name := "planePolys", fn := fun _ => fun
  | [d] => { results := [.lit (.bool false)], args := [d] }
  | _ => none }
def PlanePolysWrongFalsely : Prop := planePolysRow.holds Tryz.pinned (OpenSpec.ofChange planePolysWrong)

/-- 'giornatalaw01.PlaneCrossing': WHATEVER THE INPUT: true; the input reads as it did. -/
def planeCrossingSpec : ChangeSpec := { name := "planeCrossing", fn := fun _ => fun
  | [d] => { results := [.lit (.bool true)], args := [d] }
  | _ => none }
def planeCrossingRow : OpenClaim := { program := "ytagdfcdnfdpocaagreat", sum := "41ead502b71be6d8c9c6218388dc27d32f7acd5930ab113582b9e40e14f7bc8c", func := "giornata/giornatalaw01.PlaneCrossing", spec := "planeCrossing", unfollowed := true, recurses := true, plainKeys := false, apart := false }
def PlaneCrossingSaid : Prop := planeCrossingRow.holds Tryz.pinned (OpenSpec.ofChange planeCrossingSpec)

/-- ITS FALSE NEIGHBOUR: 'it returns false'. Refute it at one input. -/
def planeCrossingWrong : ChangeSpec := { name := "planeCrossing", fn := fun _ => fun
  | [d] => { results := [.lit (.bool false)], args := [d] }
  | _ => none }
def PlaneCrossingWrongFalsely : Prop := planeCrossingRow.holds Tryz.pinned (OpenSpec.ofChange planeCrossingWrong)

/-- 'giornatalaw01.PlaneWhere': WHATEVER THE INPUT: true; the input reads as it did. -/
def planeWhereSpec : ChangeSpec := { name := "planeWhere", fn := fun _ => fun
  | [d1, d2] => { results := [.lit (.bool true)], args := [d1, d2] }
  | _ => none }
def planeWhereRow : OpenClaim := { program := "ytagdfcdnfdpocaagreat", sum := "41ead502b71be6d8c9c6218388dc27d32f7acd5930ab113582b9e40e14f7bc8c", func := "giornata/giornatalaw01.PlaneWhere", spec := "planeWhere", unfollowed := true, recurses := true, plainKeys := false, apart := false }
def PlaneWhereSaid : Prop := planeWhereRow.holds Tryz.pinned (OpenSpec.ofChange planeWhereSpec)

/-- ITS FALSE NEIGHBOUR: 'it returns false'. Refute it at one input. -/
def planeWhereWrong : ChangeSpec := { name := "planeWhere", fn := fun _ => fun
  | [d1, d2] => { results := [.lit (.bool false)], args := [d1, d2] }
  | _ => none }
def PlaneWhereWrongFalsely : Prop := planeWhereRow.holds Tryz.pinned (OpenSpec.ofChange planeWhereWrong)

/-- 'giornatalaw01.PlaneBorder': WHATEVER THE INPUT: true; the input reads as it did. -/
def planeBorderSpec : ChangeSpec := { name := "planeBorder", fn := fun _ => fun
  | [d1, d2] => { results := [.lit (.bool true)], args := [d1, d2] }
  | _ => none }
def planeBorderRow : OpenClaim := { program := "ytagdfcdnfdpocaagreat", sum := "41ead502b71be6d8c9c6218388dc27d32f7acd5930ab113582b9e40e14f7bc8c", func := "giornata/giornatalaw01.PlaneBorder", spec := "planeBorder", unfollowed := true, recurses := true, plainKeys := false, apart := false }
def PlaneBorderSaid : Prop := planeBorderRow.holds Tryz.pinned (OpenSpec.ofChange planeBorderSpec)

/-- ITS FALSE NEIGHBOUR: 'it returns false'. Refute it at one input. -/
def planeBorderWrong : ChangeSpec := { name := "planeBorder", fn := fun _ => fun
  | [d1, d2] => { results := [.lit (.bool false)], args := [d1, d2] }
  | _ => none }
def PlaneBorderWrongFalsely : Prop := planeBorderRow.holds Tryz.pinned (OpenSpec.ofChange planeBorderWrong)

/-- 'giornatalaw01.PlaneChanges': WHATEVER THE INPUT: true; the input reads as it did. -/
def planeChangesSpec : ChangeSpec := { name := "planeChanges", fn := fun _ => fun
  | [d1, d2, d3] => { results := [.lit (.bool true)], args := [d1, d2, d3] }
  | _ => none }
def planeChangesRow : OpenClaim := { program := "ytagdfcdnfdpocaagreat", sum := "41ead502b71be6d8c9c6218388dc27d32f7acd5930ab113582b9e40e14f7bc8c", func := "giornata/giornatalaw01.PlaneChanges", spec := "planeChanges", unfollowed := true, recurses := true, plainKeys := false, apart := false }
def PlaneChangesSaid : Prop := planeChangesRow.holds Tryz.pinned (OpenSpec.ofChange planeChangesSpec)

/-- ITS FALSE NEIGHBOUR: 'it returns false'. Refute it at one input. -/
def planeChangesWrong : ChangeSpec := { name := "planeChanges", fn := fun _ => fun
  | [d1, d2, d3] => { results := [.lit (.bool false)], args := [d1, d2, d3] }
  | _ => none }
def PlaneChangesWrongFalsely : Prop := planeChangesRow.holds Tryz.pinned (OpenSpec.ofChange planeChangesWrong)

/-- 'giornatalaw01.PlaneNormals': WHATEVER THE INPUT: true; the input reads as it did. -/
def planeNormalsSpec : ChangeSpec := { name := "planeNormals", fn := fun _ => fun
  | [d1, d2, d3] => { results := [.lit (.bool true)], args := [d1, d2, d3] }
  | _ => none }
def planeNormalsRow : OpenClaim := { program := "ytagdfcdnfdpocaagreat", sum := "41ead502b71be6d8c9c6218388dc27d32f7acd5930ab113582b9e40e14f7bc8c", func := "giornata/giornatalaw01.PlaneNormals", spec := "planeNormals", unfollowed := true, recurses := true, plainKeys := false, apart := false }
def PlaneNormalsSaid : Prop := planeNormalsRow.holds Tryz.pinned (OpenSpec.ofChange planeNormalsSpec)

/-- ITS FALSE NEIGHBOUR: 'it returns false'. Refute it at one input. -/
def planeNormalsWrong : ChangeSpec := { name := "planeNormals", fn := fun _ => fun
  | [d1, d2, d3] => { results := [.lit (.bool false)], args := [d1, d2, d3] }
  | _ => none }
def PlaneNormalsWrongFalsely : Prop := planeNormalsRow.holds Tryz.pinned (OpenSpec.ofChange planeNormalsWrong)

/-- 'giornatalaw01.PlaneTriangles': WHATEVER THE INPUT: true; the input reads as it did. -/
def planeTrianglesSpec : ChangeSpec := { name := "planeTriangles", fn := fun _ => fun
  | [d] => { results := [.lit (.bool true)], args := [d] }
  | _ => none }
def planeTrianglesRow : OpenClaim := { program := "ytagdfcdnfdpocaagreat", sum := "41ead502b71be6d8c9c6218388dc27d32f7acd5930ab113582b9e40e14f7bc8c", func := "giornata/giornatalaw01.PlaneTriangles", spec := "planeTriangles", unfollowed := true, recurses := true, plainKeys := false, apart := false }
def PlaneTrianglesSaid : Prop := planeTrianglesRow.holds Tryz.pinned (OpenSpec.ofChange planeTrianglesSpec)

/-- ITS FALSE NEIGHBOUR: 'it returns false'. Refute it at one input. -/
def planeTrianglesWrong : ChangeSpec := { name := "planeTriangles", fn := fun _ => fun
  | [d] => { results := [.lit (.bool false)], args := [d] }
  | _ => none }
def PlaneTrianglesWrongFalsely : Prop := planeTrianglesRow.holds Tryz.pinned (OpenSpec.ofChange planeTrianglesWrong)

/- THE SECOND FORM. 'bulk': how many values and letters a reading holds, each counted each time it is reached (what is shared counts as often as it is met; a slice's spare places count too). A statement '..UptoSaid' is the law's where the arguments, and the package variables that the reading takes, are together of bulk at most 1048576: NARROWER than '..Said'. Prove '..Said' where nothing that the law and all that it calls make is longer than what came in: it says more and counts as full. Else prove '..UptoSaid'. A law counts once. -/
mutual
def uptoBulk {H : Type} : DataW H → Nat
  | .lit (.string bytes) => bytes.length + 1
  | .lit _ => 1
  | .nil => 1
  | .ptr d => uptoBulk d + 1
  | .slice elems spare => uptoBulkAll elems + uptoBulkAll spare + 1
  | .agg parts => uptoBulkAll parts + 1
  | .iface _ d => uptoBulk d + 1
  | .map entries => uptoBulkEntries entries + 1
  | .held _ => 1
def uptoBulkAll {H : Type} : List (DataW H) → Nat
  | [] => 0
  | d :: r => uptoBulk d + uptoBulkAll r
def uptoBulkEntries {H : Type} : List (Lit × DataW H) → Nat
  | [] => 0
  | x :: r => uptoBulkEntry x + uptoBulkEntries r
def uptoBulkEntry {H : Type} : Lit × DataW H → Nat
  | (.string bytes, d) => bytes.length + uptoBulk d + 1
  | (_, d) => uptoBulk d + 1
 end
def uptoSmall : (H : Type) → List (DataW H) → Bool := fun _ ds => decide (uptoBulkAll ds ≤ 1048576)
def OpenSpec.upto (s : _root_.Go.ChangeSpec) : _root_.Go.OpenSpec := { _root_.Go.OpenSpec.ofChange s with cond := some uptoSmall }

/-- 'giornatalaw01.PlaneTurns', WHERE WHAT IT READS IS OF BULK AT MOST 1048576: true; the input reads as it did. -/
def planeTurnsUptoRow : OpenClaim := { program := "ytagdfcdnfdpocaagreat", sum := "41ead502b71be6d8c9c6218388dc27d32f7acd5930ab113582b9e40e14f7bc8c", func := "giornata/giornatalaw01.PlaneTurns", spec := "planeTurns", unfollowed := true, recurses := true, plainKeys := false, apart := false, narrowed := true }
def PlaneTurnsUptoSaid : Prop := planeTurnsUptoRow.holds Tryz.pinned (OpenSpec.upto planeTurnsSpec)

/-- 'giornatalaw01.PlaneOn', WHERE WHAT IT READS IS OF BULK AT MOST 1048576: true; the input reads as it did. -/
def planeOnUptoRow : OpenClaim := { program := "ytagdfcdnfdpocaagreat", sum := "41ead502b71be6d8c9c6218388dc27d32f7acd5930ab113582b9e40e14f7bc8c", func := "giornata/giornatalaw01.PlaneOn", spec := "planeOn", unfollowed := true, recurses := true, plainKeys := false, apart := false, narrowed := true }
def PlaneOnUptoSaid : Prop := planeOnUptoRow.holds Tryz.pinned (OpenSpec.upto planeOnSpec)

/-- 'giornatalaw01.PlaneMeets', WHERE WHAT IT READS IS OF BULK AT MOST 1048576: true; the input reads as it did. -/
def planeMeetsUptoRow : OpenClaim := { program := "ytagdfcdnfdpocaagreat", sum := "41ead502b71be6d8c9c6218388dc27d32f7acd5930ab113582b9e40e14f7bc8c", func := "giornata/giornatalaw01.PlaneMeets", spec := "planeMeets", unfollowed := true, recurses := true, plainKeys := false, apart := false, narrowed := true }
def PlaneMeetsUptoSaid : Prop := planeMeetsUptoRow.holds Tryz.pinned (OpenSpec.upto planeMeetsSpec)

/-- 'giornatalaw01.PlaneAbove', WHERE WHAT IT READS IS OF BULK AT MOST 1048576: true; the input reads as it did. -/
def planeAboveUptoRow : OpenClaim := { program := "ytagdfcdnfdpocaagreat", sum := "41ead502b71be6d8c9c6218388dc27d32f7acd5930ab113582b9e40e14f7bc8c", func := "giornata/giornatalaw01.PlaneAbove", spec := "planeAbove", unfollowed := true, recurses := true, plainKeys := false, apart := false, narrowed := true }
def PlaneAboveUptoSaid : Prop := planeAboveUptoRow.holds Tryz.pinned (OpenSpec.upto planeAboveSpec)

/-- 'giornatalaw01.PlaneLengths', WHERE WHAT IT READS IS OF BULK AT MOST 1048576: true; the input reads as it did. -/
def planeLengthsUptoRow : OpenClaim := { program := "ytagdfcdnfdpocaagreat", sum := "41ead502b71be6d8c9c6218388dc27d32f7acd5930ab113582b9e40e14f7bc8c", func := "giornata/giornatalaw01.PlaneLengths", spec := "planeLengths", unfollowed := true, recurses := true, plainKeys := false, apart := false, narrowed := true }
def PlaneLengthsUptoSaid : Prop := planeLengthsUptoRow.holds Tryz.pinned (OpenSpec.upto planeLengthsSpec)

/-- 'giornatalaw01.PlanePolys', WHERE WHAT IT READS IS OF BULK AT MOST 1048576: true; the input reads as it did. -/
def planePolysUptoRow : OpenClaim := { program := "ytagdfcdnfdpocaagreat", sum := "41ead502b71be6d8c9c6218388dc27d32f7acd5930ab113582b9e40e14f7bc8c", func := "giornata/giornatalaw01.PlanePolys", spec := "planePolys", unfollowed := true, recurses := true, plainKeys := false, apart := false, narrowed := true }
def PlanePolysUptoSaid : Prop := planePolysUptoRow.holds Tryz.pinned (OpenSpec.upto planePolysSpec)

/-- 'giornatalaw01.PlaneCrossing', WHERE WHAT IT READS IS OF BULK AT MOST 1048576: true; the input reads as it did. -/
def planeCrossingUptoRow : OpenClaim := { program := "ytagdfcdnfdpocaagreat", sum := "41ead502b71be6d8c9c6218388dc27d32f7acd5930ab113582b9e40e14f7bc8c", func := "giornata/giornatalaw01.PlaneCrossing", spec := "planeCrossing", unfollowed := true, recurses := true, plainKeys := false, apart := false, narrowed := true }
def PlaneCrossingUptoSaid : Prop := planeCrossingUptoRow.holds Tryz.pinned (OpenSpec.upto planeCrossingSpec)

/-- 'giornatalaw01.PlaneWhere', WHERE WHAT IT READS IS OF BULK AT MOST 1048576: true; the input reads as it did. -/
def planeWhereUptoRow : OpenClaim := { program := "ytagdfcdnfdpocaagreat", sum := "41ead502b71be6d8c9c6218388dc27d32f7acd5930ab113582b9e40e14f7bc8c", func := "giornata/giornatalaw01.PlaneWhere", spec := "planeWhere", unfollowed := true, recurses := true, plainKeys := false, apart := false, narrowed := true }
def PlaneWhereUptoSaid : Prop := planeWhereUptoRow.holds Tryz.pinned (OpenSpec.upto planeWhereSpec)

/-- 'giornatalaw01.PlaneBorder', WHERE WHAT IT READS IS OF BULK AT MOST 1048576: true; the input reads as it did. -/
def planeBorderUptoRow : OpenClaim := { program := "ytagdfcdnfdpocaagreat", sum := "41ead502b71be6d8c9c6218388dc27d32f7acd5930ab113582b9e40e14f7bc8c", func := "giornata/giornatalaw01.PlaneBorder", spec := "planeBorder", unfollowed := true, recurses := true, plainKeys := false, apart := false, narrowed := true }
def PlaneBorderUptoSaid : Prop := planeBorderUptoRow.holds Tryz.pinned (OpenSpec.upto planeBorderSpec)

/-- 'giornatalaw01.PlaneChanges', WHERE WHAT IT READS IS OF BULK AT MOST 1048576: true; the input reads as it did. -/
def planeChangesUptoRow : OpenClaim := { program := "ytagdfcdnfdpocaagreat", sum := "41ead502b71be6d8c9c6218388dc27d32f7acd5930ab113582b9e40e14f7bc8c", func := "giornata/giornatalaw01.PlaneChanges", spec := "planeChanges", unfollowed := true, recurses := true, plainKeys := false, apart := false, narrowed := true }
def PlaneChangesUptoSaid : Prop := planeChangesUptoRow.holds Tryz.pinned (OpenSpec.upto planeChangesSpec)

/-- 'giornatalaw01.PlaneNormals', WHERE WHAT IT READS IS OF BULK AT MOST 1048576: true; the input reads as it did. -/
def planeNormalsUptoRow : OpenClaim := { program := "ytagdfcdnfdpocaagreat", sum := "41ead502b71be6d8c9c6218388dc27d32f7acd5930ab113582b9e40e14f7bc8c", func := "giornata/giornatalaw01.PlaneNormals", spec := "planeNormals", unfollowed := true, recurses := true, plainKeys := false, apart := false, narrowed := true }
def PlaneNormalsUptoSaid : Prop := planeNormalsUptoRow.holds Tryz.pinned (OpenSpec.upto planeNormalsSpec)

/-- 'giornatalaw01.PlaneTriangles', WHERE WHAT IT READS IS OF BULK AT MOST 1048576: true; the input reads as it did. -/
def planeTrianglesUptoRow : OpenClaim := { program := "ytagdfcdnfdpocaagreat", sum := "41ead502b71be6d8c9c6218388dc27d32f7acd5930ab113582b9e40e14f7bc8c", func := "giornata/giornatalaw01.PlaneTriangles", spec := "planeTriangles", unfollowed := true, recurses := true, plainKeys := false, apart := false, narrowed := true }
def PlaneTrianglesUptoSaid : Prop := planeTrianglesUptoRow.holds Tryz.pinned (OpenSpec.upto planeTrianglesSpec)

end Rows
end Go.Proofs.YtagdfcdnfdpocaaGreat
