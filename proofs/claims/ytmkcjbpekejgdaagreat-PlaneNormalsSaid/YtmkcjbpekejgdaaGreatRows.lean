/-
  No cell of these rows narrows 'for every input' (looked for: loops, veiled, ifaces, maps, wideKeys, modest, calm, conditions, laid).
  DERIVED. THE GIVEN ROWS OF THIS SEAT. 12 by the template 'for every input the law returns true; each argument reads behind the call as it read before'; 0 by the template 'total and deterministic' (their statements: YtmkcjbpekejgdaaGreatTotals.lean).
  GIVEN WITH THE SEED: the statements are not yours to turn. If you find one false, say at which input.
  Laid BY PROGRAM, IN A SANDBOX (cutbox-rows.mjs): the forced cells as the released guide's own fill.sh prints them over the translation 33df3b4fbda93272… (all of the seat's roots in one cut). By AI agents, Wed Nov 11 2026. No macro, syntax, notation, axiom, sorry.
-/
import Derived.Test.YtmkcjbpekejgdaaGreatChecked
import GoSem.Claim
import GoSem.ClaimJoined
import GoSem.ClaimMapViews
import Derived.JoinedTies
import Derived.KernelRfl
namespace Go.Proofs.YtmkcjbpekejgdaaGreat
/- THE CELL 'sum', in the pinned program and in every row, IS THE sha256 OF THE DUMP (.gsa) THAT YtmkcjbpekejgdaaGreatProg.lean LOADS. Nothing in Lean hashes anything: it is a label: what it is worth is what the hold of that sum in a sandbox is worth. -/
noncomputable def Tryz.pinned : Pinned := { name := "ytmkcjbpekejgdaagreat", sum := "33df3b4fbda9327254b58016c88288e9690e7551116fe9a78c7bf944e93c51fb", checked := Tryz.checked }
namespace Rows
def none {H : Type} : Left H := { results := [], args := [] }

/-- 'giornatalaw01.PlanePolys': WHATEVER THE INPUT: true; the input reads as it did. -/
def planePolysSpec : ChangeSpec := { name := "planePolys", fn := fun _ => fun
  | [d] => { results := [.lit (.bool true)], args := [d] }
  | _ => none }
def planePolysRow : OpenClaim := { program := "ytmkcjbpekejgdaagreat", sum := "33df3b4fbda9327254b58016c88288e9690e7551116fe9a78c7bf944e93c51fb", func := "giornata/giornatalaw01.PlanePolys", spec := "planePolys", unfollowed := true, recurses := true, plainKeys := false, apart := false }
def PlanePolysSaid : Prop := planePolysRow.holds Tryz.pinned (OpenSpec.ofChange planePolysSpec)

/-- ITS FALSE NEIGHBOUR: 'it returns false'. Refute it at one input. -/
def planePolysWrong : ChangeSpec := { name := "planePolys", fn := fun _ => fun
  | [d] => { results := [.lit (.bool false)], args := [d] }
  | _ => none }
def PlanePolysWrongFalsely : Prop := planePolysRow.holds Tryz.pinned (OpenSpec.ofChange planePolysWrong)

/-- 'giornatalaw01.PlaneNormals': WHATEVER THE INPUT: true; the input reads as it did. -/
def planeNormalsSpec : ChangeSpec := { name := "planeNormals", fn := fun _ => fun
  | [d1, d2, d3] => { results := [.lit (.bool true)], args := [d1, d2, d3] }
  | _ => none }
def planeNormalsRow : OpenClaim := { program := "ytmkcjbpekejgdaagreat", sum := "33df3b4fbda9327254b58016c88288e9690e7551116fe9a78c7bf944e93c51fb", func := "giornata/giornatalaw01.PlaneNormals", spec := "planeNormals", unfollowed := true, recurses := true, plainKeys := false, apart := false }
def PlaneNormalsSaid : Prop := planeNormalsRow.holds Tryz.pinned (OpenSpec.ofChange planeNormalsSpec)

/-- ITS FALSE NEIGHBOUR: 'it returns false'. Refute it at one input. -/
def planeNormalsWrong : ChangeSpec := { name := "planeNormals", fn := fun _ => fun
  | [d1, d2, d3] => { results := [.lit (.bool false)], args := [d1, d2, d3] }
  | _ => none }
def PlaneNormalsWrongFalsely : Prop := planeNormalsRow.holds Tryz.pinned (OpenSpec.ofChange planeNormalsWrong)

/-- 'giornatalaw01.PlaneTriangles': WHATEVER THE INPUT: true; the input reads as it did. -/
def planeTrianglesSpec : ChangeSpec := { name := "planeTriangles", fn := fun _ => fun
  | [d] => { results := [.lit (.bool true)], args := [d] }
  | _ => none }
def planeTrianglesRow : OpenClaim := { program := "ytmkcjbpekejgdaagreat", sum := "33df3b4fbda9327254b58016c88288e9690e7551116fe9a78c7bf944e93c51fb", func := "giornata/giornatalaw01.PlaneTriangles", spec := "planeTriangles", unfollowed := true, recurses := true, plainKeys := false, apart := false }
def PlaneTrianglesSaid : Prop := planeTrianglesRow.holds Tryz.pinned (OpenSpec.ofChange planeTrianglesSpec)

/-- ITS FALSE NEIGHBOUR: 'it returns false'. Refute it at one input. -/
def planeTrianglesWrong : ChangeSpec := { name := "planeTriangles", fn := fun _ => fun
  | [d] => { results := [.lit (.bool false)], args := [d] }
  | _ => none }
def PlaneTrianglesWrongFalsely : Prop := planeTrianglesRow.holds Tryz.pinned (OpenSpec.ofChange planeTrianglesWrong)

/-- 'giornatalaw01.PlaneMoves': WHATEVER THE INPUT: true; the input reads as it did. -/
def planeMovesSpec : ChangeSpec := { name := "planeMoves", fn := fun _ => fun
  | [d1, d2, d3, d4, d5] => { results := [.lit (.bool true)], args := [d1, d2, d3, d4, d5] }
  | _ => none }
def planeMovesRow : OpenClaim := { program := "ytmkcjbpekejgdaagreat", sum := "33df3b4fbda9327254b58016c88288e9690e7551116fe9a78c7bf944e93c51fb", func := "giornata/giornatalaw01.PlaneMoves", spec := "planeMoves", unfollowed := true, recurses := true, plainKeys := false, apart := false }
def PlaneMovesSaid : Prop := planeMovesRow.holds Tryz.pinned (OpenSpec.ofChange planeMovesSpec)

/-- ITS FALSE NEIGHBOUR: 'it returns false'. Refute it at one input. -/
def planeMovesWrong : ChangeSpec := { name := "planeMoves", fn := fun _ => fun
  | [d1, d2, d3, d4, d5] => { results := [.lit (.bool false)], args := [d1, d2, d3, d4, d5] }
  | _ => none }
def PlaneMovesWrongFalsely : Prop := planeMovesRow.holds Tryz.pinned (OpenSpec.ofChange planeMovesWrong)

/-- 'giornatalaw01.PlaneHulls': WHATEVER THE INPUT: true; the input reads as it did. -/
def planeHullsSpec : ChangeSpec := { name := "planeHulls", fn := fun _ => fun
  | [d] => { results := [.lit (.bool true)], args := [d] }
  | _ => none }
def planeHullsRow : OpenClaim := { program := "ytmkcjbpekejgdaagreat", sum := "33df3b4fbda9327254b58016c88288e9690e7551116fe9a78c7bf944e93c51fb", func := "giornata/giornatalaw01.PlaneHulls", spec := "planeHulls", unfollowed := true, recurses := true, plainKeys := false, apart := false }
def PlaneHullsSaid : Prop := planeHullsRow.holds Tryz.pinned (OpenSpec.ofChange planeHullsSpec)

/-- ITS FALSE NEIGHBOUR: 'it returns false'. Refute it at one input. -/
def planeHullsWrong : ChangeSpec := { name := "planeHulls", fn := fun _ => fun
  | [d] => { results := [.lit (.bool false)], args := [d] }
  | _ => none }
def PlaneHullsWrongFalsely : Prop := planeHullsRow.holds Tryz.pinned (OpenSpec.ofChange planeHullsWrong)

/-- 'giornatalaw01.PlaneChecks': WHATEVER THE INPUT: true; the input reads as it did. -/
def planeChecksSpec : ChangeSpec := { name := "planeChecks", fn := fun _ => fun
  | [d1, d2] => { results := [.lit (.bool true)], args := [d1, d2] }
  | _ => none }
def planeChecksRow : OpenClaim := { program := "ytmkcjbpekejgdaagreat", sum := "33df3b4fbda9327254b58016c88288e9690e7551116fe9a78c7bf944e93c51fb", func := "giornata/giornatalaw01.PlaneChecks", spec := "planeChecks", unfollowed := true, recurses := true, plainKeys := false, apart := false }
def PlaneChecksSaid : Prop := planeChecksRow.holds Tryz.pinned (OpenSpec.ofChange planeChecksSpec)

/-- ITS FALSE NEIGHBOUR: 'it returns false'. Refute it at one input. -/
def planeChecksWrong : ChangeSpec := { name := "planeChecks", fn := fun _ => fun
  | [d1, d2] => { results := [.lit (.bool false)], args := [d1, d2] }
  | _ => none }
def PlaneChecksWrongFalsely : Prop := planeChecksRow.holds Tryz.pinned (OpenSpec.ofChange planeChecksWrong)

/-- 'giornatalaw01.PlaneWithin': WHATEVER THE INPUT: true; the input reads as it did. -/
def planeWithinSpec : ChangeSpec := { name := "planeWithin", fn := fun _ => fun
  | [d1, d2] => { results := [.lit (.bool true)], args := [d1, d2] }
  | _ => none }
def planeWithinRow : OpenClaim := { program := "ytmkcjbpekejgdaagreat", sum := "33df3b4fbda9327254b58016c88288e9690e7551116fe9a78c7bf944e93c51fb", func := "giornata/giornatalaw01.PlaneWithin", spec := "planeWithin", unfollowed := true, recurses := true, plainKeys := false, apart := false }
def PlaneWithinSaid : Prop := planeWithinRow.holds Tryz.pinned (OpenSpec.ofChange planeWithinSpec)

/-- ITS FALSE NEIGHBOUR: 'it returns false'. Refute it at one input. -/
def planeWithinWrong : ChangeSpec := { name := "planeWithin", fn := fun _ => fun
  | [d1, d2] => { results := [.lit (.bool false)], args := [d1, d2] }
  | _ => none }
def PlaneWithinWrongFalsely : Prop := planeWithinRow.holds Tryz.pinned (OpenSpec.ofChange planeWithinWrong)

/-- 'giornatalaw01.PlaneSplits': WHATEVER THE INPUT: true; the input reads as it did. -/
def planeSplitsSpec : ChangeSpec := { name := "planeSplits", fn := fun _ => fun
  | [d] => { results := [.lit (.bool true)], args := [d] }
  | _ => none }
def planeSplitsRow : OpenClaim := { program := "ytmkcjbpekejgdaagreat", sum := "33df3b4fbda9327254b58016c88288e9690e7551116fe9a78c7bf944e93c51fb", func := "giornata/giornatalaw01.PlaneSplits", spec := "planeSplits", unfollowed := true, recurses := true, plainKeys := false, apart := false }
def PlaneSplitsSaid : Prop := planeSplitsRow.holds Tryz.pinned (OpenSpec.ofChange planeSplitsSpec)

/-- ITS FALSE NEIGHBOUR: 'it returns false'. Refute it at one input. -/
def planeSplitsWrong : ChangeSpec := { name := "planeSplits", fn := fun _ => fun
  | [d] => { results := [.lit (.bool false)], args := [d] }
  | _ => none }
def PlaneSplitsWrongFalsely : Prop := planeSplitsRow.holds Tryz.pinned (OpenSpec.ofChange planeSplitsWrong)

/-- 'giornatalaw01.PlanePieces': WHATEVER THE INPUT: true; the input reads as it did. -/
def planePiecesSpec : ChangeSpec := { name := "planePieces", fn := fun _ => fun
  | [d] => { results := [.lit (.bool true)], args := [d] }
  | _ => none }
def planePiecesRow : OpenClaim := { program := "ytmkcjbpekejgdaagreat", sum := "33df3b4fbda9327254b58016c88288e9690e7551116fe9a78c7bf944e93c51fb", func := "giornata/giornatalaw01.PlanePieces", spec := "planePieces", unfollowed := true, recurses := true, plainKeys := false, apart := false }
def PlanePiecesSaid : Prop := planePiecesRow.holds Tryz.pinned (OpenSpec.ofChange planePiecesSpec)

/-- ITS FALSE NEIGHBOUR: 'it returns false'. Refute it at one input. -/
def planePiecesWrong : ChangeSpec := { name := "planePieces", fn := fun _ => fun
  | [d] => { results := [.lit (.bool false)], args := [d] }
  | _ => none }
def PlanePiecesWrongFalsely : Prop := planePiecesRow.holds Tryz.pinned (OpenSpec.ofChange planePiecesWrong)

/-- 'giornatalaw01.PlaneHolds': WHATEVER THE INPUT: true; the input reads as it did. -/
def planeHoldsSpec : ChangeSpec := { name := "planeHolds", fn := fun _ => fun
  | [d] => { results := [.lit (.bool true)], args := [d] }
  | _ => none }
def planeHoldsRow : OpenClaim := { program := "ytmkcjbpekejgdaagreat", sum := "33df3b4fbda9327254b58016c88288e9690e7551116fe9a78c7bf944e93c51fb", func := "giornata/giornatalaw01.PlaneHolds", spec := "planeHolds", unfollowed := true, recurses := true, plainKeys := false, apart := false }
def PlaneHoldsSaid : Prop := planeHoldsRow.holds Tryz.pinned (OpenSpec.ofChange planeHoldsSpec)

/-- ITS FALSE NEIGHBOUR: 'it returns false'. Refute it at one input. -/
def planeHoldsWrong : ChangeSpec := { name := "planeHolds", fn := fun _ => fun
  | [d] => { results := [.lit (.bool false)], args := [d] }
  | _ => none }
def PlaneHoldsWrongFalsely : Prop := planeHoldsRow.holds Tryz.pinned (OpenSpec.ofChange planeHoldsWrong)

/-- 'giornatalaw01.PlaneSweeps': WHATEVER THE INPUT: true; the input reads as it did. -/
def planeSweepsSpec : ChangeSpec := { name := "planeSweeps", fn := fun _ => fun
  | [d1, d2] => { results := [.lit (.bool true)], args := [d1, d2] }
  | _ => none }
def planeSweepsRow : OpenClaim := { program := "ytmkcjbpekejgdaagreat", sum := "33df3b4fbda9327254b58016c88288e9690e7551116fe9a78c7bf944e93c51fb", func := "giornata/giornatalaw01.PlaneSweeps", spec := "planeSweeps", unfollowed := true, recurses := true, plainKeys := false, apart := false }
def PlaneSweepsSaid : Prop := planeSweepsRow.holds Tryz.pinned (OpenSpec.ofChange planeSweepsSpec)

/-- ITS FALSE NEIGHBOUR: 'it returns false'. Refute it at one input. -/
def planeSweepsWrong : ChangeSpec := { name := "planeSweeps", fn := fun _ => fun
  | [d1, d2] => { results := [.lit (.bool false)], args := [d1, d2] }
  | _ => none }
def PlaneSweepsWrongFalsely : Prop := planeSweepsRow.holds Tryz.pinned (OpenSpec.ofChange planeSweepsWrong)

/-- 'giornatalaw01.PlaneMemory': WHATEVER THE INPUT: true; the input reads as it did. -/
def planeMemorySpec : ChangeSpec := { name := "planeMemory", fn := fun _ => fun
  | [d1, d2] => { results := [.lit (.bool true)], args := [d1, d2] }
  | _ => none }
def planeMemoryRow : OpenClaim := { program := "ytmkcjbpekejgdaagreat", sum := "33df3b4fbda9327254b58016c88288e9690e7551116fe9a78c7bf944e93c51fb", func := "giornata/giornatalaw01.PlaneMemory", spec := "planeMemory", unfollowed := true, recurses := true, plainKeys := false, apart := false }
def PlaneMemorySaid : Prop := planeMemoryRow.holds Tryz.pinned (OpenSpec.ofChange planeMemorySpec)

/-- ITS FALSE NEIGHBOUR: 'it returns false'. Refute it at one input. -/
def planeMemoryWrong : ChangeSpec := { name := "planeMemory", fn := fun _ => fun
  | [d1, d2] => { results := [.lit (.bool false)], args := [d1, d2] }
  | _ => none }
def PlaneMemoryWrongFalsely : Prop := planeMemoryRow.holds Tryz.pinned (OpenSpec.ofChange planeMemoryWrong)

/- THE SECOND FORM. 'bulk': how many values and letters a reading holds, each counted each time it is reached (what is shared counts as often as it is met; a slice's spare places count too). A statement '..UptoSaid' is the law's where the arguments, and the package variables that the reading takes, are together of bulk at most 1048576: NARROWER than '..Said'. Prove '..Said' where nothing that the law and all that it calls make is longer than what came in: it says more and counts as full. Else prove '..UptoSaid'. A law counts once. -/
mutual
def uptoBulk {H : Type} : DataW H → Nat
  | .lit (.string bytes) => bytes.length + 1
  | .lit _ => 1
  | .nil => 1
  | .ptr d => uptoBulk d + 1
  | .slice elems spare => uptoBulkAll elems + uptoBulkAll spare + 1
  | .agg parts => uptoBulkAll parts + 1
  | .iface _ d => uptoBulk d + 1
  | .map entries => uptoBulkEntries entries + 1
  | .held _ => 1
def uptoBulkAll {H : Type} : List (DataW H) → Nat
  | [] => 0
  | d :: r => uptoBulk d + uptoBulkAll r
def uptoBulkEntries {H : Type} : List (Lit × DataW H) → Nat
  | [] => 0
  | x :: r => uptoBulkEntry x + uptoBulkEntries r
def uptoBulkEntry {H : Type} : Lit × DataW H → Nat
  | (.string bytes, d) => bytes.length + uptoBulk d + 1
  | (_, d) => uptoBulk d + 1
 end
def uptoSmall : (H : Type) → List (DataW H) → Bool := fun _ ds => decide (uptoBulkAll ds ≤ 1048576)
def OpenSpec.upto (s : _root_.Go.ChangeSpec) : _root_.Go.OpenSpec := { _root_.Go.OpenSpec.ofChange s with cond := some uptoSmall }

/-- 'giornatalaw01.PlanePolys', WHERE WHAT IT READS IS OF BULK AT MOST 1048576: true; the input reads as it did. -/
def planePolysUptoRow : OpenClaim := { program := "ytmkcjbpekejgdaagreat", sum := "33df3b4fbda9327254b58016c88288e9690e7551116fe9a78c7bf944e93c51fb", func := "giornata/giornatalaw01.PlanePolys", spec := "planePolys", unfollowed := true, recurses := true, plainKeys := false, apart := false, narrowed := true }
def PlanePolysUptoSaid : Prop := planePolysUptoRow.holds Tryz.pinned (OpenSpec.upto planePolysSpec)

/-- 'giornatalaw01.PlaneNormals', WHERE WHAT IT READS IS OF BULK AT MOST 1048576: true; the input reads as it did. -/
def planeNormalsUptoRow : OpenClaim := { program := "ytmkcjbpekejgdaagreat", sum := "33df3b4fbda9327254b58016c88288e9690e7551116fe9a78c7bf944e93c51fb", func := "giornata/giornatalaw01.PlaneNormals", spec := "planeNormals", unfollowed := true, recurses := true, plainKeys := false, apart := false, narrowed := true }
def PlaneNormalsUptoSaid : Prop := planeNormalsUptoRow.holds Tryz.pinned (OpenSpec.upto planeNormalsSpec)

/-- 'giornatalaw01.PlaneTriangles', WHERE WHAT IT READS IS OF BULK AT MOST 1048576: true; the input reads as it did. -/
def planeTrianglesUptoRow : OpenClaim := { program := "ytmkcjbpekejgdaagreat", sum := "33df3b4fbda9327254b58016c88288e9690e7551116fe9a78c7bf944e93c51fb", func := "giornata/giornatalaw01.PlaneTriangles", spec := "planeTriangles", unfollowed := true, recurses := true, plainKeys := false, apart := false, narrowed := true }
def PlaneTrianglesUptoSaid : Prop := planeTrianglesUptoRow.holds Tryz.pinned (OpenSpec.upto planeTrianglesSpec)

/-- 'giornatalaw01.PlaneMoves', WHERE WHAT IT READS IS OF BULK AT MOST 1048576: true; the input reads as it did. -/
def planeMovesUptoRow : OpenClaim := { program := "ytmkcjbpekejgdaagreat", sum := "33df3b4fbda9327254b58016c88288e9690e7551116fe9a78c7bf944e93c51fb", func := "giornata/giornatalaw01.PlaneMoves", spec := "planeMoves", unfollowed := true, recurses := true, plainKeys := false, apart := false, narrowed := true }
def PlaneMovesUptoSaid : Prop := planeMovesUptoRow.holds Tryz.pinned (OpenSpec.upto planeMovesSpec)

/-- 'giornatalaw01.PlaneHulls', WHERE WHAT IT READS IS OF BULK AT MOST 1048576: true; the input reads as it did. -/
def planeHullsUptoRow : OpenClaim := { program := "ytmkcjbpekejgdaagreat", sum := "33df3b4fbda9327254b58016c88288e9690e7551116fe9a78c7bf944e93c51fb", func := "giornata/giornatalaw01.PlaneHulls", spec := "planeHulls", unfollowed := true, recurses := true, plainKeys := false, apart := false, narrowed := true }
def PlaneHullsUptoSaid : Prop := planeHullsUptoRow.holds Tryz.pinned (OpenSpec.upto planeHullsSpec)

/-- 'giornatalaw01.PlaneChecks', WHERE WHAT IT READS IS OF BULK AT MOST 1048576: true; the input reads as it did. -/
def planeChecksUptoRow : OpenClaim := { program := "ytmkcjbpekejgdaagreat", sum := "33df3b4fbda9327254b58016c88288e9690e7551116fe9a78c7bf944e93c51fb", func := "giornata/giornatalaw01.PlaneChecks", spec := "planeChecks", unfollowed := true, recurses := true, plainKeys := false, apart := false, narrowed := true }
def PlaneChecksUptoSaid : Prop := planeChecksUptoRow.holds Tryz.pinned (OpenSpec.upto planeChecksSpec)

/-- 'giornatalaw01.PlaneWithin', WHERE WHAT IT READS IS OF BULK AT MOST 1048576: true; the input reads as it did. -/
def planeWithinUptoRow : OpenClaim := { program := "ytmkcjbpekejgdaagreat", sum := "33df3b4fbda9327254b58016c88288e9690e7551116fe9a78c7bf944e93c51fb", func := "giornata/giornatalaw01.PlaneWithin", spec := "planeWithin", unfollowed := true, recurses := true, plainKeys := false, apart := false, narrowed := true }
def PlaneWithinUptoSaid : Prop := planeWithinUptoRow.holds Tryz.pinned (OpenSpec.upto planeWithinSpec)

/-- 'giornatalaw01.PlaneSplits', WHERE WHAT IT READS IS OF BULK AT MOST 1048576: true; the input reads as it did. -/
def planeSplitsUptoRow : OpenClaim := { program := "ytmkcjbpekejgdaagreat", sum := "33df3b4fbda9327254b58016c88288e9690e7551116fe9a78c7bf944e93c51fb", func := "giornata/giornatalaw01.PlaneSplits", spec := "planeSplits", unfollowed := true, recurses := true, plainKeys := false, apart := false, narrowed := true }
def PlaneSplitsUptoSaid : Prop := planeSplitsUptoRow.holds Tryz.pinned (OpenSpec.upto planeSplitsSpec)

/-- 'giornatalaw01.PlanePieces', WHERE WHAT IT READS IS OF BULK AT MOST 1048576: true; the input reads as it did. -/
def planePiecesUptoRow : OpenClaim := { program := "ytmkcjbpekejgdaagreat", sum := "33df3b4fbda9327254b58016c88288e9690e7551116fe9a78c7bf944e93c51fb", func := "giornata/giornatalaw01.PlanePieces", spec := "planePieces", unfollowed := true, recurses := true, plainKeys := false, apart := false, narrowed := true }
def PlanePiecesUptoSaid : Prop := planePiecesUptoRow.holds Tryz.pinned (OpenSpec.upto planePiecesSpec)

/-- 'giornatalaw01.PlaneHolds', WHERE WHAT IT READS IS OF BULK AT MOST 1048576: true; the input reads as it did. -/
def planeHoldsUptoRow : OpenClaim := { program := "ytmkcjbpekejgdaagreat", sum := "33df3b4fbda9327254b58016c88288e9690e7551116fe9a78c7bf944e93c51fb", func := "giornata/giornatalaw01.PlaneHolds", spec := "planeHolds", unfollowed := true, recurses := true, plainKeys := false, apart := false, narrowed := true }
def PlaneHoldsUptoSaid : Prop := planeHoldsUptoRow.holds Tryz.pinned (OpenSpec.upto planeHoldsSpec)

/-- 'giornatalaw01.PlaneSweeps', WHERE WHAT IT READS IS OF BULK AT MOST 1048576: true; the input reads as it did. -/
def planeSweepsUptoRow : OpenClaim := { program := "ytmkcjbpekejgdaagreat", sum := "33df3b4fbda9327254b58016c88288e9690e7551116fe9a78c7bf944e93c51fb", func := "giornata/giornatalaw01.PlaneSweeps", spec := "planeSweeps", unfollowed := true, recurses := true, plainKeys := false, apart := false, narrowed := true }
def PlaneSweepsUptoSaid : Prop := planeSweepsUptoRow.holds Tryz.pinned (OpenSpec.upto planeSweepsSpec)

/-- 'giornatalaw01.PlaneMemory', WHERE WHAT IT READS IS OF BULK AT MOST 1048576: true; the input reads as it did. -/
def planeMemoryUptoRow : OpenClaim := { program := "ytmkcjbpekejgdaagreat", sum := "33df3b4fbda9327254b58016c88288e9690e7551116fe9a78c7bf944e93c51fb", func := "giornata/giornatalaw01.PlaneMemory", spec := "planeMemory", unfollowed := true, recurses := true, plainKeys := false, apart := false, narrowed := true }
def PlaneMemoryUptoSaid : Prop := planeMemoryUptoRow.holds Tryz.pinned (OpenSpec.upto planeMemorySpec)

end Rows
end Go.Proofs.YtmkcjbpekejgdaaGreat
