/-
  No cell of these rows narrows 'for every input' (looked for: loops, veiled, ifaces, maps, wideKeys, modest, calm, conditions, laid).
  DERIVED. THE GIVEN ROWS OF THIS SEAT. 5 by the template 'for every input the law returns true; each argument reads behind the call as it read before'; 0 by the template 'total and deterministic' (their statements: YtoekkmbbbllogaaGreatTotals.lean).
  GIVEN WITH THE SEED: the statements are not yours to turn. If you find one false, say at which input.
  Laid BY PROGRAM, IN A SANDBOX (cutbox-rows.mjs): the forced cells as the released guide's own fill.sh prints them over the translation 95b677f4a42b147a… (all of the seat's roots in one cut). By AI agents, Wed Nov 11 2026. No macro, syntax, notation, axiom, sorry.
-/
import Derived.Test.YtoekkmbbbllogaaGreatChecked
import GoSem.Claim
import GoSem.ClaimJoined
import GoSem.ClaimMapViews
import Derived.JoinedTies
import Derived.KernelRfl
namespace Go.Proofs.YtoekkmbbbllogaaGreat
/- THE CELL 'sum', in the pinned program and in every row, IS THE sha256 OF THE DUMP (.gsa) THAT YtoekkmbbbllogaaGreatProg.lean LOADS. Nothing in Lean hashes anything: it is a label: what it is worth is what the hold of that sum in a sandbox is worth. -/
noncomputable def Tryz.pinned : Pinned := { name := "ytoekkmbbbllogaagreat", sum := "95b677f4a42b147a0dd610b7dd42b5fe2b5ef81389080f38525e1b7ec427bd21", checked := Tryz.checked }
namespace Rows
def none {H : Type} : Left H := { results := [], args := [] }

/-- 'giornatalaw01.PlaneAreas': WHATEVER THE INPUT: true; the input reads as it did. -/
def planeAreasSpec : ChangeSpec := { name := "planeAreas", fn := fun _ => fun
  | [d1, d2] => { results := [.lit (.bool true)], args := [d1, d2] }
  | _ => none }
def planeAreasRow : OpenClaim := { program := "ytoekkmbbbllogaagreat", sum := "95b677f4a42b147a0dd610b7dd42b5fe2b5ef81389080f38525e1b7ec427bd21", func := "giornata/giornatalaw01.PlaneAreas", spec := "planeAreas", unfollowed := true, recurses := true, plainKeys := false, apart := false }
def PlaneAreasSaid : Prop := planeAreasRow.holds Tryz.pinned (OpenSpec.ofChange planeAreasSpec)

/-- ITS FALSE NEIGHBOUR: 'it returns false'. Refute it at one input. -/
def planeAreasWrong : ChangeSpec := { name := "planeAreas", fn := fun _ => fun
  | [d1, d2] => { results := [.lit (.bool false)], args := [d1, d2] }
  | _ => none }
def PlaneAreasWrongFalsely : Prop := planeAreasRow.holds Tryz.pinned (OpenSpec.ofChange planeAreasWrong)

/-- 'giornatalaw01.PlaneCovers': WHATEVER THE INPUT: true; the input reads as it did. -/
def planeCoversSpec : ChangeSpec := { name := "planeCovers", fn := fun _ => fun
  | [d1, d2, d3] => { results := [.lit (.bool true)], args := [d1, d2, d3] }
  | _ => none }
def planeCoversRow : OpenClaim := { program := "ytoekkmbbbllogaagreat", sum := "95b677f4a42b147a0dd610b7dd42b5fe2b5ef81389080f38525e1b7ec427bd21", func := "giornata/giornatalaw01.PlaneCovers", spec := "planeCovers", unfollowed := true, recurses := true, plainKeys := false, apart := false }
def PlaneCoversSaid : Prop := planeCoversRow.holds Tryz.pinned (OpenSpec.ofChange planeCoversSpec)

/-- ITS FALSE NEIGHBOUR: 'it returns false'. Refute it at one input. -/
def planeCoversWrong : ChangeSpec := { name := "planeCovers", fn := fun _ => fun
  | [d1, d2, d3] => { results := [.lit (.bool false)], args := [d1, d2, d3] }
  | _ => none }
def PlaneCoversWrongFalsely : Prop := planeCoversRow.holds Tryz.pinned (OpenSpec.ofChange planeCoversWrong)

/-- 'giornatalaw01.PlaneSweeps': WHATEVER THE INPUT: true; the input reads as it did. -/
def planeSweepsSpec : ChangeSpec := { name := "planeSweeps", fn := fun _ => fun
  | [d1, d2] => { results := [.lit (.bool true)], args := [d1, d2] }
  | _ => none }
def planeSweepsRow : OpenClaim := { program := "ytoekkmbbbllogaagreat", sum := "95b677f4a42b147a0dd610b7dd42b5fe2b5ef81389080f38525e1b7ec427bd21", func := "giornata/giornatalaw01.PlaneSweeps", spec := "planeSweeps", unfollowed := true, recurses := true, plainKeys := false, apart := false }
def PlaneSweepsSaid : Prop := planeSweepsRow.holds Tryz.pinned (OpenSpec.ofChange planeSweepsSpec)

/-- ITS FALSE NEIGHBOUR: 'it returns false'. Refute it at one input. -/
def planeSweepsWrong : ChangeSpec := { name := "planeSweeps", fn := fun _ => fun
  | [d1, d2] => { results := [.lit (.bool false)], args := [d1, d2] }
  | _ => none }
def PlaneSweepsWrongFalsely : Prop := planeSweepsRow.holds Tryz.pinned (OpenSpec.ofChange planeSweepsWrong)

/-- 'giornatalaw01.PlaneSwept': WHATEVER THE INPUT: true; the input reads as it did. -/
def planeSweptSpec : ChangeSpec := { name := "planeSwept", fn := fun _ => fun
  | [d1, d2] => { results := [.lit (.bool true)], args := [d1, d2] }
  | _ => none }
def planeSweptRow : OpenClaim := { program := "ytoekkmbbbllogaagreat", sum := "95b677f4a42b147a0dd610b7dd42b5fe2b5ef81389080f38525e1b7ec427bd21", func := "giornata/giornatalaw01.PlaneSwept", spec := "planeSwept", unfollowed := true, recurses := true, plainKeys := false, apart := false }
def PlaneSweptSaid : Prop := planeSweptRow.holds Tryz.pinned (OpenSpec.ofChange planeSweptSpec)

/-- ITS FALSE NEIGHBOUR: 'it returns false'. Refute it at one input. -/
def planeSweptWrong : ChangeSpec := { name := "planeSwept", fn := fun _ => fun
  | [d1, d2] => { results := [.lit (.bool false)], args := [d1, d2] }
  | _ => none }
def PlaneSweptWrongFalsely : Prop := planeSweptRow.holds Tryz.pinned (OpenSpec.ofChange planeSweptWrong)

/-- 'giornatalaw01.PlaneMemory': WHATEVER THE INPUT: true; the input reads as it did. -/
def planeMemorySpec : ChangeSpec := { name := "planeMemory", fn := fun _ => fun
  | [d1, d2] => { results := [.lit (.bool true)], args := [d1, d2] }
  | _ => none }
def planeMemoryRow : OpenClaim := { program := "ytoekkmbbbllogaagreat", sum := "95b677f4a42b147a0dd610b7dd42b5fe2b5ef81389080f38525e1b7ec427bd21", func := "giornata/giornatalaw01.PlaneMemory", spec := "planeMemory", unfollowed := true, recurses := true, plainKeys := false, apart := false }
def PlaneMemorySaid : Prop := planeMemoryRow.holds Tryz.pinned (OpenSpec.ofChange planeMemorySpec)

/-- ITS FALSE NEIGHBOUR: 'it returns false'. Refute it at one input. -/
def planeMemoryWrong : ChangeSpec := { name := "planeMemory", fn := fun _ => fun
  | [d1, d2] => { results := [.lit (.bool false)], args := [d1, d2] }
  | _ => none }
def PlaneMemoryWrongFalsely : Prop := planeMemoryRow.holds Tryz.pinned (OpenSpec.ofChange planeMemoryWrong)

/- THE SECOND FORM. 'bulk': how many values and letters a reading holds, each counted each time it is reached (what is shared counts as often as it is met; a slice's spare places count too). A statement '..UptoSaid' is the law's where the arguments, and the package variables that the reading takes, are together of bulk at most 1048576: NARROWER than '..Said'. Prove '..Said' where nothing that the law and all that it calls make is longer than what came in: it says more and counts as full. Else prove '..UptoSaid'. A law counts once. -/
mutual
def uptoBulk {H : Type} : DataW H → Nat
  | .lit (.string bytes) => bytes.length + 1
  | .lit _ => 1
  | .nil => 1
  | .ptr d => uptoBulk d + 1
  | .slice elems spare => uptoBulkAll elems + uptoBulkAll spare + 1
  | .agg parts => uptoBulkAll parts + 1
  | .iface _ d => uptoBulk d + 1
  | .map entries => uptoBulkEntries entries + 1
  | .held _ => 1
def uptoBulkAll {H : Type} : List (DataW H) → Nat
  | [] => 0
  | d :: r => uptoBulk d + uptoBulkAll r
def uptoBulkEntries {H : Type} : List (Lit × DataW H) → Nat
  | [] => 0
  | x :: r => uptoBulkEntry x + uptoBulkEntries r
def uptoBulkEntry {H : Type} : Lit × DataW H → Nat
  | (.string bytes, d) => bytes.length + uptoBulk d + 1
  | (_, d) => uptoBulk d + 1
 end
def uptoSmall : (H : Type) → List (DataW H) → Bool := fun _ ds => decide (uptoBulkAll ds ≤ 1048576)
def OpenSpec.upto (s : _root_.Go.ChangeSpec) : _root_.Go.OpenSpec := { _root_.Go.OpenSpec.ofChange s with cond := some uptoSmall }

/-- 'giornatalaw01.PlaneAreas', WHERE WHAT IT READS IS OF BULK AT MOST 1048576: true; the input reads as it did. -/
def planeAreasUptoRow : OpenClaim := { program := "ytoekkmbbbllogaagreat", sum := "95b677f4a42b147a0dd610b7dd42b5fe2b5ef81389080f38525e1b7ec427bd21", func := "giornata/giornatalaw01.PlaneAreas", spec := "planeAreas", unfollowed := true, recurses := true, plainKeys := false, apart := false, narrowed := true }
def PlaneAreasUptoSaid : Prop := planeAreasUptoRow.holds Tryz.pinned (OpenSpec.upto planeAreasSpec)

/-- 'giornatalaw01.PlaneCovers', WHERE WHAT IT READS IS OF BULK AT MOST 1048576: true; the input reads as it did. -/
def planeCoversUptoRow : OpenClaim := { program := "ytoekkmbbbllogaagreat", sum := "95b677f4a42b147a0dd610b7dd42b5fe2b5ef81389080f38525e1b7ec427bd21", func := "giornata/giornatalaw01.PlaneCovers", spec := "planeCovers", unfollowed := true, recurses := true, plainKeys := false, apart := false, narrowed := true }
def PlaneCoversUptoSaid : Prop := planeCoversUptoRow.holds Tryz.pinned (OpenSpec.upto planeCoversSpec)

/-- 'giornatalaw01.PlaneSweeps', WHERE WHAT IT READS IS OF BULK AT MOST 1048576: true; the input reads as it did. -/
def planeSweepsUptoRow : OpenClaim := { program := "ytoekkmbbbllogaagreat", sum := "95b677f4a42b147a0dd610b7dd42b5fe2b5ef81389080f38525e1b7ec427bd21", func := "giornata/giornatalaw01.PlaneSweeps", spec := "planeSweeps", unfollowed := true, recurses := true, plainKeys := false, apart := false, narrowed := true }
def PlaneSweepsUptoSaid : Prop := planeSweepsUptoRow.holds Tryz.pinned (OpenSpec.upto planeSweepsSpec)

/-- 'giornatalaw01.PlaneSwept', WHERE WHAT IT READS IS OF BULK AT MOST 1048576: true; the input reads as it did. -/
def planeSweptUptoRow : OpenClaim := { program := "ytoekkmbbbllogaagreat", sum := "95b677f4a42b147a0dd610b7dd42b5fe2b5ef81389080f38525e1b7ec427bd21", func := "giornata/giornatalaw01.PlaneSwept", spec := "planeSwept", unfollowed := true, recurses := true, plainKeys := false, apart := false, narrowed := true }
def PlaneSweptUptoSaid : Prop := planeSweptUptoRow.holds Tryz.pinned (OpenSpec.upto planeSweptSpec)

/-- 'giornatalaw01.PlaneMemory', WHERE WHAT IT READS IS OF BULK AT MOST 1048576: true; the input reads as it did. -/
def planeMemoryUptoRow : OpenClaim := { program := "ytoekkmbbbllogaagreat", sum := "95b677f4a42b147a0dd610b7dd42b5fe2b5ef81389080f38525e1b7ec427bd21", func := "giornata/giornatalaw01.PlaneMemory", spec := "planeMemory", unfollowed := true, recurses := true, plainKeys := false, apart := false, narrowed := true }
def PlaneMemoryUptoSaid : Prop := planeMemoryUptoRow.holds Tryz.pinned (OpenSpec.upto planeMemorySpec)

end Rows
end Go.Proofs.YtoekkmbbbllogaaGreat
