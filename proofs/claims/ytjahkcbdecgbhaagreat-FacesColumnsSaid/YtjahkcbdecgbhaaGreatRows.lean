/-
  No cell of these rows narrows 'for every input' (looked for: loops, veiled, ifaces, maps, wideKeys, modest, calm, conditions, laid).
  DERIVED. THE GIVEN ROWS OF THIS SEAT. 12 by the template 'for every input the law returns true; each argument reads behind the call as it read before'; 0 by the template 'total and deterministic' (their statements: YtjahkcbdecgbhaaGreatTotals.lean).
  GIVEN WITH THE SEED: the statements are not yours to turn. If you find one false, say at which input.
  Laid BY PROGRAM, IN A SANDBOX (cutbox-rows.mjs): the forced cells as the released guide's own fill.sh prints them over the translation deed02294dfd9592… (all of the seat's roots in one cut). By AI agents, Wed Nov 11 2026. No macro, syntax, notation, axiom, sorry.
-/
import Derived.Test.YtjahkcbdecgbhaaGreatChecked
import GoSem.Claim
import GoSem.ClaimJoined
import GoSem.ClaimMapViews
import Derived.JoinedTies
import Derived.KernelRfl
namespace Go.Proofs.YtjahkcbdecgbhaaGreat
/- THE CELL 'sum', in the pinned program and in every row, IS THE sha256 OF THE DUMP (.gsa) THAT YtjahkcbdecgbhaaGreatProg.lean LOADS. Nothing in Lean hashes anything: it is a label: what it is worth is what the hold of that sum in a sandbox is worth. -/
noncomputable def Tryz.pinned : Pinned := { name := "ytjahkcbdecgbhaagreat", sum := "deed02294dfd95926fc38cdebe5c5672ba7417ef64a7177bc93ba1ae3155a50f", checked := Tryz.checked }
namespace Rows
def none {H : Type} : Left H := { results := [], args := [] }

/-- 'giornatalaw02.FacesCheck': WHATEVER THE INPUT: true; the input reads as it did. -/
def facesCheckSpec : ChangeSpec := { name := "facesCheck", fn := fun _ => fun
  | [d] => { results := [.lit (.bool true)], args := [d] }
  | _ => none }
def facesCheckRow : OpenClaim := { program := "ytjahkcbdecgbhaagreat", sum := "deed02294dfd95926fc38cdebe5c5672ba7417ef64a7177bc93ba1ae3155a50f", func := "giornata/giornatalaw02.FacesCheck", spec := "facesCheck", unfollowed := true, recurses := true, plainKeys := false, apart := false }
def FacesCheckSaid : Prop := facesCheckRow.holds Tryz.pinned (OpenSpec.ofChange facesCheckSpec)

/-- ITS FALSE NEIGHBOUR: 'it returns false'. Refute it at one input. -/
def facesCheckWrong : ChangeSpec := { name := "facesCheck", fn := fun _ => fun
  | [d] => { results := [.lit (.bool false)], args := [d] }
  | _ => none }
def FacesCheckWrongFalsely : Prop := facesCheckRow.holds Tryz.pinned (OpenSpec.ofChange facesCheckWrong)

/-- 'giornatalaw02.FacesColumns': WHATEVER THE INPUT: true; the input reads as it did. -/
def facesColumnsSpec : ChangeSpec := { name := "facesColumns", fn := fun _ => fun
  | [d1, d2] => { results := [.lit (.bool true)], args := [d1, d2] }
  | _ => none }
def facesColumnsRow : OpenClaim := { program := "ytjahkcbdecgbhaagreat", sum := "deed02294dfd95926fc38cdebe5c5672ba7417ef64a7177bc93ba1ae3155a50f", func := "giornata/giornatalaw02.FacesColumns", spec := "facesColumns", unfollowed := true, recurses := true, plainKeys := false, apart := false }
def FacesColumnsSaid : Prop := facesColumnsRow.holds Tryz.pinned (OpenSpec.ofChange facesColumnsSpec)

/-- ITS FALSE NEIGHBOUR: 'it returns false'. Refute it at one input. -/
def facesColumnsWrong : ChangeSpec := { name := "facesColumns", fn := fun _ => fun
  | [d1, d2] => { results := [.lit (.bool false)], args := [d1, d2] }
  | _ => none }
def FacesColumnsWrongFalsely : Prop := facesColumnsRow.holds Tryz.pinned (OpenSpec.ofChange facesColumnsWrong)

/-- 'giornatalaw02.FacesWalks': WHATEVER THE INPUT: true; the input reads as it did. -/
def facesWalksSpec : ChangeSpec := { name := "facesWalks", fn := fun _ => fun
  | [d1, d2, d3] => { results := [.lit (.bool true)], args := [d1, d2, d3] }
  | _ => none }
def facesWalksRow : OpenClaim := { program := "ytjahkcbdecgbhaagreat", sum := "deed02294dfd95926fc38cdebe5c5672ba7417ef64a7177bc93ba1ae3155a50f", func := "giornata/giornatalaw02.FacesWalks", spec := "facesWalks", unfollowed := true, recurses := true, plainKeys := false, apart := false }
def FacesWalksSaid : Prop := facesWalksRow.holds Tryz.pinned (OpenSpec.ofChange facesWalksSpec)

/-- ITS FALSE NEIGHBOUR: 'it returns false'. Refute it at one input. -/
def facesWalksWrong : ChangeSpec := { name := "facesWalks", fn := fun _ => fun
  | [d1, d2, d3] => { results := [.lit (.bool false)], args := [d1, d2, d3] }
  | _ => none }
def FacesWalksWrongFalsely : Prop := facesWalksRow.holds Tryz.pinned (OpenSpec.ofChange facesWalksWrong)

/-- 'giornatalaw02.FacesEdges': WHATEVER THE INPUT: true; the input reads as it did. -/
def facesEdgesSpec : ChangeSpec := { name := "facesEdges", fn := fun _ => fun
  | [d1, d2, d3, d4] => { results := [.lit (.bool true)], args := [d1, d2, d3, d4] }
  | _ => none }
def facesEdgesRow : OpenClaim := { program := "ytjahkcbdecgbhaagreat", sum := "deed02294dfd95926fc38cdebe5c5672ba7417ef64a7177bc93ba1ae3155a50f", func := "giornata/giornatalaw02.FacesEdges", spec := "facesEdges", unfollowed := true, recurses := true, plainKeys := false, apart := false }
def FacesEdgesSaid : Prop := facesEdgesRow.holds Tryz.pinned (OpenSpec.ofChange facesEdgesSpec)

/-- ITS FALSE NEIGHBOUR: 'it returns false'. Refute it at one input. -/
def facesEdgesWrong : ChangeSpec := { name := "facesEdges", fn := fun _ => fun
  | [d1, d2, d3, d4] => { results := [.lit (.bool false)], args := [d1, d2, d3, d4] }
  | _ => none }
def FacesEdgesWrongFalsely : Prop := facesEdgesRow.holds Tryz.pinned (OpenSpec.ofChange facesEdgesWrong)

/-- 'giornatalaw02.FacesWithout': WHATEVER THE INPUT: true; the input reads as it did. -/
def facesWithoutSpec : ChangeSpec := { name := "facesWithout", fn := fun _ => fun
  | [d1, d2] => { results := [.lit (.bool true)], args := [d1, d2] }
  | _ => none }
def facesWithoutRow : OpenClaim := { program := "ytjahkcbdecgbhaagreat", sum := "deed02294dfd95926fc38cdebe5c5672ba7417ef64a7177bc93ba1ae3155a50f", func := "giornata/giornatalaw02.FacesWithout", spec := "facesWithout", unfollowed := true, recurses := true, plainKeys := false, apart := false }
def FacesWithoutSaid : Prop := facesWithoutRow.holds Tryz.pinned (OpenSpec.ofChange facesWithoutSpec)

/-- ITS FALSE NEIGHBOUR: 'it returns false'. Refute it at one input. -/
def facesWithoutWrong : ChangeSpec := { name := "facesWithout", fn := fun _ => fun
  | [d1, d2] => { results := [.lit (.bool false)], args := [d1, d2] }
  | _ => none }
def FacesWithoutWrongFalsely : Prop := facesWithoutRow.holds Tryz.pinned (OpenSpec.ofChange facesWithoutWrong)

/-- 'giornatalaw02.FacesChanges': WHATEVER THE INPUT: true; the input reads as it did. -/
def facesChangesSpec : ChangeSpec := { name := "facesChanges", fn := fun _ => fun
  | [d1, d2, d3, d4] => { results := [.lit (.bool true)], args := [d1, d2, d3, d4] }
  | _ => none }
def facesChangesRow : OpenClaim := { program := "ytjahkcbdecgbhaagreat", sum := "deed02294dfd95926fc38cdebe5c5672ba7417ef64a7177bc93ba1ae3155a50f", func := "giornata/giornatalaw02.FacesChanges", spec := "facesChanges", unfollowed := true, recurses := true, plainKeys := false, apart := false }
def FacesChangesSaid : Prop := facesChangesRow.holds Tryz.pinned (OpenSpec.ofChange facesChangesSpec)

/-- ITS FALSE NEIGHBOUR: 'it returns false'. Refute it at one input. -/
def facesChangesWrong : ChangeSpec := { name := "facesChanges", fn := fun _ => fun
  | [d1, d2, d3, d4] => { results := [.lit (.bool false)], args := [d1, d2, d3, d4] }
  | _ => none }
def FacesChangesWrongFalsely : Prop := facesChangesRow.holds Tryz.pinned (OpenSpec.ofChange facesChangesWrong)

/-- 'giornatalaw02.FacesMemory': WHATEVER THE INPUT: true; the input reads as it did. -/
def facesMemorySpec : ChangeSpec := { name := "facesMemory", fn := fun _ => fun
  | [d1, d2, d3] => { results := [.lit (.bool true)], args := [d1, d2, d3] }
  | _ => none }
def facesMemoryRow : OpenClaim := { program := "ytjahkcbdecgbhaagreat", sum := "deed02294dfd95926fc38cdebe5c5672ba7417ef64a7177bc93ba1ae3155a50f", func := "giornata/giornatalaw02.FacesMemory", spec := "facesMemory", unfollowed := true, recurses := true, plainKeys := false, apart := false }
def FacesMemorySaid : Prop := facesMemoryRow.holds Tryz.pinned (OpenSpec.ofChange facesMemorySpec)

/-- ITS FALSE NEIGHBOUR: 'it returns false'. Refute it at one input. -/
def facesMemoryWrong : ChangeSpec := { name := "facesMemory", fn := fun _ => fun
  | [d1, d2, d3] => { results := [.lit (.bool false)], args := [d1, d2, d3] }
  | _ => none }
def FacesMemoryWrongFalsely : Prop := facesMemoryRow.holds Tryz.pinned (OpenSpec.ofChange facesMemoryWrong)

/-- 'giornatalaw02.FacesWays': WHATEVER THE INPUT: true; the input reads as it did. -/
def facesWaysSpec : ChangeSpec := { name := "facesWays", fn := fun _ => fun
  | [d1, d2, d3] => { results := [.lit (.bool true)], args := [d1, d2, d3] }
  | _ => none }
def facesWaysRow : OpenClaim := { program := "ytjahkcbdecgbhaagreat", sum := "deed02294dfd95926fc38cdebe5c5672ba7417ef64a7177bc93ba1ae3155a50f", func := "giornata/giornatalaw02.FacesWays", spec := "facesWays", unfollowed := true, recurses := true, plainKeys := false, apart := false }
def FacesWaysSaid : Prop := facesWaysRow.holds Tryz.pinned (OpenSpec.ofChange facesWaysSpec)

/-- ITS FALSE NEIGHBOUR: 'it returns false'. Refute it at one input. -/
def facesWaysWrong : ChangeSpec := { name := "facesWays", fn := fun _ => fun
  | [d1, d2, d3] => { results := [.lit (.bool false)], args := [d1, d2, d3] }
  | _ => none }
def FacesWaysWrongFalsely : Prop := facesWaysRow.holds Tryz.pinned (OpenSpec.ofChange facesWaysWrong)

/-- 'giornatalaw02.FacesBeside': WHATEVER THE INPUT: true; the input reads as it did. -/
def facesBesideSpec : ChangeSpec := { name := "facesBeside", fn := fun _ => fun
  | [d1, d2, d3] => { results := [.lit (.bool true)], args := [d1, d2, d3] }
  | _ => none }
def facesBesideRow : OpenClaim := { program := "ytjahkcbdecgbhaagreat", sum := "deed02294dfd95926fc38cdebe5c5672ba7417ef64a7177bc93ba1ae3155a50f", func := "giornata/giornatalaw02.FacesBeside", spec := "facesBeside", unfollowed := true, recurses := true, plainKeys := false, apart := false }
def FacesBesideSaid : Prop := facesBesideRow.holds Tryz.pinned (OpenSpec.ofChange facesBesideSpec)

/-- ITS FALSE NEIGHBOUR: 'it returns false'. Refute it at one input. -/
def facesBesideWrong : ChangeSpec := { name := "facesBeside", fn := fun _ => fun
  | [d1, d2, d3] => { results := [.lit (.bool false)], args := [d1, d2, d3] }
  | _ => none }
def FacesBesideWrongFalsely : Prop := facesBesideRow.holds Tryz.pinned (OpenSpec.ofChange facesBesideWrong)

/-- 'giornatalaw02.FacesShortest': WHATEVER THE INPUT: true; the input reads as it did. -/
def facesShortestSpec : ChangeSpec := { name := "facesShortest", fn := fun _ => fun
  | [d1, d2, d3, d4] => { results := [.lit (.bool true)], args := [d1, d2, d3, d4] }
  | _ => none }
def facesShortestRow : OpenClaim := { program := "ytjahkcbdecgbhaagreat", sum := "deed02294dfd95926fc38cdebe5c5672ba7417ef64a7177bc93ba1ae3155a50f", func := "giornata/giornatalaw02.FacesShortest", spec := "facesShortest", unfollowed := true, recurses := true, plainKeys := false, apart := false }
def FacesShortestSaid : Prop := facesShortestRow.holds Tryz.pinned (OpenSpec.ofChange facesShortestSpec)

/-- ITS FALSE NEIGHBOUR: 'it returns false'. Refute it at one input. -/
def facesShortestWrong : ChangeSpec := { name := "facesShortest", fn := fun _ => fun
  | [d1, d2, d3, d4] => { results := [.lit (.bool false)], args := [d1, d2, d3, d4] }
  | _ => none }
def FacesShortestWrongFalsely : Prop := facesShortestRow.holds Tryz.pinned (OpenSpec.ofChange facesShortestWrong)

/-- 'giornatalaw02.FacesSets': WHATEVER THE INPUT: true; the input reads as it did. -/
def facesSetsSpec : ChangeSpec := { name := "facesSets", fn := fun _ => fun
  | [d1, d2] => { results := [.lit (.bool true)], args := [d1, d2] }
  | _ => none }
def facesSetsRow : OpenClaim := { program := "ytjahkcbdecgbhaagreat", sum := "deed02294dfd95926fc38cdebe5c5672ba7417ef64a7177bc93ba1ae3155a50f", func := "giornata/giornatalaw02.FacesSets", spec := "facesSets", unfollowed := true, recurses := true, plainKeys := false, apart := false }
def FacesSetsSaid : Prop := facesSetsRow.holds Tryz.pinned (OpenSpec.ofChange facesSetsSpec)

/-- ITS FALSE NEIGHBOUR: 'it returns false'. Refute it at one input. -/
def facesSetsWrong : ChangeSpec := { name := "facesSets", fn := fun _ => fun
  | [d1, d2] => { results := [.lit (.bool false)], args := [d1, d2] }
  | _ => none }
def FacesSetsWrongFalsely : Prop := facesSetsRow.holds Tryz.pinned (OpenSpec.ofChange facesSetsWrong)

/-- 'giornatalaw02.FacesBorders': WHATEVER THE INPUT: true; the input reads as it did. -/
def facesBordersSpec : ChangeSpec := { name := "facesBorders", fn := fun _ => fun
  | [d1, d2] => { results := [.lit (.bool true)], args := [d1, d2] }
  | _ => none }
def facesBordersRow : OpenClaim := { program := "ytjahkcbdecgbhaagreat", sum := "deed02294dfd95926fc38cdebe5c5672ba7417ef64a7177bc93ba1ae3155a50f", func := "giornata/giornatalaw02.FacesBorders", spec := "facesBorders", unfollowed := true, recurses := true, plainKeys := false, apart := false }
def FacesBordersSaid : Prop := facesBordersRow.holds Tryz.pinned (OpenSpec.ofChange facesBordersSpec)

/-- ITS FALSE NEIGHBOUR: 'it returns false'. Refute it at one input. -/
def facesBordersWrong : ChangeSpec := { name := "facesBorders", fn := fun _ => fun
  | [d1, d2] => { results := [.lit (.bool false)], args := [d1, d2] }
  | _ => none }
def FacesBordersWrongFalsely : Prop := facesBordersRow.holds Tryz.pinned (OpenSpec.ofChange facesBordersWrong)

/- THE SECOND FORM. 'bulk': how many values and letters a reading holds, each counted each time it is reached (what is shared counts as often as it is met; a slice's spare places count too). A statement '..UptoSaid' is the law's where the arguments, and the package variables that the reading takes, are together of bulk at most 1048576: NARROWER than '..Said'. Prove '..Said' where nothing that the law and all that it calls make is longer than what came in: it says more and counts as full. Else prove '..UptoSaid'. A law counts once. -/
mutual
def uptoBulk {H : Type} : DataW H → Nat
  | .lit (.string bytes) => bytes.length + 1
  | .lit _ => 1
  | .nil => 1
  | .ptr d => uptoBulk d + 1
  | .slice elems spare => uptoBulkAll elems + uptoBulkAll spare + 1
  | .agg parts => uptoBulkAll parts + 1
  | .iface _ d => uptoBulk d + 1
  | .map entries => uptoBulkEntries entries + 1
  | .held _ => 1
def uptoBulkAll {H : Type} : List (DataW H) → Nat
  | [] => 0
  | d :: r => uptoBulk d + uptoBulkAll r
def uptoBulkEntries {H : Type} : List (Lit × DataW H) → Nat
  | [] => 0
  | x :: r => uptoBulkEntry x + uptoBulkEntries r
def uptoBulkEntry {H : Type} : Lit × DataW H → Nat
  | (.string bytes, d) => bytes.length + uptoBulk d + 1
  | (_, d) => uptoBulk d + 1
 end
def uptoSmall : (H : Type) → List (DataW H) → Bool := fun _ ds => decide (uptoBulkAll ds ≤ 1048576)
def OpenSpec.upto (s : _root_.Go.ChangeSpec) : _root_.Go.OpenSpec := { _root_.Go.OpenSpec.ofChange s with cond := some uptoSmall }

/-- 'giornatalaw02.FacesCheck', WHERE WHAT IT READS IS OF BULK AT MOST 1048576: true; the input reads as it did. -/
def facesCheckUptoRow : OpenClaim := { program := "ytjahkcbdecgbhaagreat", sum := "deed02294dfd95926fc38cdebe5c5672ba7417ef64a7177bc93ba1ae3155a50f", func := "giornata/giornatalaw02.FacesCheck", spec := "facesCheck", unfollowed := true, recurses := true, plainKeys := false, apart := false, narrowed := true }
def FacesCheckUptoSaid : Prop := facesCheckUptoRow.holds Tryz.pinned (OpenSpec.upto facesCheckSpec)

/-- 'giornatalaw02.FacesColumns', WHERE WHAT IT READS IS OF BULK AT MOST 1048576: true; the input reads as it did. -/
def facesColumnsUptoRow : OpenClaim := { program := "ytjahkcbdecgbhaagreat", sum := "deed02294dfd95926fc38cdebe5c5672ba7417ef64a7177bc93ba1ae3155a50f", func := "giornata/giornatalaw02.FacesColumns", spec := "facesColumns", unfollowed := true, recurses := true, plainKeys := false, apart := false, narrowed := true }
def FacesColumnsUptoSaid : Prop := facesColumnsUptoRow.holds Tryz.pinned (OpenSpec.upto facesColumnsSpec)

/-- 'giornatalaw02.FacesWalks', WHERE WHAT IT READS IS OF BULK AT MOST 1048576: true; the input reads as it did. -/
def facesWalksUptoRow : OpenClaim := { program := "ytjahkcbdecgbhaagreat", sum := "deed02294dfd95926fc38cdebe5c5672ba7417ef64a7177bc93ba1ae3155a50f", func := "giornata/giornatalaw02.FacesWalks", spec := "facesWalks", unfollowed := true, recurses := true, plainKeys := false, apart := false, narrowed := true }
def FacesWalksUptoSaid : Prop := facesWalksUptoRow.holds Tryz.pinned (OpenSpec.upto facesWalksSpec)

/-- 'giornatalaw02.FacesEdges', WHERE WHAT IT READS IS OF BULK AT MOST 1048576: true; the input reads as it did. -/
def facesEdgesUptoRow : OpenClaim := { program := "ytjahkcbdecgbhaagreat", sum := "deed02294dfd95926fc38cdebe5c5672ba7417ef64a7177bc93ba1ae3155a50f", func := "giornata/giornatalaw02.FacesEdges", spec := "facesEdges", unfollowed := true, recurses := true, plainKeys := false, apart := false, narrowed := true }
def FacesEdgesUptoSaid : Prop := facesEdgesUptoRow.holds Tryz.pinned (OpenSpec.upto facesEdgesSpec)

/-- 'giornatalaw02.FacesWithout', WHERE WHAT IT READS IS OF BULK AT MOST 1048576: true; the input reads as it did. -/
def facesWithoutUptoRow : OpenClaim := { program := "ytjahkcbdecgbhaagreat", sum := "deed02294dfd95926fc38cdebe5c5672ba7417ef64a7177bc93ba1ae3155a50f", func := "giornata/giornatalaw02.FacesWithout", spec := "facesWithout", unfollowed := true, recurses := true, plainKeys := false, apart := false, narrowed := true }
def FacesWithoutUptoSaid : Prop := facesWithoutUptoRow.holds Tryz.pinned (OpenSpec.upto facesWithoutSpec)

/-- 'giornatalaw02.FacesChanges', WHERE WHAT IT READS IS OF BULK AT MOST 1048576: true; the input reads as it did. -/
def facesChangesUptoRow : OpenClaim := { program := "ytjahkcbdecgbhaagreat", sum := "deed02294dfd95926fc38cdebe5c5672ba7417ef64a7177bc93ba1ae3155a50f", func := "giornata/giornatalaw02.FacesChanges", spec := "facesChanges", unfollowed := true, recurses := true, plainKeys := false, apart := false, narrowed := true }
def FacesChangesUptoSaid : Prop := facesChangesUptoRow.holds Tryz.pinned (OpenSpec.upto facesChangesSpec)

/-- 'giornatalaw02.FacesMemory', WHERE WHAT IT READS IS OF BULK AT MOST 1048576: true; the input reads as it did. -/
def facesMemoryUptoRow : OpenClaim := { program := "ytjahkcbdecgbhaagreat", sum := "deed02294dfd95926fc38cdebe5c5672ba7417ef64a7177bc93ba1ae3155a50f", func := "giornata/giornatalaw02.FacesMemory", spec := "facesMemory", unfollowed := true, recurses := true, plainKeys := false, apart := false, narrowed := true }
def FacesMemoryUptoSaid : Prop := facesMemoryUptoRow.holds Tryz.pinned (OpenSpec.upto facesMemorySpec)

/-- 'giornatalaw02.FacesWays', WHERE WHAT IT READS IS OF BULK AT MOST 1048576: true; the input reads as it did. -/
def facesWaysUptoRow : OpenClaim := { program := "ytjahkcbdecgbhaagreat", sum := "deed02294dfd95926fc38cdebe5c5672ba7417ef64a7177bc93ba1ae3155a50f", func := "giornata/giornatalaw02.FacesWays", spec := "facesWays", unfollowed := true, recurses := true, plainKeys := false, apart := false, narrowed := true }
def FacesWaysUptoSaid : Prop := facesWaysUptoRow.holds Tryz.pinned (OpenSpec.upto facesWaysSpec)

/-- 'giornatalaw02.FacesBeside', WHERE WHAT IT READS IS OF BULK AT MOST 1048576: true; the input reads as it did. -/
def facesBesideUptoRow : OpenClaim := { program := "ytjahkcbdecgbhaagreat", sum := "deed02294dfd95926fc38cdebe5c5672ba7417ef64a7177bc93ba1ae3155a50f", func := "giornata/giornatalaw02.FacesBeside", spec := "facesBeside", unfollowed := true, recurses := true, plainKeys := false, apart := false, narrowed := true }
def FacesBesideUptoSaid : Prop := facesBesideUptoRow.holds Tryz.pinned (OpenSpec.upto facesBesideSpec)

/-- 'giornatalaw02.FacesShortest', WHERE WHAT IT READS IS OF BULK AT MOST 1048576: true; the input reads as it did. -/
def facesShortestUptoRow : OpenClaim := { program := "ytjahkcbdecgbhaagreat", sum := "deed02294dfd95926fc38cdebe5c5672ba7417ef64a7177bc93ba1ae3155a50f", func := "giornata/giornatalaw02.FacesShortest", spec := "facesShortest", unfollowed := true, recurses := true, plainKeys := false, apart := false, narrowed := true }
def FacesShortestUptoSaid : Prop := facesShortestUptoRow.holds Tryz.pinned (OpenSpec.upto facesShortestSpec)

/-- 'giornatalaw02.FacesSets', WHERE WHAT IT READS IS OF BULK AT MOST 1048576: true; the input reads as it did. -/
def facesSetsUptoRow : OpenClaim := { program := "ytjahkcbdecgbhaagreat", sum := "deed02294dfd95926fc38cdebe5c5672ba7417ef64a7177bc93ba1ae3155a50f", func := "giornata/giornatalaw02.FacesSets", spec := "facesSets", unfollowed := true, recurses := true, plainKeys := false, apart := false, narrowed := true }
def FacesSetsUptoSaid : Prop := facesSetsUptoRow.holds Tryz.pinned (OpenSpec.upto facesSetsSpec)

/-- 'giornatalaw02.FacesBorders', WHERE WHAT IT READS IS OF BULK AT MOST 1048576: true; the input reads as it did. -/
def facesBordersUptoRow : OpenClaim := { program := "ytjahkcbdecgbhaagreat", sum := "deed02294dfd95926fc38cdebe5c5672ba7417ef64a7177bc93ba1ae3155a50f", func := "giornata/giornatalaw02.FacesBorders", spec := "facesBorders", unfollowed := true, recurses := true, plainKeys := false, apart := false, narrowed := true }
def FacesBordersUptoSaid : Prop := facesBordersUptoRow.holds Tryz.pinned (OpenSpec.upto facesBordersSpec)

end Rows
end Go.Proofs.YtjahkcbdecgbhaaGreat
