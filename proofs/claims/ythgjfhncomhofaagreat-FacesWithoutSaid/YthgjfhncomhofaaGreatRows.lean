/-
  No cell of these rows narrows 'for every input' (looked for: loops, veiled, ifaces, maps, wideKeys, modest, calm, conditions, laid).
  DERIVED. THE GIVEN ROWS OF THIS SEAT. 7 by the template 'for every input the law returns true; each argument reads behind the call as it read before'; 0 by the template 'total and deterministic' (their statements: YthgjfhncomhofaaGreatTotals.lean).
  GIVEN WITH THE SEED: the statements are not yours to turn. If you find one false, say at which input.
  Laid BY PROGRAM, IN A SANDBOX (cutbox-rows.mjs): the forced cells as the released guide's own fill.sh prints them over the translation 12575c56fefb4762… (all of the seat's roots in one cut). By AI agents, Wed Nov 11 2026. No macro, syntax, notation, axiom, sorry.
-/
import Derived.Test.YthgjfhncomhofaaGreatChecked
import GoSem.Claim
import GoSem.ClaimJoined
import GoSem.ClaimMapViews
import Derived.JoinedTies
import Derived.KernelRfl
namespace Go.Proofs.YthgjfhncomhofaaGreat
/- THE CELL 'sum', in the pinned program and in every row, IS THE sha256 OF THE DUMP (.gsa) THAT YthgjfhncomhofaaGreatProg.lean LOADS. Nothing in Lean hashes anything: it is a label: what it is worth is what the hold of that sum in a sandbox is worth. -/
noncomputable def Tryz.pinned : Pinned := { name := "ythgjfhncomhofaagreat", sum := "12575c56fefb47622d551010f1e182897e87831842933cb6a5b015cfb56e6ecf", checked := Tryz.checked }
namespace Rows
def none {H : Type} : Left H := { results := [], args := [] }

/-- 'giornatalaw02.FacesWithout': WHATEVER THE INPUT: true; the input reads as it did. -/
def facesWithoutSpec : ChangeSpec := { name := "facesWithout", fn := fun _ => fun
  | [d1, d2] => { results := [.lit (.bool true)], args := [d1, d2] }
  | _ => none }
def facesWithoutRow : OpenClaim := { program := "ythgjfhncomhofaagreat", sum := "12575c56fefb47622d551010f1e182897e87831842933cb6a5b015cfb56e6ecf", func := "giornata/giornatalaw02.FacesWithout", spec := "facesWithout", unfollowed := true, recurses := true, plainKeys := false, apart := false }
def FacesWithoutSaid : Prop := facesWithoutRow.holds Tryz.pinned (OpenSpec.ofChange facesWithoutSpec)

/-- ITS FALSE NEIGHBOUR: 'it returns false'. Refute it at one input. -/
def facesWithoutWrong : ChangeSpec := { name := "facesWithout", fn := fun _ => fun
  | [d1, d2] => { results := [.lit (.bool false)], args := [d1, d2] }
  | _ => none }
def FacesWithoutWrongFalsely : Prop := facesWithoutRow.holds Tryz.pinned (OpenSpec.ofChange facesWithoutWrong)

/-- 'giornatalaw02.FacesChanges': WHATEVER THE INPUT: true; the input reads as it did. -/
def facesChangesSpec : ChangeSpec := { name := "facesChanges", fn := fun _ => fun
  | [d1, d2, d3, d4] => { results := [.lit (.bool true)], args := [d1, d2, d3, d4] }
  | _ => none }
def facesChangesRow : OpenClaim := { program := "ythgjfhncomhofaagreat", sum := "12575c56fefb47622d551010f1e182897e87831842933cb6a5b015cfb56e6ecf", func := "giornata/giornatalaw02.FacesChanges", spec := "facesChanges", unfollowed := true, recurses := true, plainKeys := false, apart := false }
def FacesChangesSaid : Prop := facesChangesRow.holds Tryz.pinned (OpenSpec.ofChange facesChangesSpec)

/-- ITS FALSE NEIGHBOUR: 'it returns false'. Refute it at one input. -/
def facesChangesWrong : ChangeSpec := { name := "facesChanges", fn := fun _ => fun
  | [d1, d2, d3, d4] => { results := [.lit (.bool false)], args := [d1, d2, d3, d4] }
  | _ => none }
def FacesChangesWrongFalsely : Prop := facesChangesRow.holds Tryz.pinned (OpenSpec.ofChange facesChangesWrong)

/-- 'giornatalaw02.FacesMirror': WHATEVER THE INPUT: true; the input reads as it did. -/
def facesMirrorSpec : ChangeSpec := { name := "facesMirror", fn := fun _ => fun
  | [d1, d2, d3, d4] => { results := [.lit (.bool true)], args := [d1, d2, d3, d4] }
  | _ => none }
def facesMirrorRow : OpenClaim := { program := "ythgjfhncomhofaagreat", sum := "12575c56fefb47622d551010f1e182897e87831842933cb6a5b015cfb56e6ecf", func := "giornata/giornatalaw02.FacesMirror", spec := "facesMirror", unfollowed := true, recurses := true, plainKeys := false, apart := false }
def FacesMirrorSaid : Prop := facesMirrorRow.holds Tryz.pinned (OpenSpec.ofChange facesMirrorSpec)

/-- ITS FALSE NEIGHBOUR: 'it returns false'. Refute it at one input. -/
def facesMirrorWrong : ChangeSpec := { name := "facesMirror", fn := fun _ => fun
  | [d1, d2, d3, d4] => { results := [.lit (.bool false)], args := [d1, d2, d3, d4] }
  | _ => none }
def FacesMirrorWrongFalsely : Prop := facesMirrorRow.holds Tryz.pinned (OpenSpec.ofChange facesMirrorWrong)

/-- 'giornatalaw02.FacesSets': WHATEVER THE INPUT: true; the input reads as it did. -/
def facesSetsSpec : ChangeSpec := { name := "facesSets", fn := fun _ => fun
  | [d1, d2] => { results := [.lit (.bool true)], args := [d1, d2] }
  | _ => none }
def facesSetsRow : OpenClaim := { program := "ythgjfhncomhofaagreat", sum := "12575c56fefb47622d551010f1e182897e87831842933cb6a5b015cfb56e6ecf", func := "giornata/giornatalaw02.FacesSets", spec := "facesSets", unfollowed := true, recurses := true, plainKeys := false, apart := false }
def FacesSetsSaid : Prop := facesSetsRow.holds Tryz.pinned (OpenSpec.ofChange facesSetsSpec)

/-- ITS FALSE NEIGHBOUR: 'it returns false'. Refute it at one input. -/
def facesSetsWrong : ChangeSpec := { name := "facesSets", fn := fun _ => fun
  | [d1, d2] => { results := [.lit (.bool false)], args := [d1, d2] }
  | _ => none }
def FacesSetsWrongFalsely : Prop := facesSetsRow.holds Tryz.pinned (OpenSpec.ofChange facesSetsWrong)

/-- 'giornatalaw02.FacesBorders': WHATEVER THE INPUT: true; the input reads as it did. -/
def facesBordersSpec : ChangeSpec := { name := "facesBorders", fn := fun _ => fun
  | [d1, d2] => { results := [.lit (.bool true)], args := [d1, d2] }
  | _ => none }
def facesBordersRow : OpenClaim := { program := "ythgjfhncomhofaagreat", sum := "12575c56fefb47622d551010f1e182897e87831842933cb6a5b015cfb56e6ecf", func := "giornata/giornatalaw02.FacesBorders", spec := "facesBorders", unfollowed := true, recurses := true, plainKeys := false, apart := false }
def FacesBordersSaid : Prop := facesBordersRow.holds Tryz.pinned (OpenSpec.ofChange facesBordersSpec)

/-- ITS FALSE NEIGHBOUR: 'it returns false'. Refute it at one input. -/
def facesBordersWrong : ChangeSpec := { name := "facesBorders", fn := fun _ => fun
  | [d1, d2] => { results := [.lit (.bool false)], args := [d1, d2] }
  | _ => none }
def FacesBordersWrongFalsely : Prop := facesBordersRow.holds Tryz.pinned (OpenSpec.ofChange facesBordersWrong)

/-- 'giornatalaw02.FacesSplits': WHATEVER THE INPUT: true; the input reads as it did. -/
def facesSplitsSpec : ChangeSpec := { name := "facesSplits", fn := fun _ => fun
  | [d1, d2, d3] => { results := [.lit (.bool true)], args := [d1, d2, d3] }
  | _ => none }
def facesSplitsRow : OpenClaim := { program := "ythgjfhncomhofaagreat", sum := "12575c56fefb47622d551010f1e182897e87831842933cb6a5b015cfb56e6ecf", func := "giornata/giornatalaw02.FacesSplits", spec := "facesSplits", unfollowed := true, recurses := true, plainKeys := false, apart := false }
def FacesSplitsSaid : Prop := facesSplitsRow.holds Tryz.pinned (OpenSpec.ofChange facesSplitsSpec)

/-- ITS FALSE NEIGHBOUR: 'it returns false'. Refute it at one input. -/
def facesSplitsWrong : ChangeSpec := { name := "facesSplits", fn := fun _ => fun
  | [d1, d2, d3] => { results := [.lit (.bool false)], args := [d1, d2, d3] }
  | _ => none }
def FacesSplitsWrongFalsely : Prop := facesSplitsRow.holds Tryz.pinned (OpenSpec.ofChange facesSplitsWrong)

/-- 'giornatalaw02.FacesSplitAreas': WHATEVER THE INPUT: true; the input reads as it did. -/
def facesSplitAreasSpec : ChangeSpec := { name := "facesSplitAreas", fn := fun _ => fun
  | [d1, d2, d3] => { results := [.lit (.bool true)], args := [d1, d2, d3] }
  | _ => none }
def facesSplitAreasRow : OpenClaim := { program := "ythgjfhncomhofaagreat", sum := "12575c56fefb47622d551010f1e182897e87831842933cb6a5b015cfb56e6ecf", func := "giornata/giornatalaw02.FacesSplitAreas", spec := "facesSplitAreas", unfollowed := true, recurses := true, plainKeys := false, apart := false }
def FacesSplitAreasSaid : Prop := facesSplitAreasRow.holds Tryz.pinned (OpenSpec.ofChange facesSplitAreasSpec)

/-- ITS FALSE NEIGHBOUR: 'it returns false'. Refute it at one input. -/
def facesSplitAreasWrong : ChangeSpec := { name := "facesSplitAreas", fn := fun _ => fun
  | [d1, d2, d3] => { results := [.lit (.bool false)], args := [d1, d2, d3] }
  | _ => none }
def FacesSplitAreasWrongFalsely : Prop := facesSplitAreasRow.holds Tryz.pinned (OpenSpec.ofChange facesSplitAreasWrong)

/- THE SECOND FORM. 'bulk': how many values and letters a reading holds, each counted each time it is reached (what is shared counts as often as it is met; a slice's spare places count too). A statement '..UptoSaid' is the law's where the arguments, and the package variables that the reading takes, are together of bulk at most 1048576: NARROWER than '..Said'. Prove '..Said' where nothing that the law and all that it calls make is longer than what came in: it says more and counts as full. Else prove '..UptoSaid'. A law counts once. -/
mutual
def uptoBulk {H : Type} : DataW H → Nat
  | .lit (.string bytes) => bytes.length + 1
  | .lit _ => 1
  | .nil => 1
  | .ptr d => uptoBulk d + 1
  | .slice elems spare => uptoBulkAll elems + uptoBulkAll spare + 1
  | .agg parts => uptoBulkAll parts + 1
  | .iface _ d => uptoBulk d + 1
  | .map entries => uptoBulkEntries entries + 1
  | .held _ => 1
def uptoBulkAll {H : Type} : List (DataW H) → Nat
  | [] => 0
  | d :: r => uptoBulk d + uptoBulkAll r
def uptoBulkEntries {H : Type} : List (Lit × DataW H) → Nat
  | [] => 0
  | x :: r => uptoBulkEntry x + uptoBulkEntries r
def uptoBulkEntry {H : Type} : Lit × DataW H → Nat
  | (.string bytes, d) => bytes.length + uptoBulk d + 1
  | (_, d) => uptoBulk d + 1
 end
def uptoSmall : (H : Type) → List (DataW H) → Bool := fun _ ds => decide (uptoBulkAll ds ≤ 1048576)
def OpenSpec.upto (s : _root_.Go.ChangeSpec) : _root_.Go.OpenSpec := { _root_.Go.OpenSpec.ofChange s with cond := some uptoSmall }

/-- 'giornatalaw02.FacesWithout', WHERE WHAT IT READS IS OF BULK AT MOST 1048576: true; the input reads as it did. -/
def facesWithoutUptoRow : OpenClaim := { program := "ythgjfhncomhofaagreat", sum := "12575c56fefb47622d551010f1e182897e87831842933cb6a5b015cfb56e6ecf", func := "giornata/giornatalaw02.FacesWithout", spec := "facesWithout", unfollowed := true, recurses := true, plainKeys := false, apart := false, narrowed := true }
def FacesWithoutUptoSaid : Prop := facesWithoutUptoRow.holds Tryz.pinned (OpenSpec.upto facesWithoutSpec)

/-- 'giornatalaw02.FacesChanges', WHERE WHAT IT READS IS OF BULK AT MOST 1048576: true; the input reads as it did. -/
def facesChangesUptoRow : OpenClaim := { program := "ythgjfhncomhofaagreat", sum := "12575c56fefb47622d551010f1e182897e87831842933cb6a5b015cfb56e6ecf", func := "giornata/giornatalaw02.FacesChanges", spec := "facesChanges", unfollowed := true, recurses := true, plainKeys := false, apart := false, narrowed := true }
def FacesChangesUptoSaid : Prop := facesChangesUptoRow.holds Tryz.pinned (OpenSpec.upto facesChangesSpec)

/-- 'giornatalaw02.FacesMirror', WHERE WHAT IT READS IS OF BULK AT MOST 1048576: true; the input reads as it did. -/
def facesMirrorUptoRow : OpenClaim := { program := "ythgjfhncomhofaagreat", sum := "12575c56fefb47622d551010f1e182897e87831842933cb6a5b015cfb56e6ecf", func := "giornata/giornatalaw02.FacesMirror", spec := "facesMirror", unfollowed := true, recurses := true, plainKeys := false, apart := false, narrowed := true }
def FacesMirrorUptoSaid : Prop := facesMirrorUptoRow.holds Tryz.pinned (OpenSpec.upto facesMirrorSpec)

/-- 'giornatalaw02.FacesSets', WHERE WHAT IT READS IS OF BULK AT MOST 1048576: true; the input reads as it did. -/
def facesSetsUptoRow : OpenClaim := { program := "ythgjfhncomhofaagreat", sum := "12575c56fefb47622d551010f1e182897e87831842933cb6a5b015cfb56e6ecf", func := "giornata/giornatalaw02.FacesSets", spec := "facesSets", unfollowed := true, recurses := true, plainKeys := false, apart := false, narrowed := true }
def FacesSetsUptoSaid : Prop := facesSetsUptoRow.holds Tryz.pinned (OpenSpec.upto facesSetsSpec)

/-- 'giornatalaw02.FacesBorders', WHERE WHAT IT READS IS OF BULK AT MOST 1048576: true; the input reads as it did. -/
def facesBordersUptoRow : OpenClaim := { program := "ythgjfhncomhofaagreat", sum := "12575c56fefb47622d551010f1e182897e87831842933cb6a5b015cfb56e6ecf", func := "giornata/giornatalaw02.FacesBorders", spec := "facesBorders", unfollowed := true, recurses := true, plainKeys := false, apart := false, narrowed := true }
def FacesBordersUptoSaid : Prop := facesBordersUptoRow.holds Tryz.pinned (OpenSpec.upto facesBordersSpec)

/-- 'giornatalaw02.FacesSplits', WHERE WHAT IT READS IS OF BULK AT MOST 1048576: true; the input reads as it did. -/
def facesSplitsUptoRow : OpenClaim := { program := "ythgjfhncomhofaagreat", sum := "12575c56fefb47622d551010f1e182897e87831842933cb6a5b015cfb56e6ecf", func := "giornata/giornatalaw02.FacesSplits", spec := "facesSplits", unfollowed := true, recurses := true, plainKeys := false, apart := false, narrowed := true }
def FacesSplitsUptoSaid : Prop := facesSplitsUptoRow.holds Tryz.pinned (OpenSpec.upto facesSplitsSpec)

/-- 'giornatalaw02.FacesSplitAreas', WHERE WHAT IT READS IS OF BULK AT MOST 1048576: true; the input reads as it did. -/
def facesSplitAreasUptoRow : OpenClaim := { program := "ythgjfhncomhofaagreat", sum := "12575c56fefb47622d551010f1e182897e87831842933cb6a5b015cfb56e6ecf", func := "giornata/giornatalaw02.FacesSplitAreas", spec := "facesSplitAreas", unfollowed := true, recurses := true, plainKeys := false, apart := false, narrowed := true }
def FacesSplitAreasUptoSaid : Prop := facesSplitAreasUptoRow.holds Tryz.pinned (OpenSpec.upto facesSplitAreasSpec)

end Rows
end Go.Proofs.YthgjfhncomhofaaGreat
