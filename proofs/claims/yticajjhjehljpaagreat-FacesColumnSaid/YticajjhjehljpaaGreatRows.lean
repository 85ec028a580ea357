/-
  No cell of these rows narrows 'for every input' (looked for: loops, veiled, ifaces, maps, wideKeys, modest, calm, conditions, laid).
  DERIVED. THE GIVEN ROWS OF THIS SEAT. 6 by the template 'for every input the law returns true; each argument reads behind the call as it read before'; 0 by the template 'total and deterministic' (their statements: YticajjhjehljpaaGreatTotals.lean).
  GIVEN WITH THE SEED: the statements are not yours to turn. If you find one false, say at which input.
  Laid BY PROGRAM, IN A SANDBOX (cutbox-rows.mjs): the forced cells as the released guide's own fill.sh prints them over the translation b383df05b88d5e9e… (all of the seat's roots in one cut). By AI agents, Wed Nov 11 2026. No macro, syntax, notation, axiom, sorry.
-/
import Derived.Test.YticajjhjehljpaaGreatChecked
import GoSem.Claim
import GoSem.ClaimJoined
import GoSem.ClaimMapViews
import Derived.JoinedTies
import Derived.KernelRfl
namespace Go.Proofs.YticajjhjehljpaaGreat
/- THE CELL 'sum', in the pinned program and in every row, IS THE sha256 OF THE DUMP (.gsa) THAT YticajjhjehljpaaGreatProg.lean LOADS. Nothing in Lean hashes anything: it is a label: what it is worth is what the hold of that sum in a sandbox is worth. -/
noncomputable def Tryz.pinned : Pinned := { name := "yticajjhjehljpaagreat", sum := "b383df05b88d5e9ec6da41a8d056a886b61568a868afb0b15d21b55ccdb2b793", checked := Tryz.checked }
namespace Rows
def none {H : Type} : Left H := { results := [], args := [] }

/-- 'giornatalaw02.FacesEuler': WHATEVER THE INPUT: true; the input reads as it did. -/
def facesEulerSpec : ChangeSpec := { name := "facesEuler", fn := fun _ => fun
  | [d] => { results := [.lit (.bool true)], args := [d] }
  | _ => none }
def facesEulerRow : OpenClaim := { program := "yticajjhjehljpaagreat", sum := "b383df05b88d5e9ec6da41a8d056a886b61568a868afb0b15d21b55ccdb2b793", func := "giornata/giornatalaw02.FacesEuler", spec := "facesEuler", unfollowed := true, recurses := true, plainKeys := false, apart := false }
def FacesEulerSaid : Prop := facesEulerRow.holds Tryz.pinned (OpenSpec.ofChange facesEulerSpec)

/-- ITS FALSE NEIGHBOUR: 'it returns false'. Refute it at one input. -/
def facesEulerWrong : ChangeSpec := { name := "facesEuler", fn := fun _ => fun
  | [d] => { results := [.lit (.bool false)], args := [d] }
  | _ => none }
def FacesEulerWrongFalsely : Prop := facesEulerRow.holds Tryz.pinned (OpenSpec.ofChange facesEulerWrong)

/-- 'giornatalaw02.FacesPlaces': WHATEVER THE INPUT: true; the input reads as it did. -/
def facesPlacesSpec : ChangeSpec := { name := "facesPlaces", fn := fun _ => fun
  | [d1, d2, d3, d4] => { results := [.lit (.bool true)], args := [d1, d2, d3, d4] }
  | _ => none }
def facesPlacesRow : OpenClaim := { program := "yticajjhjehljpaagreat", sum := "b383df05b88d5e9ec6da41a8d056a886b61568a868afb0b15d21b55ccdb2b793", func := "giornata/giornatalaw02.FacesPlaces", spec := "facesPlaces", unfollowed := true, recurses := true, plainKeys := false, apart := false }
def FacesPlacesSaid : Prop := facesPlacesRow.holds Tryz.pinned (OpenSpec.ofChange facesPlacesSpec)

/-- ITS FALSE NEIGHBOUR: 'it returns false'. Refute it at one input. -/
def facesPlacesWrong : ChangeSpec := { name := "facesPlaces", fn := fun _ => fun
  | [d1, d2, d3, d4] => { results := [.lit (.bool false)], args := [d1, d2, d3, d4] }
  | _ => none }
def FacesPlacesWrongFalsely : Prop := facesPlacesRow.holds Tryz.pinned (OpenSpec.ofChange facesPlacesWrong)

/-- 'giornatalaw02.FacesColumn': WHATEVER THE INPUT: true; the input reads as it did. -/
def facesColumnSpec : ChangeSpec := { name := "facesColumn", fn := fun _ => fun
  | [d1, d2, d3] => { results := [.lit (.bool true)], args := [d1, d2, d3] }
  | _ => none }
def facesColumnRow : OpenClaim := { program := "yticajjhjehljpaagreat", sum := "b383df05b88d5e9ec6da41a8d056a886b61568a868afb0b15d21b55ccdb2b793", func := "giornata/giornatalaw02.FacesColumn", spec := "facesColumn", unfollowed := true, recurses := true, plainKeys := false, apart := false }
def FacesColumnSaid : Prop := facesColumnRow.holds Tryz.pinned (OpenSpec.ofChange facesColumnSpec)

/-- ITS FALSE NEIGHBOUR: 'it returns false'. Refute it at one input. -/
def facesColumnWrong : ChangeSpec := { name := "facesColumn", fn := fun _ => fun
  | [d1, d2, d3] => { results := [.lit (.bool false)], args := [d1, d2, d3] }
  | _ => none }
def FacesColumnWrongFalsely : Prop := facesColumnRow.holds Tryz.pinned (OpenSpec.ofChange facesColumnWrong)

/-- 'giornatalaw02.FacesBuild': WHATEVER THE INPUT: true; the input reads as it did. -/
def facesBuildSpec : ChangeSpec := { name := "facesBuild", fn := fun _ => fun
  | [d1, d2] => { results := [.lit (.bool true)], args := [d1, d2] }
  | _ => none }
def facesBuildRow : OpenClaim := { program := "yticajjhjehljpaagreat", sum := "b383df05b88d5e9ec6da41a8d056a886b61568a868afb0b15d21b55ccdb2b793", func := "giornata/giornatalaw02.FacesBuild", spec := "facesBuild", unfollowed := true, recurses := true, plainKeys := false, apart := false }
def FacesBuildSaid : Prop := facesBuildRow.holds Tryz.pinned (OpenSpec.ofChange facesBuildSpec)

/-- ITS FALSE NEIGHBOUR: 'it returns false'. Refute it at one input. -/
def facesBuildWrong : ChangeSpec := { name := "facesBuild", fn := fun _ => fun
  | [d1, d2] => { results := [.lit (.bool false)], args := [d1, d2] }
  | _ => none }
def FacesBuildWrongFalsely : Prop := facesBuildRow.holds Tryz.pinned (OpenSpec.ofChange facesBuildWrong)

/-- 'giornatalaw02.FacesAreas': WHATEVER THE INPUT: true; the input reads as it did. -/
def facesAreasSpec : ChangeSpec := { name := "facesAreas", fn := fun _ => fun
  | [d1, d2] => { results := [.lit (.bool true)], args := [d1, d2] }
  | _ => none }
def facesAreasRow : OpenClaim := { program := "yticajjhjehljpaagreat", sum := "b383df05b88d5e9ec6da41a8d056a886b61568a868afb0b15d21b55ccdb2b793", func := "giornata/giornatalaw02.FacesAreas", spec := "facesAreas", unfollowed := true, recurses := true, plainKeys := false, apart := false }
def FacesAreasSaid : Prop := facesAreasRow.holds Tryz.pinned (OpenSpec.ofChange facesAreasSpec)

/-- ITS FALSE NEIGHBOUR: 'it returns false'. Refute it at one input. -/
def facesAreasWrong : ChangeSpec := { name := "facesAreas", fn := fun _ => fun
  | [d1, d2] => { results := [.lit (.bool false)], args := [d1, d2] }
  | _ => none }
def FacesAreasWrongFalsely : Prop := facesAreasRow.holds Tryz.pinned (OpenSpec.ofChange facesAreasWrong)

/-- 'giornatalaw02.FacesOne': WHATEVER THE INPUT: true; the input reads as it did. -/
def facesOneSpec : ChangeSpec := { name := "facesOne", fn := fun _ => fun
  | [d1, d2, d3] => { results := [.lit (.bool true)], args := [d1, d2, d3] }
  | _ => none }
def facesOneRow : OpenClaim := { program := "yticajjhjehljpaagreat", sum := "b383df05b88d5e9ec6da41a8d056a886b61568a868afb0b15d21b55ccdb2b793", func := "giornata/giornatalaw02.FacesOne", spec := "facesOne", unfollowed := true, recurses := true, plainKeys := false, apart := false }
def FacesOneSaid : Prop := facesOneRow.holds Tryz.pinned (OpenSpec.ofChange facesOneSpec)

/-- ITS FALSE NEIGHBOUR: 'it returns false'. Refute it at one input. -/
def facesOneWrong : ChangeSpec := { name := "facesOne", fn := fun _ => fun
  | [d1, d2, d3] => { results := [.lit (.bool false)], args := [d1, d2, d3] }
  | _ => none }
def FacesOneWrongFalsely : Prop := facesOneRow.holds Tryz.pinned (OpenSpec.ofChange facesOneWrong)

/- THE SECOND FORM. 'bulk': how many values and letters a reading holds, each counted each time it is reached (what is shared counts as often as it is met; a slice's spare places count too). A statement '..UptoSaid' is the law's where the arguments, and the package variables that the reading takes, are together of bulk at most 1048576: NARROWER than '..Said'. Prove '..Said' where nothing that the law and all that it calls make is longer than what came in: it says more and counts as full. Else prove '..UptoSaid'. A law counts once. -/
mutual
def uptoBulk {H : Type} : DataW H → Nat
  | .lit (.string bytes) => bytes.length + 1
  | .lit _ => 1
  | .nil => 1
  | .ptr d => uptoBulk d + 1
  | .slice elems spare => uptoBulkAll elems + uptoBulkAll spare + 1
  | .agg parts => uptoBulkAll parts + 1
  | .iface _ d => uptoBulk d + 1
  | .map entries => uptoBulkEntries entries + 1
  | .held _ => 1
def uptoBulkAll {H : Type} : List (DataW H) → Nat
  | [] => 0
  | d :: r => uptoBulk d + uptoBulkAll r
def uptoBulkEntries {H : Type} : List (Lit × DataW H) → Nat
  | [] => 0
  | x :: r => uptoBulkEntry x + uptoBulkEntries r
def uptoBulkEntry {H : Type} : Lit × DataW H → Nat
  | (.string bytes, d) => bytes.length + uptoBulk d + 1
  | (_, d) => uptoBulk d + 1
 end
def uptoSmall : (H : Type) → List (DataW H) → Bool := fun _ ds => decide (uptoBulkAll ds ≤ 1048576)
def OpenSpec.upto (s : _root_.Go.ChangeSpec) : _root_.Go.OpenSpec := { _root_.Go.OpenSpec.ofChange s with cond := some uptoSmall }

/-- 'giornatalaw02.FacesEuler', WHERE WHAT IT READS IS OF BULK AT MOST 1048576: true; the input reads as it did. -/
def facesEulerUptoRow : OpenClaim := { program := "yticajjhjehljpaagreat", sum := "b383df05b88d5e9ec6da41a8d056a886b61568a868afb0b15d21b55ccdb2b793", func := "giornata/giornatalaw02.FacesEuler", spec := "facesEuler", unfollowed := true, recurses := true, plainKeys := false, apart := false, narrowed := true }
def FacesEulerUptoSaid : Prop := facesEulerUptoRow.holds Tryz.pinned (OpenSpec.upto facesEulerSpec)

/-- 'giornatalaw02.FacesPlaces', WHERE WHAT IT READS IS OF BULK AT MOST 1048576: true; the input reads as it did. -/
def facesPlacesUptoRow : OpenClaim := { program := "yticajjhjehljpaagreat", sum := "b383df05b88d5e9ec6da41a8d056a886b61568a868afb0b15d21b55ccdb2b793", func := "giornata/giornatalaw02.FacesPlaces", spec := "facesPlaces", unfollowed := true, recurses := true, plainKeys := false, apart := false, narrowed := true }
def FacesPlacesUptoSaid : Prop := facesPlacesUptoRow.holds Tryz.pinned (OpenSpec.upto facesPlacesSpec)

/-- 'giornatalaw02.FacesColumn', WHERE WHAT IT READS IS OF BULK AT MOST 1048576: true; the input reads as it did. -/
def facesColumnUptoRow : OpenClaim := { program := "yticajjhjehljpaagreat", sum := "b383df05b88d5e9ec6da41a8d056a886b61568a868afb0b15d21b55ccdb2b793", func := "giornata/giornatalaw02.FacesColumn", spec := "facesColumn", unfollowed := true, recurses := true, plainKeys := false, apart := false, narrowed := true }
def FacesColumnUptoSaid : Prop := facesColumnUptoRow.holds Tryz.pinned (OpenSpec.upto facesColumnSpec)

/-- 'giornatalaw02.FacesBuild', WHERE WHAT IT READS IS OF BULK AT MOST 1048576: true; the input reads as it did. -/
def facesBuildUptoRow : OpenClaim := { program := "yticajjhjehljpaagreat", sum := "b383df05b88d5e9ec6da41a8d056a886b61568a868afb0b15d21b55ccdb2b793", func := "giornata/giornatalaw02.FacesBuild", spec := "facesBuild", unfollowed := true, recurses := true, plainKeys := false, apart := false, narrowed := true }
def FacesBuildUptoSaid : Prop := facesBuildUptoRow.holds Tryz.pinned (OpenSpec.upto facesBuildSpec)

/-- 'giornatalaw02.FacesAreas', WHERE WHAT IT READS IS OF BULK AT MOST 1048576: true; the input reads as it did. -/
def facesAreasUptoRow : OpenClaim := { program := "yticajjhjehljpaagreat", sum := "b383df05b88d5e9ec6da41a8d056a886b61568a868afb0b15d21b55ccdb2b793", func := "giornata/giornatalaw02.FacesAreas", spec := "facesAreas", unfollowed := true, recurses := true, plainKeys := false, apart := false, narrowed := true }
def FacesAreasUptoSaid : Prop := facesAreasUptoRow.holds Tryz.pinned (OpenSpec.upto facesAreasSpec)

/-- 'giornatalaw02.FacesOne', WHERE WHAT IT READS IS OF BULK AT MOST 1048576: true; the input reads as it did. -/
def facesOneUptoRow : OpenClaim := { program := "yticajjhjehljpaagreat", sum := "b383df05b88d5e9ec6da41a8d056a886b61568a868afb0b15d21b55ccdb2b793", func := "giornata/giornatalaw02.FacesOne", spec := "facesOne", unfollowed := true, recurses := true, plainKeys := false, apart := false, narrowed := true }
def FacesOneUptoSaid : Prop := facesOneUptoRow.holds Tryz.pinned (OpenSpec.upto facesOneSpec)

end Rows
end Go.Proofs.YticajjhjehljpaaGreat
