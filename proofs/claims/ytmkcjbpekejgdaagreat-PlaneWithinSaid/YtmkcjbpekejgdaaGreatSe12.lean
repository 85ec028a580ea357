/-
  What every row needs: alive, openings, a law's run. No condition.
-/
import Derived.Test.YtmkcjbpekejgdaaGreatSeB
import Derived.Test.YtmkcjbpekejgdaaGreatSe4
import Derived.Test.YtmkcjbpekejgdaaGreatRows
import Derived.ProofKit
import Derived.Lib.SmallJoins
import Derived.Deep.Slices
import Derived.Deep.Fields
set_option linter.unusedSimpArgs false
set_option linter.unusedVariables false
noncomputable section
namespace Go.Aw
theorem x19 : XOK Go.Proofs.Tryz.prog X19.1 X19.2 :=
  gX_ok (vcall_ok cfg1_ok 40).1 fun args v hs => by
    have : args = [] ∧ v = .bool true := by
      unfold s0 at hs
      split at hs
      · injection hs with hs; injection hs with _ h2; exact ⟨rfl, h2.symm⟩
      · cases hs
    obtain ⟨rfl, rfl⟩ := this
    exact ⟨rfl, rfl, wcall_tw (cloTwX rfl) 40 false 15 [] [] 0 _ (fun u _ _ => u = .bool true) (fun u h nx e => sameT_eq e) alive_B⟩
end Go.Aw
namespace Go.Proofs.YtmkcjbpekejgdaaGreat
open Go.ChangeShapes Go.WideShapes Go.ChangeAt Go.RowKit Go.Aw Go.Joins

theorem Tryz.own : ownKnob Tryz.prog.godebug = none := by kernel_rfl
theorem Tryz.laidOut : laidOutB Tryz.prog = true := by kernel_rfl
theorem Tryz.cells32 : Tryz.prog.cellsOf 32 = 2 := by kernel_rfl
theorem shutBool {H : Type} {enc : TypeId × Value → H} {W : World} {base : Nat} {sp : Nat → Bool} {held : Bool} (b : Bool) : DataW.Trod enc Tryz.prog W base sp held 4 (.bool b) (.lit (.bool b)) [] := ⟨1, by simp [DataW.trod, Value.cells, Tryz.underlying4]⟩

/-- What a law's body leaves: true, and what was there. -/
theorem law_calls {f : Nat} {xl : List (Nat × XF)} (hx : XLOK xl) {args : List Value} (hg : allGA args = true) (hb : Does1 xl f args (.bool true)) (W : World) :
    Calls Tryz.prog f args.toArray W (fun e W' => e = .returned (.bool true) ∧ Below W.heap.size W W') := by
  obtain ⟨_, h⟩ := body_calls hx f args [] 0 _ hb (fun _ => .nil none) W.heap.size W
    ⟨fun k o hk => noLook hk, fun k k' o o' hk => noLook hk, fun k o hk => noLook hk, Nat.le_refl _, fun k o hk => noLook hk⟩ (fun v hv => scT_g (allGA_mem hg hv))
  have he : (args.map (tr (fun _ => .nil none))).toArray = args.toArray := by
    congr 1
    conv => rhs; rw [← List.map_id args]
    exact List.map_congr_left fun v hv => tr_g (allGA_mem hg hv)
  rw [he] at h
  refine callsIn_wide.1 (CallsIn.mono h fun e W' hr => ?_)
  cases e with
  | returned u =>
    obtain ⟨v, h', nx', ι', rfl, _, _, hb2, _, _, rfl⟩ := hr
    exact ⟨rfl, hb2.kit⟩
  | _ => exact hr.elim


theorem Tryz.cells3 : Tryz.prog.cellsOf 3 = 1 := by kernel_rfl
theorem Tryz.cells39 : Tryz.prog.cellsOf 39 = 4 := by kernel_rfl
section
variable {H : Type} {enc : TypeId × Value → H} {w : World} {base : Nat} {spare : Nat → Bool} {held : Bool}
theorem len2 {α : Type} {l : List α} (h : l.length = 2) : ∃ a b, l = [a, b] := by
  match l, h with
  | [a, b], _ => exact ⟨a, b, rfl⟩
theorem len4 {α : Type} {l : List α} (h : l.length = 4) : ∃ a b c d, l = [a, b, c, d] := by
  match l, h with
  | [a, b, c, d], _ => exact ⟨a, b, c, d, rfl⟩
/-- A point's cells. -/
theorem pt_cells {fuel : Nat} {cs : List Value} {x : DataW H × List MemPlace} (h : DataW.trod enc Tryz.prog w base spare held fuel 32 cs = some x) : ∃ a b : Int, cs = [.int .i64 a, .int .i64 b] := by
  obtain ⟨xs, n, _, _, hlen, hxl, hf⟩ := DataW.trod_struct Tryz.underlying32 h
  rw [Tryz.cells32] at hlen
  obtain ⟨c0, c1, rfl⟩ := len2 hlen
  obtain ⟨x0, x1, rfl⟩ := len2 hxl
  have h0 : DataW.trod enc Tryz.prog w base spare held n 3 [c0] = some x0 := by simpa [Tryz.cells3] using hf 0 _ rfl
  have h1 : DataW.trod enc Tryz.prog w base spare held n 3 [c1] = some x1 := by simpa [Tryz.cells3] using hf 1 _ rfl
  obtain ⟨a, ea, _⟩ := DataW.trod_int Tryz.underlying3 h0
  obtain ⟨b, eb, _⟩ := DataW.trod_int Tryz.underlying3 h1
  simp at ea eb
  exact ⟨a, b, by rw [ea, eb]⟩
/-- A segment's cells. -/
theorem sg_cells {fuel : Nat} {cs : List Value} {x : DataW H × List MemPlace} (h : DataW.trod enc Tryz.prog w base spare held fuel 39 cs = some x) : ∃ a b c d : Int, cs = [.int .i64 a, .int .i64 b, .int .i64 c, .int .i64 d] := by
  obtain ⟨xs, n, _, _, hlen, hxl, hf⟩ := DataW.trod_struct Tryz.underlying39 h
  rw [Tryz.cells39] at hlen
  obtain ⟨c0, c1, c2, c3, rfl⟩ := len4 hlen
  obtain ⟨x0, x1, rfl⟩ := len2 hxl
  have h0 : DataW.trod enc Tryz.prog w base spare held n 32 [c0, c1] = some x0 := by simpa [Tryz.cells32] using hf 0 _ rfl
  have h1 : DataW.trod enc Tryz.prog w base spare held n 32 [c2, c3] = some x1 := by simpa [Tryz.cells32] using hf 1 _ rfl
  obtain ⟨a, b, e1⟩ := pt_cells h0
  obtain ⟨c, d, e2⟩ := pt_cells h1
  simp at e1 e2
  exact ⟨a, b, c, d, by rw [e1.1, e1.2, e2.1, e2.2]⟩
set_option maxRecDepth 100000 in
theorem open_pt {b0 : Nat} {v : Value} {d : DataW H} {p : List MemPlace} (hv : Value.okWide Tryz.prog w .any b0 32 v) (h : DataW.Trod enc Tryz.prog w base spare held 32 v d p) : ∃ q : Int × Int, v = ptv q := by
  obtain ⟨cs, rfl, hsz⟩ := okWide_struct Tryz.underlying32 hv
  obtain ⟨fuel, hf⟩ := h
  obtain ⟨a, b, e⟩ := pt_cells hf
  exact ⟨(a, b), by show _ = Value.agg _; congr 1; exact Array.ext' e⟩
set_option maxRecDepth 100000 in
theorem open_sg {b0 : Nat} {v : Value} {d : DataW H} {p : List MemPlace} (hv : Value.okWide Tryz.prog w .any b0 39 v) (h : DataW.Trod enc Tryz.prog w base spare held 39 v d p) : ∃ a b c d : Int, v = .agg #[.int .i64 a, .int .i64 b, .int .i64 c, .int .i64 d] := by
  obtain ⟨cs, rfl, hsz⟩ := okWide_struct Tryz.underlying39 hv
  obtain ⟨fuel, hf⟩ := h
  obtain ⟨a, b, c, d, e⟩ := sg_cells hf
  exact ⟨a, b, c, d, by congr 1; exact Array.ext' e⟩
end
end Go.Proofs.YtmkcjbpekejgdaaGreat
