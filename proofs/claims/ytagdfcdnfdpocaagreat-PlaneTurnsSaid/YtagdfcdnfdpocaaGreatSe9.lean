/-
  PlaneTurns returns true, for all points. No condition.
-/
import Derived.Test.YtagdfcdnfdpocaaGreatSeB
import Derived.Test.YtagdfcdnfdpocaaGreatSe4
import Derived.Test.YtagdfcdnfdpocaaGreatRows
import Derived.ProofKit
import Derived.Lib.SmallJoins
set_option linter.unusedSimpArgs false
set_option linter.unusedVariables false
noncomputable section
namespace Go.Aw
theorem x19 : XOK Go.Proofs.Tryz.prog X19.1 X19.2 :=
  gX_ok (vcall_ok cfg1_ok 40).1 fun args v hs => by
    have : args = [] ∧ v = .bool true := by
      unfold s0 at hs
      split at hs
      · injection hs with hs; injection hs with _ h2; exact ⟨rfl, h2.symm⟩
      · cases hs
    obtain ⟨rfl, rfl⟩ := this
    exact ⟨rfl, rfl, wcall_tw (cloTwX rfl) 40 false 19 [] [] 0 _ (fun u _ _ => u = .bool true) (fun u h nx e => sameT_eq e) alive_B⟩
end Go.Aw
namespace Go.Proofs.YtagdfcdnfdpocaaGreat
open Go.ChangeShapes Go.WideShapes Go.ChangeAt Go.RowKit Go.Aw Go.Joins

theorem Tryz.own : ownKnob Tryz.prog.godebug = none := by kernel_rfl
theorem Tryz.laidOut : laidOutB Tryz.prog = true := by kernel_rfl
theorem Tryz.cells23 : Tryz.prog.cellsOf 23 = 2 := by kernel_rfl
theorem shutBool {H : Type} {enc : TypeId × Value → H} {W : World} {base : Nat} {sp : Nat → Bool} {held : Bool} (b : Bool) : DataW.Trod enc Tryz.prog W base sp held 4 (.bool b) (.lit (.bool b)) [] := ⟨1, by simp [DataW.trod, Value.cells, Tryz.underlying4]⟩

/-- What a law's body leaves: true, and what was there. -/
theorem law_calls {f : Nat} {xl : List (Nat × XF)} (hx : XLOK xl) {args : List Value} (hg : allGA args = true) (hb : Does1 xl f args (.bool true)) (W : World) :
    Calls Tryz.prog f args.toArray W (fun e W' => e = .returned (.bool true) ∧ Below W.heap.size W W') := by
  obtain ⟨_, h⟩ := body_calls hx f args [] 0 _ hb (fun _ => .nil none) W.heap.size W
    ⟨fun k o hk => noLook hk, fun k k' o o' hk => noLook hk, fun k o hk => noLook hk, Nat.le_refl _, fun k o hk => noLook hk⟩ (fun v hv => scT_g (allGA_mem hg hv))
  have he : (args.map (tr (fun _ => .nil none))).toArray = args.toArray := by
    congr 1
    conv => rhs; rw [← List.map_id args]
    exact List.map_congr_left fun v hv => tr_g (allGA_mem hg hv)
  rw [he] at h
  refine callsIn_wide.1 (CallsIn.mono h fun e W' hr => ?_)
  cases e with
  | returned u =>
    obtain ⟨v, h', nx', ι', rfl, _, _, hb2, _, _, rfl⟩ := hr
    exact ⟨rfl, hb2⟩
  | _ => exact hr.elim

set_option maxRecDepth 100000 in
theorem turns_lifted (os : Os) (started : os.Started) (H : Type) (enc : TypeId × Value → H) :
    ReturnsInHanded {} Tryz.checked os 3 .any (Rows.planeTurnsSpec.pre6 enc Tryz.prog Tryz.f3 Rows.planeTurnsRow.domain false) (Rows.planeTurnsSpec.post enc Tryz.prog Tryz.f3 false true false false) := by
  refine returnsInHanded_of_change (C := Tryz.checked) Tryz.own started (by kernel_rfl) Tryz.func3
    (ChangeSpec.witness6 (enc := enc) (C := Tryz.checked) false ⟨#[], #[.agg #[.int .i64 0, .int .i64 0], .agg #[.int .i64 0, .int .i64 0], .agg #[.int .i64 0, .int .i64 0]], []⟩ 8 (by kernel_rfl) (by kernel_rfl) (by kernel_rfl) (by kernel_rfl)) ?_
  intro W base args ds gs before hval0 hW hcnd _
  have hval : ∀ (j : Nat) t v, Tryz.f3.params[j]? = some t → args[j]? = some v → Value.okWide Tryz.prog W .any base t v := hval0
  have hW' := hW
  obtain ⟨p, q, hA0, hV, rfl, hfz, hnd⟩ := hW
  have hA : DataW.TrodAll enc Tryz.prog W 0 (fun _ => true) true Tryz.f3.params.toList args.toList ds p := hA0
  rw [Tryz.params3] at hA hval
  obtain ⟨v0, v1, v2, d0, d1, d2, p0, p1, p2, rfl, rfl, rfl, h0, h1, h2⟩ := trodAll_three hA
  obtain ⟨rfl, rfl⟩ := trodVars_none hV
  have k0 := h0
  have k1 := h1
  have k2 := h2
  obtain ⟨c0, c1, y0, y1, m, rfl, rfl, rfl, hy0, hy1⟩ := open_agg2 Tryz.underlying23 (by kernel_rfl) Tryz.cells23 (hval 0 23 v0 rfl rfl) h0
  obtain ⟨ax, e0, rfl, wa0⟩ := DataW.trod_int Tryz.underlying3 hy0
  obtain ⟨ay, e1, rfl, wa1⟩ := DataW.trod_int Tryz.underlying3 hy1
  obtain ⟨c2, c3, y2, y3, m2, rfl, rfl, rfl, hy2, hy3⟩ := open_agg2 Tryz.underlying23 (by kernel_rfl) Tryz.cells23 (hval 1 23 v1 rfl rfl) h1
  obtain ⟨bx, e2, rfl, wb0⟩ := DataW.trod_int Tryz.underlying3 hy2
  obtain ⟨b2, e3, rfl, wb1⟩ := DataW.trod_int Tryz.underlying3 hy3
  obtain ⟨c4, c5, y4, y5, m3, rfl, rfl, rfl, hy4, hy5⟩ := open_agg2 Tryz.underlying23 (by kernel_rfl) Tryz.cells23 (hval 2 23 v2 rfl rfl) h2
  obtain ⟨cx, e4, rfl, wc0⟩ := DataW.trod_int Tryz.underlying3 hy4
  obtain ⟨cy, e5, rfl, wc1⟩ := DataW.trod_int Tryz.underlying3 hy5
  simp at e0 e1 e2 e3 e4 e5
  subst e0 e1 e2 e3 e4 e5
  clear hA0 hval0
  simp only [List.append_nil] at hW'
  refine (law_calls (f := 3) (args := [ptv (ax, ay), ptv (bx, b2), ptv (cx, cy)]) (.cons x15 (.cons x16 (.cons x17 (.cons x18 (.cons x19 .nil))))) rfl (law3 x19 (ax, ay) (bx, b2) (cx, cy)) W).mono fun e W' ⟨he, hb⟩ => ?_
  subst he
  refine ⟨_, rfl, _, _, _, [], [], [], hW', trodAll_mk1 (shutBool true), ?_, rfl, hb.frame _, fun h => by cases h⟩
  exact trodAll_mk3 (Below.trod Tryz.laidOut (by kernel_rfl) (of_decide_eq_true (by kernel_rfl)) k0 hb (by simp)) (Below.trod Tryz.laidOut (by kernel_rfl) (of_decide_eq_true (by kernel_rfl)) k1 hb (by simp)) (Below.trod Tryz.laidOut (by kernel_rfl) (of_decide_eq_true (by kernel_rfl)) k2 hb (by simp))

theorem turns_holds : Rows.PlaneTurnsSaid :=
  OpenClaim.holds_of_wide 3 Tryz.f3 rfl rfl rfl rfl rfl rfl rfl ⟨rfl, rfl, rfl, rfl, rfl⟩ rfl rfl rfl rfl rfl (by kernel_rfl) Tryz.func3 (by kernel_rfl)
    (of_decide_eq_true (by kernel_rfl)) (by unfold Func.isWrapper; first | (rw [if_pos (by decide +kernel)]; kernel_rfl) | (rw [if_neg (by decide +kernel)]; exact ⟨rfl, rfl⟩))
    (fun os started H enc _ => turns_lifted os started H enc)
#print axioms turns_holds
end Go.Proofs.YtagdfcdnfdpocaaGreat
