/-
  PlaneHolds returns true, for every list of points. No condition.
-/
import Derived.Test.YtmkcjbpekejgdaaGreatSe109
import Derived.Test.YtmkcjbpekejgdaaGreatSe110
import Derived.Test.YtmkcjbpekejgdaaGreatSe19
set_option linter.unusedSimpArgs false
set_option linter.unusedVariables false
noncomputable section
namespace Go.Proofs.YtmkcjbpekejgdaaGreat
open Go.ChangeShapes Go.WideShapes Go.ChangeAt Go.RowKit Go.Aw Go.Joins
theorem pt_el {H : Type} {enc : TypeId × Value → H} {W : World} {held : Bool} {fuel : Nat} {cs : List Value} {x : DataW H × List MemPlace} (h : DataW.trod enc Tryz.prog W 0 (fun _ => true) held fuel 32 cs = some x) : ∃ a, cs = elP.fl a := by
  obtain ⟨a, b, e⟩ := pt_cells h
  exact ⟨(a, b), e⟩
/-- A law's run, from what its body does. -/
theorem law_run {C : VC} (hC : CallsOK Tryz.prog C) {f : Nat} {args : List Value} {h0 : Heap} {n : Nat} (hb : C f args h0 n (fun u _ _ => u = .bool true)) {ι : Nat → Go.Aw.Loc} {W : World} (H : RelH ι W.heap.size h0 n W) (hs : ∀ v ∈ args, scT ι n v) {av : Array Value} (he : (args.map (tr ι)).toArray = av) :
    Calls Tryz.prog f av W (fun e W' => e = .returned (.bool true) ∧ Below W.heap.size W W') := by
  obtain ⟨_, h⟩ := hC f args h0 n _ hb ι W.heap.size W H hs
  rw [he] at h
  refine callsIn_wide.1 (CallsIn.mono h fun e W' hr => ?_)
  cases e with
  | returned u =>
    obtain ⟨v, h', nx', ι', rfl, _, _, hb2, _, _, rfl⟩ := hr
    exact ⟨rfl, hb2.kit⟩
  | _ => exact hr.elim
attribute [local irreducible] bodyE bodyO in
theorem holds_run {l : List (Int × Int)} {c : Nat} {loc : Go.Aw.Loc} {W : World} {a0 : Option Addr} {n0 c0 : Nat} (e1 : Value.slice a0 n0 c0 = tr (fun _ => loc) (.slice (some ⟨0, 0, none⟩) l.length c)) (e2 : loc.isAt = false → l.length = 0 ∧ c = 0) (e3 : ORel (fun _ => loc) W.heap.size W (.cells false true 2 (flat elP.fl l)) loc) :
    Calls Tryz.prog 12 #[.slice a0 n0 c0] W (fun e W' => e = .returned (.bool true) ∧ Below W.heap.size W W') := by
  have hone : ∀ (o : AObj), ORel (fun _ => loc) W.heap.size W o loc → (∀ w, OSc (fun _ => loc) w o) → RelH (fun _ => loc) W.heap.size [(0, o)] 1 W := fun o ho hsc => ⟨fun k o' hk => by
      rw [look_cons] at hk
      split at hk
      · injection hk with hk; subst hk; exact ho
      · exact noLook hk, fun k k' o1 o2 hk hk' hne ha => by
      rw [look_cons] at hk hk'
      split at hk
      · rename_i hb1
        split at hk'
        · rename_i hb2; exact absurd ((beq_true hb1).symm.trans (beq_true hb2)) hne
        · exact noLook hk'
      · exact noLook hk, fun k o' hk => by
      rw [look_cons] at hk
      split at hk
      · rename_i hb; rw [← beq_true hb]; exact Nat.one_pos
      · exact noLook hk, Nat.le_refl _, fun k o' hk => by
      rw [look_cons] at hk
      split at hk
      · injection hk with hk; subst hk; exact hsc _
      · exact noLook hk⟩
  cases l with
  | cons p t =>
    exact law_run (C := bodyO [X19, D33, X48, X36, X20, X40, X15]) (f := 12) (args := [.slice (some ⟨0, 0, none⟩) (p :: t).length c]) (h0 := [(0, .cells false true 2 (flat elP.fl (p :: t)))]) (n := 1) (bodyO_calls (.cons x19 (.cons d33 (.cons x48 (.cons x36 (.cons x20 (.cons x40 (.cons x15 .nil)))))))) (law12 (p :: t) (Nat.succ_pos _) c) (hone _ e3 (fun w v hv => scS_g (allG_mem (flat_g elP _) hv))) (fun v hv => by rw [List.mem_singleton.1 hv]; exact ⟨Nat.one_pos, e2⟩) (by rw [e1]; rfl)
  | nil =>
    cases loc with
    | nil p =>
      obtain ⟨-, rfl⟩ := e2 rfl
      cases p with
      | none =>
        have e4 : Value.slice a0 n0 c0 = .slice none 0 0 := e1
        rw [e4]
        exact law_run (C := bodyE) (f := 12) (args := [.slice none 0 0]) (h0 := []) (n := 0) bodyE_calls law12n (ι := fun _ => .nil none) ⟨fun k o hk => noLook hk, fun k k' o o' hk => noLook hk, fun k o hk => noLook hk, Nat.le_refl _, fun k o hk => noLook hk⟩ (fun v hv => by rw [List.mem_singleton.1 hv]; exact scT_g rfl) rfl
      | some a =>
        have e4 : Value.slice a0 n0 c0 = .slice (some a) 0 0 := e1
        rw [e4]
        exact law_run (C := bodyE) (f := 12) (args := [.slice (some ⟨0, 0, none⟩) 0 0]) (h0 := [(0, .cells false true 0 [])]) (n := 1) bodyE_calls (law12e 0) (hone (.cells false true 0 []) ⟨rfl, fun _ => rfl⟩ (fun w v hv => by cases hv)) (fun v hv => by rw [List.mem_singleton.1 hv]; exact ⟨Nat.one_pos, fun _ => ⟨rfl, rfl⟩⟩) rfl
    | lay b off ex =>
      rw [e1]
      exact law_run (C := bodyE) (f := 12) (args := [.slice (some ⟨0, 0, none⟩) 0 c]) (h0 := [(0, .cells false true 0 [])]) (n := 1) bodyE_calls (law12e c) (hone (.cells false true 0 []) ⟨e3.1, fun _ => rfl, fun i v hv => by simp at hv⟩ (fun w v hv => by cases hv)) (fun v hv => by rw [List.mem_singleton.1 hv]; exact ⟨Nat.one_pos, fun h => by cases h⟩) rfl
set_option maxRecDepth 100000 in
theorem holds_lifted (os : Os) (started : os.Started) (H : Type) (enc : TypeId × Value → H) :
    ReturnsInHanded {} Tryz.checked os 12 .any (Rows.planeHoldsSpec.pre6 enc Tryz.prog Tryz.f12 Rows.planeHoldsRow.domain false) (Rows.planeHoldsSpec.post enc Tryz.prog Tryz.f12 false true false false) := by
  refine returnsInHanded_of_change (C := Tryz.checked) Tryz.own started (by kernel_rfl) Tryz.func12
    (ChangeSpec.witness6 (enc := enc) (C := Tryz.checked) false ⟨#[], #[.slice none 0 0], []⟩ 12 (by kernel_rfl) (by kernel_rfl) (by kernel_rfl) (by kernel_rfl)) ?_
  intro W base args ds gs before hval0 hW hcnd _
  have hval : ∀ (j : Nat) t v, Tryz.f12.params[j]? = some t → args[j]? = some v → Value.okWide Tryz.prog W .any base t v := hval0
  have hW' := hW
  obtain ⟨p, q, hA0, hV, rfl, hfz, hnd⟩ := hW
  have hA : DataW.TrodAll enc Tryz.prog W 0 (fun _ => true) true Tryz.f12.params.toList args.toList ds p := hA0
  rw [Tryz.params12] at hA hval
  obtain ⟨v0, d0, rfl, rfl, h0⟩ := trodAll_one hA
  obtain ⟨rfl, rfl⟩ := trodVars_none hV
  obtain ⟨a0, len, cap, rfl⟩ := okWide_slice Tryz.underlying22 (hval 0 22 v0 rfl rfl)
  obtain ⟨l, c, loc, e1, e2, e3⟩ := open_list elP (by decide) Tryz.underlying22 Tryz.cells32 pt_el h0
  clear hA0 hval0
  simp only [List.append_nil] at hW'
  have hlt : ∀ x ∈ p, x.block < W.heap.size := fun x hx => by simpa using hW'.lt x hx
  refine (holds_run e1 e2 e3).mono fun e W' ⟨he, hb⟩ => ?_
  subst he
  refine ⟨_, rfl, _, _, _, [], p, [], hW', trodAll_mk1 (shutBool true), ?_, rfl, hb.frame _, fun h => by cases h⟩
  exact trodAll_mk1 (Below.trod Tryz.laidOut (by kernel_rfl) (of_decide_eq_true (by kernel_rfl)) h0 hb hlt)

theorem holds_holds : Rows.PlaneHoldsSaid :=
  OpenClaim.holds_of_wide 12 Tryz.f12 rfl rfl rfl rfl rfl rfl rfl ⟨rfl, rfl, rfl, rfl, rfl⟩ rfl rfl rfl rfl rfl (by kernel_rfl) Tryz.func12 (by kernel_rfl)
    (of_decide_eq_true (by kernel_rfl)) (by unfold Func.isWrapper; first | (rw [if_pos (by decide +kernel)]; kernel_rfl) | (rw [if_neg (by decide +kernel)]; exact ⟨rfl, rfl⟩))
    (fun os started H enc _ => holds_lifted os started H enc)
#print axioms holds_holds
end Go.Proofs.YtmkcjbpekejgdaaGreat
