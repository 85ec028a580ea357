/-
  A law's run whose first argument is a list: lists that are not empty, and empty ones. No condition.
-/
import Derived.Test.YtmkcjbpekejgdaaGreatSe19
set_option linter.unusedSimpArgs false
set_option linter.unusedVariables false
noncomputable section
namespace Go.Proofs.YtmkcjbpekejgdaaGreat
open Go.ChangeShapes Go.WideShapes Go.ChangeAt Go.RowKit Go.Aw Go.Joins
theorem law_run2 {C : VC} (hC : CallsOK Tryz.prog C) {f : Nat} {args : List Value} {h0 : Heap} {n : Nat} (hb : C f args h0 n (fun u _ _ => u = .bool true)) {ι : Nat → Go.Aw.Loc} {W : World} (H : RelH ι W.heap.size h0 n W) (hs : ∀ v ∈ args, scT ι n v) {av : Array Value} (he : (args.map (tr ι)).toArray = av) :
    Calls Tryz.prog f av W (fun e W' => e = .returned (.bool true) ∧ Below W.heap.size W W') := by
  obtain ⟨_, h⟩ := hC f args h0 n _ hb ι W.heap.size W H hs
  rw [he] at h
  refine callsIn_wide.1 (CallsIn.mono h fun e W' hr => ?_)
  cases e with
  | returned u =>
    obtain ⟨v, h', nx', ι', rfl, _, _, hb2, _, _, rfl⟩ := hr
    exact ⟨rfl, hb2.kit⟩
  | _ => exact hr.elim
theorem hone {loc : Go.Aw.Loc} {W : World} (o : AObj) (ho : ORel (fun _ => loc) W.heap.size W o loc) (hsc : ∀ w, OSc (fun _ => loc) w o) : RelH (fun _ => loc) W.heap.size [(0, o)] 1 W :=
  ⟨fun k o' hk => by
      rw [look_cons] at hk
      split at hk
      · injection hk with hk; subst hk; exact ho
      · exact noLook hk, fun k k' o1 o2 hk hk' hne ha => by
      rw [look_cons] at hk hk'
      split at hk
      · rename_i hb1
        split at hk'
        · rename_i hb2; exact absurd ((beq_true hb1).symm.trans (beq_true hb2)) hne
        · exact noLook hk'
      · exact noLook hk, fun k o' hk => by
      rw [look_cons] at hk
      split at hk
      · rename_i hb; rw [← beq_true hb]; exact Nat.one_pos
      · exact noLook hk, Nat.le_refl _, fun k o' hk => by
      rw [look_cons] at hk
      split at hk
      · injection hk with hk; subst hk; exact hsc _
      · exact noLook hk⟩
theorem run_l {α : Type} (E : El α) {C1 C2 : VC} (k1 : CallsOK Tryz.prog C1) (k2 : CallsOK Tryz.prog C2) {f : Nat} {r : List Value} (hr : allGA r = true)
    {l : List α} {c : Nat} (hcons : 0 < l.length → C1 f (.slice (some ⟨0, 0, none⟩) l.length c :: r) [(0, .cells false true E.sz (flat E.fl l))] 1 (fun u _ _ => u = .bool true))
    (hn : C2 f (.slice none 0 0 :: r) [] 0 (fun u _ _ => u = .bool true))
    (hem : ∀ c, C2 f (.slice (some ⟨0, 0, none⟩) 0 c :: r) [(0, .cells false true 0 [])] 1 (fun u _ _ => u = .bool true))
    {loc : Go.Aw.Loc} {W : World} {v : Value} (e1 : v = tr (fun _ => loc) (.slice (some ⟨0, 0, none⟩) l.length c)) (e2 : loc.isAt = false → l.length = 0 ∧ c = 0) (e3 : ORel (fun _ => loc) W.heap.size W (.cells false true E.sz (flat E.fl l)) loc) :
    Calls Tryz.prog f (v :: r).toArray W (fun e W' => e = .returned (.bool true) ∧ Below W.heap.size W W') := by
  have hmap : ∀ ι : Nat → Go.Aw.Loc, r.map (tr ι) = r := fun ι => by
    conv => rhs; rw [← List.map_id r]
    exact List.map_congr_left fun v hv => tr_g (allGA_mem hr hv)
  have hsc : ∀ (ι : Nat → Go.Aw.Loc) (n : Nat) (u : Value), scT ι n u → ∀ v ∈ u :: r, scT ι n v := fun ι n u hu v hv => by
    rcases List.mem_cons.1 hv with rfl | hv
    · exact hu
    · exact scT_g (allGA_mem hr hv)
  cases l with
  | cons p t =>
    exact law_run2 k1 (hcons (Nat.succ_pos _)) (hone _ e3 (fun w v hv => scS_g (allG_mem (flat_g E _) hv))) (hsc _ _ _ ⟨Nat.one_pos, e2⟩) (by rw [e1, List.map_cons, hmap])
  | nil =>
    cases loc with
    | nil p =>
      obtain ⟨-, rfl⟩ := e2 rfl
      cases p with
      | none =>
        have e4 : v = .slice none 0 0 := e1
        rw [e4]
        exact law_run2 k2 hn (ι := fun _ => .nil none) ⟨fun k o hk => noLook hk, fun k k' o o' hk => noLook hk, fun k o hk => noLook hk, Nat.le_refl _, fun k o hk => noLook hk⟩ (hsc _ _ _ (scT_g rfl)) (by rw [List.map_cons, hmap]; rfl)
      | some a =>
        have e4 : v = .slice (some a) 0 0 := e1
        rw [e4]
        exact law_run2 k2 (hem 0) (hone (loc := .nil (some a)) (W := W) (.cells false true 0 []) ⟨rfl, fun _ => rfl⟩ (fun w v hv => by cases hv)) (hsc (fun _ => .nil (some a)) 1 _ ⟨Nat.one_pos, fun _ => ⟨rfl, rfl⟩⟩) (by rw [List.map_cons, hmap]; rfl)
    | lay b off ex =>
      rw [e1]
      exact law_run2 k2 (hem c) (hone (loc := .lay b off ex) (W := W) (.cells false true 0 []) ⟨e3.1, fun _ => rfl, fun i v hv => by simp at hv⟩ (fun w v hv => by cases hv)) (hsc (fun _ => .lay b off ex) 1 _ ⟨Nat.one_pos, fun h => by cases h⟩) (by rw [List.map_cons, hmap]; rfl)
end Go.Proofs.YtmkcjbpekejgdaaGreat
