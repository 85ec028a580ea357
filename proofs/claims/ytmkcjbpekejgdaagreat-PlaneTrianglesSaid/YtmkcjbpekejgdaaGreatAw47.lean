/-
  Contracts of functions that write into a list of the caller's own. No condition.
-/
import Derived.Test.YtmkcjbpekejgdaaGreatAwE
set_option linter.unusedSimpArgs false
set_option linter.unusedVariables false
noncomputable section
namespace Go.Aw
open Go.RowKit
section
variable {α : Type} (E : El α)
/-- What is asked; the list as it stands after the call. All else of the caller's is forgotten. -/
def wX (s : List α → Option (Bool × List α)) : XF := fun args h nx K => match args with
  | [.slice (some ⟨k, 0, none⟩) n c] => ∃ l, n = l.length ∧ look h k = some (.cells true false E.sz (flat E.fl l)) ∧ (match s l with | some p => must p.1 (K (.tuple #[]) [(k, .cells true false E.sz (flat E.fl p.2))] nx) | none => False)
  | _ => False
theorem ORel_g {ι ι' : Nat → Loc} {B : Nat} {w : World} {sz : Nat} {cs : List Value} {loc : Loc} (hg : allG cs = true) (h : ORel ι B w (.cells true false sz cs) loc) : ORel ι' B w (.cells true false sz cs) loc := by
  cases loc with
  | nil p => exact h
  | lay b o e =>
    obtain ⟨x1, x2, arr, t, x3, x4, x5⟩ := h
    refine ⟨x1, x2, arr, t, x3, x4, fun i v hv => ?_⟩
    rw [x5 i v hv, trS_g (allG_mem hg (List.mem_of_getElem? hv)), trS_g (allG_mem hg (List.mem_of_getElem? hv))]
theorem RelH_one {ι : Nat → Loc} {B n k : Nat} {w : World} {sz : Nat} {cs : List Value} (hg : allG cs = true) (ho : ORel ι B w (.cells true false sz cs) (ι k)) (hk : k < n) (hB : B ≤ w.heap.size) : RelH ι B [(k, .cells true false sz cs)] n w := by
  have key : ∀ j o, look [(k, AObj.cells true false sz cs)] j = some o → j = k ∧ o = .cells true false sz cs := by
    intro j o hj
    rw [look_cons] at hj
    split at hj
    · rename_i hb
      injection hj with hj
      exact ⟨(beq_true hb).symm, hj.symm⟩
    · exact noLook hj
  refine ⟨fun j o hj => ?_, fun j j' o o' hj hj' hne => ?_, fun j o hj => ?_, hB, fun j o hj => ?_⟩
  · obtain ⟨rfl, rfl⟩ := key j o hj
    exact ho
  · exact absurd ((key j o hj).1.trans (key j' o' hj').1.symm) hne
  · rw [(key j o hj).1]; exact hk
  · obtain ⟨rfl, rfl⟩ := key j o hj
    exact fun v hv => scS_g (allG_mem hg hv)
theorem wX_ok {P : Program} {C : VC} {f : Nat} {s : List α → Option (Bool × List α)} (hC : CallsOK P C)
    (hs : ∀ l l', s l = some (true, l') → ∀ c, C f [.slice (some ⟨0, 0, none⟩) l.length c] [(0, .cells true false E.sz (flat E.fl l))] 1 (fun v h _ => v = .tuple #[] ∧ look h 0 = some (.cells true false E.sz (flat E.fl l')))) : XOK P f (wX E s) := by
  refine ⟨fun args h nx K hx ι B w H hsc => ?_, fun args h nx K hx => ?_⟩
  · unfold wX at hx
    split at hx
    case h_2 => exact hx.elim
    rename_i k n c
    obtain ⟨l, rfl, hk, hx⟩ := hx
    split at hx
    case h_2 => exact hx.elim
    rename_i p e1
    obtain ⟨b, l'⟩ := p
    obtain ⟨rfl, hx⟩ := must_iff.1 hx
    have hsl := hsc _ (.head _)
    have ho := H.obj k _ hk
    have hlow := H.low k _ hk
    have hrun := hC f _ _ 1 _ (hs l l' e1 c) (fun _ => ι k) B w (RelH_one (flat_g E l) (ORel_g (flat_g E l) ho) (by decide) H.size) (fun v hv => by
      cases hv with
      | head => exact ⟨show (0 : Nat) < 1 by decide, hsl.2⟩
      | tail _ hm => cases hm)
    refine ⟨hrun.1, ?_⟩
    have he : ([.slice (some ⟨k, 0, none⟩) l.length c] : List Value).map (tr ι) = ([.slice (some ⟨0, 0, none⟩) l.length c] : List Value).map (tr (fun _ => ι k)) := rfl
    rw [he]
    refine CallsIn.mono hrun.2 fun e w' hr => ?_
    cases e with
    | returned u =>
      obtain ⟨v, h', nx', ι', ⟨rfl, q1⟩, q2, q3, q4, q5, q6, rfl⟩ := hr
      have ho' := q3.obj 0 _ q1
      rw [q5 0 (by decide)] at ho'
      refine ⟨.tuple #[], _, nx, ι, hx, (fun v hv => (by cases hv)), RelH_one (flat_g E l') (ORel_g (flat_g E l') ho') hlow q3.size, q4, fun _ _ => rfl, Nat.le_refl _, by simp [tr]⟩
    | _ => exact hr.elim
  · unfold wX at hx
    split at hx
    case h_2 => exact hx.elim
    rename_i k n c
    obtain ⟨l, hn, hk, hx⟩ := hx
    split at hx
    case h_2 => exact hx.elim
    rename_i p e1
    obtain ⟨hb, hx⟩ := must_iff.1 hx
    exact ⟨_, _, _, hx, fun K' hk' => ⟨l, hn, hk, by rw [e1]; exact must_of hb hk'⟩⟩
end
end Go.Aw
