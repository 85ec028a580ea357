/-
  Compact, what it leaves in a name of its own; Hull's list of points. No condition.
-/
import Derived.Test.YtmkcjbpekejgdaaGreatSe97
import Derived.Test.YtmkcjbpekejgdaaGreatSe93
set_option linter.unusedSimpArgs false
set_option linter.unusedVariables false
noncomputable section
namespace Go.Aw
open Go.RowKit
set_option maxRecDepth 100000
def cpX : XF := fun args h nx K => match args with
  | [.slice (some ⟨k, 0, none⟩) n c] => ∃ l, n = List.length l ∧ c = l.length ∧ look h k = some (.cells true false 2 (flat elP.fl l)) ∧ cellsH h = true ∧ l.length ≤ 1000000 ∧ 0 < l.length ∧
      K (.slice (some ⟨nx, 0, none⟩) (ddI l l.length).length (ddI l l.length).length) (upd (rem h k) nx (.cells true false 2 (flat elP.fl (ddI l l.length)))) (nx + 1)
  | _ => False
theorem c79 : XOK Go.Proofs.Tryz.prog 79 cpX := by
  refine ⟨fun args h nx K hx ι B w H hsc => ?_, fun args h nx K hx => ?_⟩
  · unfold cpX at hx
    split at hx
    case h_2 => exact hx.elim
    rename_i k n c
    obtain ⟨l, rfl, rfl, hk, hcH, hlen, hpos, hK⟩ := hx
    have hdl := ddI_len l l.length
    have hrun := d79.1 [.slice (some ⟨k, 0, none⟩) l.length l.length] h nx (fun v h' nx' => v = rv k l.length (some (ddI l l.length).length) ∧ h' = upd h k (.cells true false 2 (flat elP.fl (ddI l l.length) ++ rep (l.length - (ddI l l.length).length) [iv 0, iv 0])) ∧ nx' = nx) ⟨l, rfl, hk, hcH, by
      show must (decide (l.length ≤ 1000000) && decide (l.length ≤ l.length)) _
      rw [decide_eq_true hlen, decide_eq_true (Nat.le_refl _)]
      exact ⟨rfl, rfl, rfl⟩⟩ ι B w H hsc
    refine ⟨hrun.1, CallsIn.mono hrun.2 fun e w' hret => ?_⟩
    cases e with
    | returned u =>
      obtain ⟨v, h', nx', ι', ⟨rfl, rfl, rfl⟩, q2, q3, q4, q5, q6, rfl⟩ := hret
      have hsl : k < nx' ∧ ((ι k).isAt = false → l.length = 0 ∧ l.length = 0) := hsc _ (.head _)
      have hk' : look (upd h k (.cells true false 2 (flat elP.fl (ddI l l.length) ++ rep (l.length - (ddI l l.length).length) [iv 0, iv 0]))) k = some _ := look_upd_same h k _
      have ho := q3.obj k _ hk'
      cases hι : ι k with
      | nil p =>
        have := hsl.2 (by rw [hι]; rfl)
        omega
      | lay b off ex =>
        rw [q5 k hsl.1, hι] at ho
        obtain ⟨hB, _, arr, t, hblk, hsz, hcell⟩ := ho
        have hrl : (rep (l.length - (ddI l l.length).length) [iv 0, iv 0]).length = (l.length - (ddI l l.length).length) * 2 := rep_len _ _
        rw [List.length_append, flat2, hrl] at hsz
        have hsub : ∀ j o, look (rem h k) j = some o → j ≠ k ∧ look (upd h k (.cells true false 2 (flat elP.fl (ddI l l.length) ++ rep (l.length - (ddI l l.length).length) [iv 0, iv 0]))) j = some o := by
          intro j o hj
          rw [look_rem] at hj
          split at hj
          · cases hj
          · rename_i hne
            exact ⟨hne, by rw [look_upd_ne _ _ hne]; exact hj⟩
        have H1 : RelH ι' B (rem h k) nx' w' := q3.sub fun j o hj => (hsub j o hj).2
        have H2 := H1.add (.cells true false 2 (flat elP.fl (ddI l l.length))) (.lay b off (ex + (l.length - (ddI l l.length).length))) ⟨hB, (fun h => (by cases h)), arr, t, hblk, by rw [flat2]; omega, fun i v hv => by
            have hi : i < (flat elP.fl (ddI l l.length)).length := (List.getElem?_eq_some_iff.1 hv).1
            have h3 := hcell i v (by rw [List.getElem?_append_left hi]; exact hv)
            rw [trS_g (allG_mem (flat_g elP _) (List.mem_of_getElem? hv))] at h3 ⊢
            exact h3⟩ (fun v hv => scS_g (allG_mem (flat_g elP _) hv)) (fun j o hj _ b' hb' e => by
            obtain ⟨hne, hj2⟩ := hsub j o hj
            have h4 := q3.sep k j _ _ hk' hj2 (fun e => hne e.symm) rfl b' (by rw [q5 k hsl.1, hι]; exact hb')
            exact h4 e)
        refine ⟨_, _, _, _, hK, ⟨(by show nx' < nx' + 1; omega), fun hf => by rw [ins_same] at hf; cases hf⟩, H2, q4, fun j hj => (ins_lt _ _ hj).trans (q5 j hj), by omega, ?_⟩
        simp only [rv, tr, trA, trS, trP, ins_same, q5 k hsl.1, hι]
        congr 1
        omega
    | _ => exact hret.elim
  · unfold cpX at hx
    split at hx
    case h_2 => exact hx.elim
    rename_i k n c
    obtain ⟨l, hn, hc, hk, hcH, hlen, hpos, hK⟩ := hx
    exact ⟨_, _, _, hK, fun K' hk' => ⟨l, hn, hc, hk, hcH, hlen, hpos, hk'⟩⟩
end Go.Aw
