/-
  Where of both; PlaneWhere's body. No condition.
-/
import Derived.Test.YtmkcjbpekejgdaaGreatSe41
set_option linter.unusedSimpArgs false
set_option linter.unusedVariables false
noncomputable section
namespace Go.Aw
set_option maxRecDepth 100000
def e89 (l : List (Int × Int)) (c : Nat) (j : Int) : List (Nat × Value) := [(0, .slice (some ⟨0, 0, none⟩) l.length c), (3, .pointer (some ⟨1, 0, none⟩)), (5, iv j)]
def X89 : Nat × XF := (89, lX elP SWh)
attribute [local irreducible] edgeS onR in
theorem x89 : XOK Go.Proofs.Tryz.prog X89.1 X89.2 := lX_ok elP (body_calls (xl := [X84, X67, X128]) (.cons x84 (.cons x67 (.cons x128 .nil)))) fun l r v hs => by
  obtain ⟨⟨px, py⟩, rfl, hgood, hp, rfl⟩ := SWh_inv hs
  refine ⟨rfl, rfl, fun c => ?_⟩
  have h3' := hgood.1
  have h200' := hgood.2.1
  clear hs
  (conv => whnf)
  refine ⟨fun n e h nx => ∃ (i : Nat) (j : Int), j = i ∧ i ≤ l.length ∧ n = l.length - i ∧ (∀ k, k < i → onS (px, py) (edgeS l k) = false) ∧ e = e89 l c j ∧ h = hW l (px, py) ∧ nx = 2, ⟨l.length, ?_⟩, ?_⟩
  · refine Into_id (e0 := e89 l c 0) (h0 := hW l (px, py)) (n0 := 2) ⟨0, 0, rfl, Nat.zero_le _, rfl, fun k h => absurd h (Nat.not_lt_zero k), rfl, rfl, rfl⟩ ?_ ?_ (by decide)
    · unfold e89
      ((repeat' (refine List.forall_mem_cons.2 ⟨⟨rfl, ?_⟩, ?_⟩; (first | exact scT_g rfl | exact ⟨by decide, rfl⟩ | exact ⟨by decide, fun h => (by cases h)⟩))); exact fun _ h => (by cases h))
    · unfold hW
      ((repeat' (refine List.forall_mem_cons.2 ⟨⟨Nat.le_of_ble_eq_true rfl, _, rfl, ?_⟩, ?_⟩; (first | exact ObjRen_g (flat_g _ _) | exact ObjRen_j rfl rfl))); exact fun _ h => (by cases h))
  · rintro n e h nx ⟨i, j, hj, hi, rfl, hoff, rfl, rfl, rfl⟩
    unfold e89 hW
    ((conv => whnf); refine bm (fun g1 => ?_) (fun g1 => ?_))
    · have hlt : i < l.length := by simp [cfgS, std] at g1; omega
      have hji : j.toNat = i := by omega
      have re := edge_right hgood hlt
      have w3 : wide (px, py) = true := rightS_wide hp
      (conv => whnf)
      refine ⟨l, LsAt_own elP rfl, ?_⟩
      ((conv => whnf); refine bm (fun g2 => ?_) (fun g2 => ?_))
      · ((conv => whnf); refine bm (fun g3 => ?_) (fun g3 => ?_))
        · ((conv => whnf); refine bm (fun g4 => ?_) (fun g4 => ?_))
          · (conv => whnf)
            simp only [pEta, sEta, hji] at g4
            rw [whI_on hlt (by rw [on_eq _ _ re]; exact g4)]
            rfl
          · ((conv => whnf); refine bm (fun g => ?_) (fun g => ?_))
            · (conv => whnf)
              simp only [pEta, sEta, hji] at g4
              refine ⟨l.length - (i + 1), by omega, ?_⟩
              refine Into_id (e0 := e89 l c (j + 1)) (h0 := hW l (px, py)) (n0 := 2) ⟨i + 1, j + 1, by omega, hlt, rfl, fun k hk => ?_, rfl, rfl, rfl⟩ ?_ ?_ (by decide)
              · by_cases hki : k = i
                · subst hki; rw [on_eq _ _ re]; exact g4
                · exact hoff k (by omega)
              · unfold e89
                ((repeat' (refine List.forall_mem_cons.2 ⟨⟨rfl, ?_⟩, ?_⟩; (first | exact scT_g rfl | exact ⟨by decide, rfl⟩ | exact ⟨by decide, fun h => (by cases h)⟩))); exact fun _ h => (by cases h))
              · unfold hW
                ((repeat' (refine List.forall_mem_cons.2 ⟨⟨Nat.le_of_ble_eq_true rfl, _, rfl, ?_⟩, ?_⟩; (first | exact ObjRen_g (flat_g _ _) | exact ObjRen_j rfl rfl))); exact fun _ h => (by cases h))
            · exfalso; simp only [cA_add, cA_fits, fitsK, Bool.eq_false_iff, ne_eq, Bool.and_eq_true, decide_eq_true_eq] at g; omega
        · exfalso
          simp only [pEta, sEta, hji, w3, rightG_wide re] at g3
          cases g3
      · exfalso; simp only [Bool.and_eq_false_iff, decide_eq_false_iff_not] at g2; omega
    · have hge : i = l.length := by simp [cfgS, std] at g1; omega
      subst hge
      have hr := right_low hp
      (conv => whnf)
      refine ⟨l, LsAt_own elP rfl, ?_⟩
      ((conv => whnf); refine bm (fun g => ?_) (fun g => ?_))
      · ((conv => whnf); refine bm (fun g2 => ?_) (fun g2 => ?_))
        · (conv => whnf)
          rw [whI_off hoff, show inI l (px, py) l.length = true from g2]
          rfl
        · (conv => whnf)
          rw [whI_off hoff, show inI l (px, py) l.length = false from g2]
          rfl
      · exfalso
        simp only [goodL_iff.2 hgood] at g
        simp at g
        simp only at hr
        omega
def WhV (l : List (Int × Int)) (p : Int × Int) : Int := if polyE l = 0 ∧ rightS p = true then whI l p else 0
def SWhere (l : List (Int × Int)) : List Value → Option (Bool × Value)
  | [v] => (match decP v with | some p => some (decide (l.length ≤ 1000000000), u8 (WhV l p)) | none => none)
  | _ => none
theorem SWhere_inv {l : List (Int × Int)} {r : List Value} {v : Value} (hs : SWhere l r = some (true, v)) : ∃ p, r = [ptv p] ∧ l.length ≤ 1000000000 ∧ v = u8 (WhV l p) := by
  unfold SWhere at hs
  split at hs
  · split at hs
    · rename_i p e
      injection hs with hs; injection hs with h1 h2
      exact ⟨p, by rw [decP_eq e], by simpa using h1, h2.symm⟩
    · cases hs
  · cases hs
def X40 : Nat × XF := (29, lX elP SWhere)
attribute [local irreducible] polyE whI in
theorem x40 : XOK Go.Proofs.Tryz.prog X40.1 X40.2 := lX_ok elP (body_calls (xl := [X32, X58, X88]) (.cons x32 (.cons x58 (.cons x88 .nil)))) fun l r v hs => by
  obtain ⟨⟨px, py⟩, rfl, hlen, rfl⟩ := SWhere_inv hs
  refine ⟨rfl, rfl, fun c => ?_⟩
  clear hs
  repeat' first
    | (((conv => whnf); refine bm (fun g => ?_) (fun g => ?_)))
    | ((conv => whnf)
       refine Exists.intro l (And.intro (LsAt_own elP rfl) ?_))
  all_goals (conv => whnf)
  all_goals (simp only [cA_eq, cA_eqB, cA_notB, beq_iff_eq, beq_eq_false_iff_ne, ne_eq, Bool.not_eq_true', Bool.not_eq_false', Bool.not_eq_true, Bool.not_eq_false, decide_eq_true_eq, decide_eq_false_iff_not, pEta] at *)
  all_goals first
    | (show u8 _ = u8 _
       simp only [WhV, *, and_self, and_true, and_false, if_true, if_false, Bool.false_eq_true, false_and]
       done)
    | (exfalso; omega)
    | (exfalso
       have hg := goodL_iff.2 (polyE_ok (by assumption)).1
       simp_all
       done)
    | trace_state
end Go.Aw
