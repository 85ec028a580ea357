/-
  Where, for wide points; doubled lists. No condition.
-/
import Derived.Test.YtmkcjbpekejgdaaGreatSe42
import Derived.Test.YtmkcjbpekejgdaaGreatSe75
set_option linter.unusedSimpArgs false
set_option linter.unusedVariables false
noncomputable section
namespace Go.Aw
set_option maxRecDepth 100000
def SWw (l : List (Int × Int)) : List Value → Option (Bool × Value)
  | [v] => (match decP v with | some p => some (decide (1 ≤ l.length) && decide (l.length ≤ 200) && l.all wide && wide p, u8 (whI l p)) | none => none)
  | _ => none
theorem SWw_inv {l : List (Int × Int)} {r : List Value} {v : Value} (hs : SWw l r = some (true, v)) : ∃ p, r = [ptv p] ∧ 1 ≤ l.length ∧ l.length ≤ 200 ∧ l.all wide = true ∧ wide p = true ∧ v = u8 (whI l p) := by
  unfold SWw at hs
  split at hs
  · split at hs
    · rename_i p e
      injection hs with hs; injection hs with h1 h2
      simp only [Bool.and_eq_true, decide_eq_true_eq] at h1
      exact ⟨p, by rw [decP_eq e], h1.1.1.1, h1.1.1.2, h1.1.2, h1.2, h2.symm⟩
    · cases hs
  · cases hs
theorem wideS_two {s : Sg} (h : wideS s = true) : wide s.1 = true ∧ wide s.2 = true := by
  unfold wideS at h
  rw [Bool.and_eq_true] at h
  exact h
theorem edge_wide {l : List (Int × Int)} (h : l.all wide = true) {i : Nat} (hi : i < l.length) : wideS (edgeS l i) = true := by
  have hm : (i + 1) % l.length < l.length := Nat.mod_lt _ (by omega)
  unfold wideS edgeS
  rw [at2_eq hi, at2_eq hm, List.all_eq_true.1 h _ (List.getElem_mem hi), List.all_eq_true.1 h _ (List.getElem_mem hm)]
  rfl
def XwW : Nat × XF := (71, lX elP SWw)
attribute [local irreducible] edgeS onS turnS in
theorem xwW : XOK Go.Proofs.Tryz.prog XwW.1 XwW.2 := lX_ok elP (body_calls (xl := [X81, X65, X55]) (.cons x81 (.cons x65 (.cons x55 .nil)))) fun l r v hs => by
  obtain ⟨⟨px, py⟩, rfl, h1', h200', hall, hp, rfl⟩ := SWw_inv hs
  refine ⟨rfl, rfl, fun c => ?_⟩
  clear hs
  (conv => whnf)
  refine ⟨fun n e h nx => ∃ (i : Nat) (j : Int) (b : Bool), j = i ∧ i ≤ l.length ∧ n = l.length - i ∧ (∀ k, k < i → onS (px, py) (edgeS l k) = false) ∧ b = inI l (px, py) i ∧ e = e88 l c j b ∧ h = hW l (px, py) ∧ nx = 2, ⟨l.length, ?_⟩, ?_⟩
  · refine Into_id (e0 := e88 l c 0 false) (h0 := hW l (px, py)) (n0 := 2) ⟨0, 0, false, rfl, Nat.zero_le _, rfl, fun k h => absurd h (Nat.not_lt_zero k), rfl, rfl, rfl, rfl⟩ ?_ ?_ (by decide)
    · unfold e88
      ((repeat' (refine List.forall_mem_cons.2 ⟨⟨rfl, ?_⟩, ?_⟩; (first | exact scT_g rfl | exact ⟨by decide, rfl⟩ | exact ⟨by decide, fun h => (by cases h)⟩))); exact fun _ h => (by cases h))
    · unfold hW
      ((repeat' (refine List.forall_mem_cons.2 ⟨⟨Nat.le_of_ble_eq_true rfl, _, rfl, ?_⟩, ?_⟩; (first | exact ObjRen_g (flat_g _ _) | exact ObjRen_j rfl rfl))); exact fun _ h => (by cases h))
  · rintro n e h nx ⟨i, j, b, hj, hi, rfl, hoff, hb, rfl, rfl, rfl⟩
    unfold e88 hW
    ((conv => whnf); refine bm (fun g1 => ?_) (fun g1 => ?_))
    · have hlt : i < l.length := by simp [cfgS, std] at g1; omega
      have hji : j.toNat = i := by omega
      have re := edge_wide hall hlt
      have w1 : wide (edgeS l i).1 = true := (wideS_two re).1
      have w2 : wide (edgeS l i).2 = true := (wideS_two re).2
      have w3 : wide (px, py) = true := hp
      (conv => whnf)
      refine ⟨l, LsAt_own elP rfl, ?_⟩
      ((conv => whnf); refine bm (fun g2 => ?_) (fun g2 => ?_))
      · ((conv => whnf); refine bm (fun g3 => ?_) (fun g3 => ?_))
        · ((conv => whnf); refine bm (fun g4 => ?_) (fun g4 => ?_))
          · (conv => whnf)
            simp only [pEta, sEta, hji] at g4
            rw [whI_on hlt g4]
            rfl
          · repeat' ((conv => whnf); refine bm (fun g => ?_) (fun g => ?_))
            all_goals (conv => whnf)
            all_goals (simp only [cA_lt, cA_le, cA_eqB, cA_add, cA_fits, fitsK, beq_iff_eq, beq_eq_false_iff_ne, ne_eq, Bool.not_eq_true, Bool.not_eq_false, decide_eq_true_eq, decide_eq_false_iff_not, pEta, sEta, hji, turn_pos] at *)
            all_goals first
              | (have hh : hitE (edgeS l i) (px, py) = true := by
                   simp [hitE, loY, hiY, *] <;> omega
                 refine ⟨l.length - (i + 1), by omega, ?_⟩
                 refine Into_id (e0 := e88 l c (j + 1) (!b)) (h0 := hW l (px, py)) (n0 := 2) ⟨i + 1, j + 1, (!b), by omega, hlt, rfl, fun k hk => ?_, ?_, rfl, rfl, rfl⟩ ?_ ?_ (by decide)
                 · by_cases hki : k = i
                   · subst hki; exact g4
                   · exact hoff k (by omega)
                 · rw [inI, ← hb, hh]
                   cases b <;> rfl
                 · unfold e88
                   ((repeat' (refine List.forall_mem_cons.2 ⟨⟨rfl, ?_⟩, ?_⟩; (first | exact scT_g rfl | exact ⟨by decide, rfl⟩ | exact ⟨by decide, fun h => (by cases h)⟩))); exact fun _ h => (by cases h))
                 · unfold hW
                   ((repeat' (refine List.forall_mem_cons.2 ⟨⟨Nat.le_of_ble_eq_true rfl, _, rfl, ?_⟩, ?_⟩; (first | exact ObjRen_g (flat_g _ _) | exact ObjRen_j rfl rfl))); exact fun _ h => (by cases h))
                 done)
              | (have hh : hitE (edgeS l i) (px, py) = false := by
                   simp [hitE, loY, hiY, *] <;> omega
                 refine ⟨l.length - (i + 1), by omega, ?_⟩
                 refine Into_id (e0 := e88 l c (j + 1) b) (h0 := hW l (px, py)) (n0 := 2) ⟨i + 1, j + 1, b, by omega, hlt, rfl, fun k hk => ?_, ?_, rfl, rfl, rfl⟩ ?_ ?_ (by decide)
                 · by_cases hki : k = i
                   · subst hki; exact g4
                   · exact hoff k (by omega)
                 · rw [inI, ← hb, hh]
                   cases b <;> rfl
                 · unfold e88
                   ((repeat' (refine List.forall_mem_cons.2 ⟨⟨rfl, ?_⟩, ?_⟩; (first | exact scT_g rfl | exact ⟨by decide, rfl⟩ | exact ⟨by decide, fun h => (by cases h)⟩))); exact fun _ h => (by cases h))
                 · unfold hW
                   ((repeat' (refine List.forall_mem_cons.2 ⟨⟨Nat.le_of_ble_eq_true rfl, _, rfl, ?_⟩, ?_⟩; (first | exact ObjRen_g (flat_g _ _) | exact ObjRen_j rfl rfl))); exact fun _ h => (by cases h))
                 done)
              | (exfalso; simp [w1, w2, w3] at *; done)
              | (exfalso; simp only [Bool.and_eq_false_iff, decide_eq_false_iff_not] at *; omega)
              | trace_state
        · exfalso
          simp only [pEta, sEta, hji, w3, re] at g3
          cases g3
      · exfalso; simp only [Bool.and_eq_false_iff, decide_eq_false_iff_not] at g2; omega
    · have hge : i = l.length := by simp [cfgS, std] at g1; omega
      subst hge
      ((conv => whnf); refine bm (fun g => ?_) (fun g => ?_))
      · (conv => whnf)
        rw [whI_off hoff, ← hb, g]
        rfl
      · (conv => whnf)
        rw [whI_off hoff, ← hb, g]
        rfl
end Go.Aw
