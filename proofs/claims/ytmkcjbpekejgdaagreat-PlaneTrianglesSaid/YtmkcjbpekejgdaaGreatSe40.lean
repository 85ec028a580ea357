/-
  Where points are: what is asked; the program's. No condition.
-/
import Derived.Test.YtmkcjbpekejgdaaGreatSe39
set_option linter.unusedSimpArgs false
set_option linter.unusedVariables false
noncomputable section
namespace Go.Aw
set_option maxRecDepth 100000
def loY (e : Sg) : Int × Int := if e.2.2 < e.1.2 then e.2 else e.1
def hiY (e : Sg) : Int × Int := if e.2.2 < e.1.2 then e.1 else e.2
def hitE (e : Sg) (p : Int × Int) : Bool := decide ((loY e).2 ≤ p.2) && decide (p.2 < (hiY e).2) && decide (0 < crossI (loY e) (hiY e) p)
def inI (l : List (Int × Int)) (p : Int × Int) : Nat → Bool
  | 0 => false
  | i + 1 => inI l p i != hitE (edgeS l i) p
def onP (l : List (Int × Int)) (p : Int × Int) : Prop := ∃ i, i < l.length ∧ onS p (edgeS l i) = true
open Classical in
def whI (l : List (Int × Int)) (p : Int × Int) : Int := if onP l p then 1 else if inI l p l.length = true then 2 else 0
theorem whI_on {l : List (Int × Int)} {p : Int × Int} {i : Nat} (hi : i < l.length) (h : onS p (edgeS l i) = true) : whI l p = 1 := by rw [whI, if_pos ⟨i, hi, h⟩]
theorem whI_off {l : List (Int × Int)} {p : Int × Int} (h : ∀ i, i < l.length → onS p (edgeS l i) = false) : whI l p = if inI l p l.length = true then 2 else 0 := by
  rw [whI, if_neg]
  rintro ⟨i, hi, h2⟩
  rw [h i hi] at h2
  cases h2
theorem sgn_pos (n : Int) : 0 < sgn n ↔ 0 < n := by
  unfold sgn
  split <;> (try split) <;> omega
theorem turn_pos (a b c : Int × Int) : 0 < turnS a b c ↔ 0 < crossI a b c := sgn_pos _
def SWh (l : List (Int × Int)) : List Value → Option (Bool × Value)
  | [v] => (match decP v with | some p => some (goodL l && rightS p, u8 (whI l p)) | none => none)
  | _ => none
theorem SWh_inv {l : List (Int × Int)} {r : List Value} {v : Value} (hs : SWh l r = some (true, v)) : ∃ p, r = [ptv p] ∧ goodP l ∧ rightS p = true ∧ v = u8 (whI l p) := by
  unfold SWh at hs
  split at hs
  · split at hs
    · rename_i p e
      injection hs with hs; injection hs with h1 h2
      simp only [Bool.and_eq_true] at h1
      exact ⟨p, by rw [decP_eq e], goodL_iff.1 h1.1, h1.2, h2.symm⟩
    · cases hs
  · cases hs
def e88 (l : List (Int × Int)) (c : Nat) (j : Int) (b : Bool) : List (Nat × Value) := [(0, .slice (some ⟨0, 0, none⟩) l.length c), (3, .pointer (some ⟨1, 0, none⟩)), (5, .bool b), (11, iv l.length), (12, iv j)]
def hW (l : List (Int × Int)) (p : Int × Int) : Heap := [(0, .cells false true 2 (flat elP.fl l)), (1, .cells true false 1 [iv p.1, iv p.2])]
def X88 : Nat × XF := (71, lX elP SWh)
attribute [local irreducible] edgeS onS turnS in
theorem x88 : XOK Go.Proofs.Tryz.prog X88.1 X88.2 := lX_ok elP (body_calls (xl := [X81, X65, X55]) (.cons x81 (.cons x65 (.cons x55 .nil)))) fun l r v hs => by
  obtain ⟨⟨px, py⟩, rfl, hgood, hp, rfl⟩ := SWh_inv hs
  refine ⟨rfl, rfl, fun c => ?_⟩
  have h3' := hgood.1
  have h200' := hgood.2.1
  clear hs
  (conv => whnf)
  refine ⟨fun n e h nx => ∃ (i : Nat) (j : Int) (b : Bool), j = i ∧ i ≤ l.length ∧ n = l.length - i ∧ (∀ k, k < i → onS (px, py) (edgeS l k) = false) ∧ b = inI l (px, py) i ∧ e = e88 l c j b ∧ h = hW l (px, py) ∧ nx = 2, ⟨l.length, ?_⟩, ?_⟩
  · refine Into_id (e0 := e88 l c 0 false) (h0 := hW l (px, py)) (n0 := 2) ⟨0, 0, false, rfl, Nat.zero_le _, rfl, fun k h => absurd h (Nat.not_lt_zero k), rfl, rfl, rfl, rfl⟩ ?_ ?_ (by decide)
    · unfold e88
      ((repeat' (refine List.forall_mem_cons.2 ⟨⟨rfl, ?_⟩, ?_⟩; (first | exact scT_g rfl | exact ⟨by decide, rfl⟩ | exact ⟨by decide, fun h => (by cases h)⟩))); exact fun _ h => (by cases h))
    · unfold hW
      ((repeat' (refine List.forall_mem_cons.2 ⟨⟨Nat.le_of_ble_eq_true rfl, _, rfl, ?_⟩, ?_⟩; (first | exact ObjRen_g (flat_g _ _) | exact ObjRen_j rfl rfl))); exact fun _ h => (by cases h))
  · rintro n e h nx ⟨i, j, b, hj, hi, rfl, hoff, hb, rfl, rfl, rfl⟩
    unfold e88 hW
    ((conv => whnf); refine bm (fun g1 => ?_) (fun g1 => ?_))
    · have hlt : i < l.length := by simp [cfgS, std] at g1; omega
      have hji : j.toNat = i := by omega
      have re := edge_right hgood hlt
      have w1 : wide (edgeS l i).1 = true := rightS_wide (right_two re).1
      have w2 : wide (edgeS l i).2 = true := rightS_wide (right_two re).2.1
      have w3 : wide (px, py) = true := rightS_wide hp
      (conv => whnf)
      refine ⟨l, LsAt_own elP rfl, ?_⟩
      ((conv => whnf); refine bm (fun g2 => ?_) (fun g2 => ?_))
      · ((conv => whnf); refine bm (fun g3 => ?_) (fun g3 => ?_))
        · ((conv => whnf); refine bm (fun g4 => ?_) (fun g4 => ?_))
          · (conv => whnf)
            simp only [pEta, sEta, hji] at g4
            rw [whI_on hlt g4]
            rfl
          · repeat' ((conv => whnf); refine bm (fun g => ?_) (fun g => ?_))
            all_goals (conv => whnf)
            all_goals (simp only [cA_lt, cA_le, cA_eqB, cA_add, cA_fits, fitsK, beq_iff_eq, beq_eq_false_iff_ne, ne_eq, Bool.not_eq_true, Bool.not_eq_false, decide_eq_true_eq, decide_eq_false_iff_not, pEta, sEta, hji, turn_pos] at *)
            all_goals first
              | (have hh : hitE (edgeS l i) (px, py) = true := by
                   simp [hitE, loY, hiY, *] <;> omega
                 refine ⟨l.length - (i + 1), by omega, ?_⟩
                 refine Into_id (e0 := e88 l c (j + 1) (!b)) (h0 := hW l (px, py)) (n0 := 2) ⟨i + 1, j + 1, (!b), by omega, hlt, rfl, fun k hk => ?_, ?_, rfl, rfl, rfl⟩ ?_ ?_ (by decide)
                 · by_cases hki : k = i
                   · subst hki; exact g4
                   · exact hoff k (by omega)
                 · rw [inI, ← hb, hh]
                   cases b <;> rfl
                 · unfold e88
                   ((repeat' (refine List.forall_mem_cons.2 ⟨⟨rfl, ?_⟩, ?_⟩; (first | exact scT_g rfl | exact ⟨by decide, rfl⟩ | exact ⟨by decide, fun h => (by cases h)⟩))); exact fun _ h => (by cases h))
                 · unfold hW
                   ((repeat' (refine List.forall_mem_cons.2 ⟨⟨Nat.le_of_ble_eq_true rfl, _, rfl, ?_⟩, ?_⟩; (first | exact ObjRen_g (flat_g _ _) | exact ObjRen_j rfl rfl))); exact fun _ h => (by cases h))
                 done)
              | (have hh : hitE (edgeS l i) (px, py) = false := by
                   simp [hitE, loY, hiY, *] <;> omega
                 refine ⟨l.length - (i + 1), by omega, ?_⟩
                 refine Into_id (e0 := e88 l c (j + 1) b) (h0 := hW l (px, py)) (n0 := 2) ⟨i + 1, j + 1, b, by omega, hlt, rfl, fun k hk => ?_, ?_, rfl, rfl, rfl⟩ ?_ ?_ (by decide)
                 · by_cases hki : k = i
                   · subst hki; exact g4
                   · exact hoff k (by omega)
                 · rw [inI, ← hb, hh]
                   cases b <;> rfl
                 · unfold e88
                   ((repeat' (refine List.forall_mem_cons.2 ⟨⟨rfl, ?_⟩, ?_⟩; (first | exact scT_g rfl | exact ⟨by decide, rfl⟩ | exact ⟨by decide, fun h => (by cases h)⟩))); exact fun _ h => (by cases h))
                 · unfold hW
                   ((repeat' (refine List.forall_mem_cons.2 ⟨⟨Nat.le_of_ble_eq_true rfl, _, rfl, ?_⟩, ?_⟩; (first | exact ObjRen_g (flat_g _ _) | exact ObjRen_j rfl rfl))); exact fun _ h => (by cases h))
                 done)
              | (exfalso; simp [w1, w2, w3] at *; done)
              | (exfalso; simp only [Bool.and_eq_false_iff, decide_eq_false_iff_not] at *; omega)
              | trace_state
        · exfalso
          simp only [pEta, sEta, hji, w3, rightG_wide re] at g3
          cases g3
      · exfalso; simp only [Bool.and_eq_false_iff, decide_eq_false_iff_not] at g2; omega
    · have hge : i = l.length := by simp [cfgS, std] at g1; omega
      subst hge
      ((conv => whnf); refine bm (fun g => ?_) (fun g => ?_))
      · (conv => whnf)
        rw [whI_off hoff, ← hb, g]
        rfl
      · (conv => whnf)
        rw [whI_off hoff, ← hb, g]
        rfl
end Go.Aw
