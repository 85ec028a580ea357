/-
  Where segments cross: plain arithmetic. No condition.
-/
import Derived.Test.YtmkcjbpekejgdaaGreatSe48
set_option linter.unusedSimpArgs false
set_option linter.unusedVariables false
noncomputable section
namespace Go.Aw
def ptsS (s t : Sg) : List (Int × Int) := [s.1, s.2, t.1, t.2]
def hitQ (s t : Sg) (p : Int × Int) : Bool := onS p s && onS p t
def firstP (s t : Sg) : Option (Int × Int) := (ptsS s t).find? (hitQ s t)
def dxS (s : Sg) : Int := s.2.1 - s.1.1
def dyS (s : Sg) : Int := s.2.2 - s.1.2
def denS (s t : Sg) : Int := dxS s * dyS t - dyS s * dxS t
def numS (s t : Sg) : Int := (t.1.1 - s.1.1) * dyS t - (t.1.2 - s.1.2) * dxS t
def crN (s t : Sg) : Int × Int := (s.1.1 * denS s t + dxS s * numS s t, s.1.2 * denS s t + dyS s * numS s t)
def crD (s t : Sg) : (Int × Int) × Int := match firstP s t with
  | some p => (p, 1)
  | none => (crN s t, denS s t)
def crOk (s t : Sg) : Bool := decide (MeetV s t ≠ 0) && decide (MeetV s t ≠ 4)
def crX (s t : Sg) : Int × Int := if crOk s t = true then ratV (crD s t).1.1 (crD s t).2 else (0, 0)
def crY (s t : Sg) : Int × Int := if crOk s t = true then ratV (crD s t).1.2 (crD s t).2 else (0, 0)
theorem hitQ_R {s t : Sg} (hs : rightG s = true) (ht : rightG t = true) (p : Int × Int) : hitQ s t p = (onR p s && onR p t) := by
  rw [hitQ, on_eq p s hs, on_eq p t ht]
theorem head_add {s t : Sg} (hs : rightG s = true) (ht : rightG t = true) (out : List (Int × Int)) (p : Int × Int) : (addE s t out p).head? = (match out.head? with | some q => some q | none => if hitQ s t p = true then some p else none) := by
  rw [hitQ_R hs ht]
  unfold addE
  cases out with
  | nil =>
    simp only [knownS, and_true, List.head?_nil, Bool.and_eq_true, List.nil_append]
    split
    · rfl
    · rfl
  | cons a r =>
    split
    · rfl
    · rfl
theorem first_head {s t : Sg} (hs : rightG s = true) (ht : rightG t = true) : firstP s t = (endsL s t).head? := by
  unfold endsL
  simp only [head_add hs ht, List.head?_nil]
  unfold firstP ptsS
  simp only [List.find?_cons, List.find?_nil]
  cases hitQ s t s.1 <;> cases hitQ s t s.2 <;> cases hitQ s t t.1 <;> cases hitQ s t t.2 <;> rfl
theorem MeetV_right {s t : Sg} (h : MeetV s t ≠ 0) : rightG s = true ∧ rightG t = true ∧ MeetV s t = meetS s t := by
  unfold MeetV at *
  split at h
  · rename_i h2
    exact ⟨h2.1, h2.2, if_pos h2⟩
  · exact absurd rfl h
theorem meetR_cases (s t : Sg) : meetR s t = 0 ∨ meetR s t = 1 ∨ meetR s t = 2 ∨ meetR s t = 3 ∨ meetR s t = 4 := by
  unfold meetR
  split
  · split <;> simp
  · split <;> simp
  · simp
theorem meetR_three {s t : Sg} (h : meetR s t = 3) : endsL s t = [] := by
  unfold meetR at h
  split at h
  · assumption
  · split at h <;> cases h
  · cases h
theorem den_ne {s t : Sg} (h : meetR s t = 3) : denS s t ≠ 0 := by
  have h2 := h
  unfold meetR at h
  rw [meetR_three h2] at h
  simp only at h
  split at h
  · rename_i h3
    intro h0
    have e0 : crossI s.1 s.2 t.2 = crossI s.1 s.2 t.1 := by
      unfold denS dxS dyS at h0
      rw [crossI, crossI, show t.2.2 - s.1.2 = (t.2.2 - t.1.2) + (t.1.2 - s.1.2) by omega, show t.2.1 - s.1.1 = (t.2.1 - t.1.1) + (t.1.1 - s.1.1) by omega, Int.mul_add, Int.mul_add]
      omega
    have h4 := h3.1
    unfold turnS at h4
    rw [e0] at h4
    have h5 : 0 ≤ sgn (crossI s.1 s.2 t.1) * sgn (crossI s.1 s.2 t.1) := by
      unfold sgn
      split
      · decide
      · split <;> decide
    omega
  · cases h
theorem cr_B {s t : Sg} (hs : rightG s = true) (ht : rightG t = true) :
    (-100000000 ≤ dxS s * dyS t ∧ dxS s * dyS t ≤ 100000000) ∧ (-100000000 ≤ dyS s * dxS t ∧ dyS s * dxS t ≤ 100000000) ∧
    (-100000000 ≤ (t.1.1 - s.1.1) * dyS t ∧ (t.1.1 - s.1.1) * dyS t ≤ 100000000) ∧ (-100000000 ≤ (t.1.2 - s.1.2) * dxS t ∧ (t.1.2 - s.1.2) * dxS t ≤ 100000000) ∧
    (-2000000000000 ≤ s.1.1 * denS s t ∧ s.1.1 * denS s t ≤ 2000000000000) ∧ (-2000000000000 ≤ dxS s * numS s t ∧ dxS s * numS s t ≤ 2000000000000) ∧
    (-2000000000000 ≤ s.1.2 * denS s t ∧ s.1.2 * denS s t ≤ 2000000000000) ∧ (-2000000000000 ≤ dyS s * numS s t ∧ dyS s * numS s t ≤ 2000000000000) := by
  obtain ⟨r1, r2, _⟩ := right_two hs
  obtain ⟨r3, r4, _⟩ := right_two ht
  have a := right_low r1
  have b := right_low r2
  have c := right_low r3
  have d := right_low r4
  have hdx : -10000 ≤ dxS s ∧ dxS s ≤ 10000 := by unfold dxS; omega
  have hdy : -10000 ≤ dyS s ∧ dyS s ≤ 10000 := by unfold dyS; omega
  have hex : -10000 ≤ dxS t ∧ dxS t ≤ 10000 := by unfold dxS; omega
  have hey : -10000 ≤ dyS t ∧ dyS t ≤ 10000 := by unfold dyS; omega
  have m1 := mulB (A := 10000) (B := 10000) hdx.1 hdx.2 hey.1 hey.2
  have m2 := mulB (A := 10000) (B := 10000) hdy.1 hdy.2 hex.1 hex.2
  have m3 := mulB (a := t.1.1 - s.1.1) (A := 10000) (B := 10000) (by omega) (by omega) hey.1 hey.2
  have m4 := mulB (a := t.1.2 - s.1.2) (A := 10000) (B := 10000) (by omega) (by omega) hex.1 hex.2
  have hden : -200000000 ≤ denS s t ∧ denS s t ≤ 200000000 := by unfold denS; omega
  have hnum : -200000000 ≤ numS s t ∧ numS s t ≤ 200000000 := by unfold numS; omega
  have m5 := mulB (a := s.1.1) (A := 10000) (B := 200000000) (by omega) (by omega) hden.1 hden.2
  have m6 := mulB (A := 10000) (B := 200000000) hdx.1 hdx.2 hnum.1 hnum.2
  have m7 := mulB (a := s.1.2) (A := 10000) (B := 200000000) (by omega) (by omega) hden.1 hden.2
  have m8 := mulB (A := 10000) (B := 200000000) hdy.1 hdy.2 hnum.1 hnum.2
  refine ⟨?_, ?_, ?_, ?_, ?_, ?_, ?_, ?_⟩ <;> omega
theorem hit_right {s : Sg} (hs : rightG s = true) {p : Int × Int} (h : onR p s = true) : rightS p = true := by
  obtain ⟨r1, r2, _⟩ := right_two hs
  have a := right_low r1
  have b := right_low r2
  simp only [onR, btw, Bool.and_eq_true, decide_eq_true_eq] at h
  obtain ⟨⟨⟨h1, h2⟩, h3, h4⟩, _⟩ := h
  simp only [rightS, Bool.and_eq_true, decide_eq_true_eq]
  split at h1 <;> split at h2 <;> split at h3 <;> split at h4 <;> omega
theorem rat1_OK {n : Int} (h : 0 ≤ n ∧ n ≤ 10000) : ratOK n 1 = true := by
  unfold ratOK bigI
  simp only [Bool.and_eq_true, decide_eq_true_eq]
  omega
theorem cr_OK {s t : Sg} (h : MeetV s t = 3) : ratOK (crN s t).1 (denS s t) = true ∧ ratOK (crN s t).2 (denS s t) = true ∧ denS s t ≠ 0 := by
  obtain ⟨hs, ht, hm⟩ := MeetV_right (s := s) (t := t) (by omega)
  have hB := cr_B hs ht
  have h0 := den_ne (s := s) (t := t) (by rw [← meet_eq s t hs ht]; omega)
  have hden : -200000000 ≤ denS s t ∧ denS s t ≤ 200000000 := by unfold denS; omega
  unfold ratOK bigI crN
  simp only [Bool.and_eq_true, decide_eq_true_eq]
  refine ⟨⟨⟨?_, ?_⟩, h0⟩, ⟨⟨?_, ?_⟩, h0⟩, h0⟩ <;> omega
/-! ### exchanged -/
theorem MeetV_sym (s t : Sg) : MeetV t s = MeetV s t := by
  unfold MeetV
  by_cases h : rightG s = true ∧ rightG t = true
  · rw [if_pos h, if_pos ⟨h.2, h.1⟩, meet_sym s t h.1 h.2]
  · rw [if_neg h, if_neg fun h2 => h ⟨h2.2, h2.1⟩]
theorem rightG_back' (t : Sg) : rightG (back t) = true ↔ rightG t = true := ⟨fun h => by have := rightG_back h; exact this, rightG_back⟩
theorem MeetV_back (s t : Sg) : MeetV s (back t) = MeetV s t := by
  unfold MeetV
  by_cases h : rightG s = true ∧ rightG t = true
  · rw [if_pos h, if_pos ⟨h.1, rightG_back h.2⟩, meet_back s t h.2]
  · rw [if_neg h, if_neg fun h2 => h ⟨h2.1, (rightG_back' t).1 h2.2⟩]
theorem crOk_x (s t : Sg) : crOk (back t) s = crOk s t := by
  unfold crOk
  rw [MeetV_sym s (back t), MeetV_back]
theorem den_x (s t : Sg) : denS (back t) s = denS s t := by
  unfold denS dxS dyS back
  simp only
  rw [show t.1.1 - t.2.1 = -(t.2.1 - t.1.1) by omega, show t.1.2 - t.2.2 = -(t.2.2 - t.1.2) by omega, Int.neg_mul, Int.neg_mul, Int.mul_comm (t.2.1 - t.1.1), Int.mul_comm (t.2.2 - t.1.2)]
  omega
theorem crN_x (s t : Sg) : crN (back t) s = crN s t := by
  have hd := den_x s t
  unfold crN
  rw [hd]
  unfold numS denS dxS dyS back
  obtain ⟨⟨ax, ay⟩, ⟨bx, b2⟩⟩ := s
  obtain ⟨⟨cx, cy⟩, ⟨dx, dy⟩⟩ := t
  simp only
  apply Prod.ext
  · simp only
    simp only [Int.mul_add, Int.add_mul, Int.mul_sub, Int.sub_mul]
    simp only [Int.mul_assoc, Int.mul_comm, Int.mul_left_comm]
    omega
  · simp only
    simp only [Int.mul_add, Int.add_mul, Int.mul_sub, Int.sub_mul]
    simp only [Int.mul_assoc, Int.mul_comm, Int.mul_left_comm]
    omega
theorem hitQ_x {s t : Sg} (hs : rightG s = true) (ht : rightG t = true) (p : Int × Int) : hitQ (back t) s p = hitQ s t p := by
  rw [hitQ_R (rightG_back ht) hs, hitQ_R hs ht, Bool.and_comm]
  congr 1
  rw [← on_eq p _ (rightG_back ht), ← on_eq p t ht, onS, onS]
  have : betS p (back t) = betS p t := by unfold betS; rw [ends_back t ht]
  rw [this]
  congr 1
  simp only [back, turn_back, Int.neg_eq_zero]
theorem firstP_x {s t : Sg} (h : crOk s t = true) : firstP (back t) s = firstP s t := by
  simp only [crOk, Bool.and_eq_true, decide_eq_true_eq] at h
  obtain ⟨hs, ht, hm⟩ := MeetV_right h.1
  have hmem : ∀ p, p ∈ endsL (back t) s ↔ p ∈ endsL s t := by
    intro p
    have e := hitQ_x hs ht p
    rw [hitQ_R (rightG_back ht) hs, hitQ_R hs ht] at e
    have e' : (onR p (back t) = true ∧ onR p s = true) ↔ (onR p s = true ∧ onR p t = true) := by
      rw [← Bool.and_eq_true, ← Bool.and_eq_true, e]
    rw [ends_mem, ends_mem, e']
    simp only [back]
    constructor
    · rintro ⟨h | h | h | h, h2⟩ <;> simp [h] <;> simp_all
    · rintro ⟨h | h | h | h, h2⟩ <;> simp [h] <;> simp_all
  rw [first_head (rightG_back ht) hs, first_head hs ht]
  have hk : meetR s t = 1 ∨ meetR s t = 2 ∨ meetR s t = 3 := by
    have := meetR_cases s t
    rw [← meet_eq s t hs ht] at *
    omega
  have hk2 : meetR (back t) s = meetR s t := by
    rw [← meet_eq _ _ (rightG_back ht) hs, ← meet_eq s t hs ht, meet_sym s (back t) hs (rightG_back ht), meet_back s t ht]
  have hone : ∀ a b : Sg, (meetR a b = 1 ∨ meetR a b = 2) → ∃ p, endsL a b = [p] := by
    intro a b h
    unfold meetR at h
    split at h
    · split at h <;> omega
    · exact ⟨_, by assumption⟩
    · omega
  by_cases h3 : meetR s t = 3
  · rw [meetR_three h3, meetR_three (hk2.trans h3)]
  · obtain ⟨p, hp⟩ := hone s t (by omega)
    obtain ⟨q, hq⟩ := hone (back t) s (by rw [hk2]; omega)
    have := (hmem q).1 (by rw [hq]; exact List.mem_singleton.2 rfl)
    rw [hp, List.mem_singleton] at this
    rw [hp, hq, this]
theorem crD_x {s t : Sg} (h : crOk s t = true) : crD (back t) s = crD s t := by
  unfold crD
  rw [firstP_x h, crN_x, den_x]
theorem crX_x (s t : Sg) : crX (back t) s = crX s t := by
  unfold crX
  rw [crOk_x]
  by_cases h : crOk s t = true
  · rw [if_pos h, if_pos h, crD_x h]
  · rw [if_neg h, if_neg h]
theorem crY_x (s t : Sg) : crY (back t) s = crY s t := by
  unfold crY
  rw [crOk_x]
  by_cases h : crOk s t = true
  · rw [if_pos h, if_pos h, crD_x h]
  · rw [if_neg h, if_neg h]
end Go.Aw
