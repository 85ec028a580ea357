/-
  MinFunc and Index over points. No condition.
-/
import Derived.Test.YtmkcjbpekejgdaaGreatSe61
set_option linter.unusedSimpArgs false
set_option linter.unusedVariables false
noncomputable section
namespace Go.Aw
set_option maxRecDepth 100000
def minI (l : List (Int × Int)) : Nat → Int × Int
  | 0 => at2 l 0
  | i + 1 => if ordS (at2 l (i + 1)) (minI l i) < 0 then at2 l (i + 1) else minI l i
def fn106 : Value := .func (.func 78) #[] #[]
def S125 (l : List (Int × Int)) : List Value → Option (Bool × Value)
  | [.func (.func 78) ⟨[]⟩ ⟨[]⟩] => some (decide (0 < l.length) && decide (l.length ≤ 1000000000), ptv (minI l (l.length - 1)))
  | _ => none
theorem S125_inv {l : List (Int × Int)} {r : List Value} {v : Value} (h : S125 l r = some (true, v)) : r = [fn106] ∧ 0 < l.length ∧ l.length ≤ 1000000000 ∧ v = ptv (minI l (l.length - 1)) := by
  unfold S125 at h
  split at h
  · injection h with h
    injection h with h1 h2
    simp only [Bool.and_eq_true, decide_eq_true_eq] at h1
    exact ⟨rfl, h1.1, h1.2, h2.symm⟩
  · cases h
def e125 (l : List (Int × Int)) (c : Nat) (j : Int) : List (Nat × Value) := [(0, .slice (some ⟨0, 0, none⟩) l.length c), (1, fn106), (4, .pointer (some ⟨1, 0, none⟩)), (5, .pointer (some ⟨2, 0, none⟩)), (6, iv j)]
def h125 (l : List (Int × Int)) (m : Int × Int) : Heap := [(0, .cells false true 2 (flat elP.fl l)), (1, .cells true false 1 [iv 0, iv 0]), (2, .cells true false 1 [iv m.1, iv m.2])]
def X125 : Nat × XF := (131, lX elP S125)
attribute [local irreducible] ordS minI in
theorem x125 : XOK Go.Proofs.Tryz.prog X125.1 X125.2 := lX_ok elP (body_calls (xl := [X106]) (.cons x106 .nil)) fun l r v hs => by
  obtain ⟨rfl, h0, hlen, rfl⟩ := S125_inv hs
  refine ⟨rfl, rfl, fun c => ?_⟩
  ((conv => whnf); refine bm (fun h1 => ?_) (fun h1 => ?_))
  · exfalso
    simp only [cA_lt, cA_num, decide_eq_true_eq] at h1
    omega
  · ((conv => whnf); refine bm (fun h2 => ?_) (fun h2 => ?_))
    · (conv => whnf)
      refine boL (getP l h0 rfl) ?_
      (conv => whnf)
      refine ⟨fun n e h nx => ∃ (i : Nat) (j : Int), j = i ∧ 1 ≤ i ∧ i ≤ l.length ∧ n = l.length - i ∧ e = e125 l c j ∧ h = h125 l (minI l (i - 1)) ∧ nx = 3, ⟨l.length - 1, ?_⟩, ?_⟩
      · refine Into_id (e0 := e125 l c 1) (h0 := h125 l (at2 l 0)) (n0 := 3) ⟨1, 1, rfl, Nat.le_refl _, h0, rfl, rfl, by unfold minI; rfl, rfl⟩ ?_ ?_ (by decide)
        · unfold e125
          refine List.forall_mem_cons.2 ⟨⟨rfl, by decide, fun h => by cases h⟩, List.forall_mem_cons.2 ⟨⟨(by show _ = some (ren id fn106); rw [ren_g (show gT fn106 = true from rfl)]; rfl), scT_g rfl⟩, ?_⟩⟩
          ((repeat' (refine List.forall_mem_cons.2 ⟨⟨rfl, ?_⟩, ?_⟩; (first | exact scT_g rfl | exact ⟨by decide, rfl⟩ | exact ⟨by decide, fun h => (by cases h)⟩))); exact fun _ h => (by cases h))
        · unfold h125
          ((repeat' (refine List.forall_mem_cons.2 ⟨⟨Nat.le_of_ble_eq_true rfl, _, rfl, ?_⟩, ?_⟩; (first | exact ObjRen_g (flat_g _ _) | exact ObjRen_j rfl rfl))); exact fun _ h => (by cases h))
      · rintro n e h nx ⟨i, j, hj, hi1, hi, rfl, rfl, rfl, rfl⟩
        unfold e125 h125
        ((conv => whnf); refine bm (fun g1 => ?_) (fun g1 => ?_))
        · have hlt : i < l.length := by simp [cfgS, std] at g1; omega
          have hm : minI l i = if ordS (at2 l i) (minI l (i - 1)) < 0 then at2 l i else minI l (i - 1) := by
            obtain ⟨m, rfl⟩ : ∃ m, i = m + 1 := ⟨i - 1, by omega⟩
            conv => lhs; unfold minI
            rfl
          repeat' first
            | (((conv => whnf); refine bm (fun g => ?_) (fun g => ?_)))
            | ((conv => whnf)
               refine boL (getP l hlt ?_) ?_
               · simp [cfgS, std]; omega)
          all_goals (conv => whnf)
          all_goals (simp only [cA_lt, cA_le, cA_andB, cA_num, cA_add, cA_fits, pEta, Bool.and_eq_true, decide_eq_true_eq, decide_eq_false_iff_not] at *)
          all_goals first
            | (have hv : minI l i = at2 l i := by
                 rw [hm]
                 split
                 · first | rfl | (exfalso; omega)
                 · first | rfl | (exfalso; omega)
               refine ⟨l.length - (i + 1), by omega, ?_⟩
               refine Into_id (e0 := e125 l c (j + 1)) (h0 := h125 l (at2 l i)) (n0 := 3) ⟨i + 1, j + 1, by omega, by omega, hlt, rfl, rfl, by rw [Nat.add_sub_cancel, hv]; rfl, rfl⟩ ?_ ?_ (by decide)
               · unfold e125
                 refine List.forall_mem_cons.2 ⟨⟨rfl, by decide, fun h => by cases h⟩, List.forall_mem_cons.2 ⟨⟨(by show _ = some (ren id fn106); rw [ren_g (show gT fn106 = true from rfl)]; rfl), scT_g rfl⟩, ?_⟩⟩
                 ((repeat' (refine List.forall_mem_cons.2 ⟨⟨rfl, ?_⟩, ?_⟩; (first | exact scT_g rfl | exact ⟨by decide, rfl⟩ | exact ⟨by decide, fun h => (by cases h)⟩))); exact fun _ h => (by cases h))
               · unfold h125
                 ((repeat' (refine List.forall_mem_cons.2 ⟨⟨Nat.le_of_ble_eq_true rfl, _, rfl, ?_⟩, ?_⟩; (first | exact ObjRen_g (flat_g _ _) | exact ObjRen_j rfl rfl))); exact fun _ h => (by cases h))
               done)
            | (have hv : minI l i = minI l (i - 1) := by
                 rw [hm]
                 split
                 · first | rfl | (exfalso; omega)
                 · first | rfl | (exfalso; omega)
               refine ⟨l.length - (i + 1), by omega, ?_⟩
               refine Into_id (e0 := e125 l c (j + 1)) (h0 := h125 l (minI l (i - 1))) (n0 := 3) ⟨i + 1, j + 1, by omega, by omega, hlt, rfl, rfl, by rw [Nat.add_sub_cancel, hv]; rfl, rfl⟩ ?_ ?_ (by decide)
               · unfold e125
                 refine List.forall_mem_cons.2 ⟨⟨rfl, by decide, fun h => by cases h⟩, List.forall_mem_cons.2 ⟨⟨(by show _ = some (ren id fn106); rw [ren_g (show gT fn106 = true from rfl)]; rfl), scT_g rfl⟩, ?_⟩⟩
                 ((repeat' (refine List.forall_mem_cons.2 ⟨⟨rfl, ?_⟩, ?_⟩; (first | exact scT_g rfl | exact ⟨by decide, rfl⟩ | exact ⟨by decide, fun h => (by cases h)⟩))); exact fun _ h => (by cases h))
               · unfold h125
                 ((repeat' (refine List.forall_mem_cons.2 ⟨⟨Nat.le_of_ble_eq_true rfl, _, rfl, ?_⟩, ?_⟩; (first | exact ObjRen_g (flat_g _ _) | exact ObjRen_j rfl rfl))); exact fun _ h => (by cases h))
               done)
            | (exfalso; simp only [fitsK, Bool.and_eq_false_iff, decide_eq_false_iff_not] at *; omega)
            | trace_state
        · have hge : i = l.length := by simp [cfgS, std] at g1; omega
          subst hge
          (conv => whnf)
          rfl
    · exfalso
      simp only [cA_lt, cA_le, cA_andB, cA_num, Bool.eq_false_iff, ne_eq, Bool.and_eq_true, decide_eq_true_eq] at h2
      omega
end Go.Aw
