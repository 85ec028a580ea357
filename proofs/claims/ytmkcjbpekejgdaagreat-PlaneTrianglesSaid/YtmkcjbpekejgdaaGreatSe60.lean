/-
  Doubled areas: both. No condition.
-/
import Derived.Test.YtmkcjbpekejgdaaGreatSe36
import Derived.Test.YtmkcjbpekejgdaaGreatSe37
set_option linter.unusedSimpArgs false
set_option linter.unusedVariables false
noncomputable section
namespace Go.Aw
set_option maxRecDepth 100000
def nxt (l : List (Int × Int)) (i : Nat) : Int × Int := at2 l ((i + 1) % l.length)
def areaI (l : List (Int × Int)) : Nat → Int
  | 0 => 0
  | i + 1 => areaI l i + ((at2 l i).1 * (nxt l i).2 - (nxt l i).1 * (at2 l i).2)
theorem areaI_B {l : List (Int × Int)} (h : l.all rightS = true) : ∀ i, i ≤ l.length → -(200000000 * i) ≤ areaI l i ∧ areaI l i ≤ 200000000 * (i : Int)
  | 0, _ => by simp [areaI]
  | i + 1, hi => by
    have ih := areaI_B h i (by omega)
    have r1 := right_low (all_at h (i := i) (by omega))
    have r2 := right_low (all_at h (Nat.mod_lt (i + 1) (show 0 < l.length by omega)))
    have m1 := mulB (a := (at2 l i).1) (b := (nxt l i).2) (A := 10000) (B := 10000) (by omega) (by omega) (by unfold nxt; omega) (by unfold nxt; omega)
    have m2 := mulB (a := (nxt l i).1) (b := (at2 l i).2) (A := 10000) (B := 10000) (by unfold nxt; omega) (by unfold nxt; omega) (by omega) (by omega)
    unfold areaI
    omega
def S83 (l : List (Int × Int)) : List Value → Option (Bool × Value)
  | [] => some (decide (l.length ≤ 400) && l.all rightS, iv (areaI l l.length))
  | _ => none
theorem S83_inv {l : List (Int × Int)} {r : List Value} {v : Value} (hs : S83 l r = some (true, v)) : r = [] ∧ l.length ≤ 400 ∧ l.all rightS = true ∧ v = iv (areaI l l.length) := by
  unfold S83 at hs
  split at hs
  · injection hs with hs; injection hs with h1 h2
    simp only [Bool.and_eq_true, decide_eq_true_eq] at h1
    exact ⟨rfl, h1.1, h1.2, h2.symm⟩
  · cases hs
def e83 (l : List (Int × Int)) (c : Nat) (s j : Int) : List (Nat × Value) := [(0, .slice (some ⟨0, 0, none⟩) l.length c), (3, iv s), (7, .slice (some ⟨0, 0, none⟩) l.length c), (8, iv l.length), (9, iv j)]
def X83 : Nat × XF := (60, lX elP S83)
attribute [local irreducible] areaI in
theorem x83 : XOK Go.Proofs.Tryz.prog X83.1 X83.2 := lX_ok elP (body_calls (xl := []) .nil) fun l r v hs => by
  obtain ⟨rfl, hlen, hall, rfl⟩ := S83_inv hs
  refine ⟨rfl, rfl, fun c => ?_⟩
  (conv => whnf)
  refine ⟨fun n e h nx => ∃ (i : Nat) (j s : Int), j = i ∧ i ≤ l.length ∧ n = l.length - i ∧ s = areaI l i ∧ e = e83 l c s j ∧ h = hP l ∧ nx = 1, ⟨l.length, ?_⟩, ?_⟩
  · refine Into_id (e0 := e83 l c 0 0) (h0 := hP l) (n0 := 1) ⟨0, 0, 0, rfl, Nat.zero_le _, rfl, by unfold areaI; rfl, rfl, rfl, rfl⟩ ?_ ?_ (by decide)
    · unfold e83
      ((repeat' (refine List.forall_mem_cons.2 ⟨⟨rfl, ?_⟩, ?_⟩; (first | exact scT_g rfl | exact ⟨by decide, rfl⟩ | exact ⟨by decide, fun h => (by cases h)⟩))); exact fun _ h => (by cases h))
    · unfold hP
      ((repeat' (refine List.forall_mem_cons.2 ⟨⟨Nat.le_of_ble_eq_true rfl, _, rfl, ?_⟩, ?_⟩; (first | exact ObjRen_g (flat_g _ _) | exact ObjRen_j rfl rfl))); exact fun _ h => (by cases h))
  · rintro n e h nx ⟨i, j, s, hj, hi, rfl, hs', rfl, rfl, rfl⟩
    unfold e83 hP
    have hB := areaI_B hall i hi
    ((conv => whnf); refine bm (fun g1 => ?_) (fun g1 => ?_))
    · have hlt : i < l.length := by simp [cfgS, std] at g1; omega
      have hm : (i + 1) % l.length < l.length := Nat.mod_lt _ (by omega)
      have ht : (j + 1).tmod (l.length : Int) = ((i + 1) % l.length : Nat) := by rw [hj]; exact tmod_nat
      have r1 := right_low (all_at hall hlt)
      have r2 := right_low (all_at hall hm)
      have m1 := mulB (a := (at2 l i).1) (b := (at2 l ((i + 1) % l.length)).2) (A := 10000) (B := 10000) (by omega) (by omega) (by omega) (by omega)
      have m2 := mulB (a := (at2 l ((i + 1) % l.length)).1) (b := (at2 l i).2) (A := 10000) (B := 10000) (by omega) (by omega) (by omega) (by omega)
      repeat' first
        | (((conv => whnf); refine bm (fun g => ?_) (fun g => ?_)))
        | ((conv => whnf)
           refine boL (getP l hlt ?_) ?_
           · simp [cfgS, std]; omega)
        | ((conv => whnf)
           refine boL (getP l hm ?_) ?_
           · show 0 + ((j + 1).tmod (l.length : Int)).toNat * 2 = _
             rw [ht, Int.toNat_natCast, Nat.zero_add])
      all_goals (conv => whnf)
      all_goals (try (simp only [cA_rem, cA_mul, cA_add, cA_sub, cA_lt, cA_le, cA_eq, cA_notB, cA_andB, cA_num, cA_fits] at g g1))
      all_goals first
        | (refine ⟨l.length - (i + 1), by omega, ?_⟩
           refine Into_id (e0 := e83 l c (s + ((at2 l i).1 * (at2 l ((i + 1) % l.length)).2 - (at2 l ((i + 1) % l.length)).1 * (at2 l i).2)) (j + 1)) (h0 := hP l) (n0 := 1) ⟨i + 1, j + 1, s + ((at2 l i).1 * (at2 l ((i + 1) % l.length)).2 - (at2 l ((i + 1) % l.length)).1 * (at2 l i).2), by omega, hlt, rfl, ?_, rfl, rfl, rfl⟩ ?_ ?_ (by decide)
           · rw [areaI, hs']; rfl
           · unfold e83
             ((repeat' (refine List.forall_mem_cons.2 ⟨⟨rfl, ?_⟩, ?_⟩; (first | exact scT_g rfl | exact ⟨by decide, rfl⟩ | exact ⟨by decide, fun h => (by cases h)⟩))); exact fun _ h => (by cases h))
           · unfold hP
             ((repeat' (refine List.forall_mem_cons.2 ⟨⟨Nat.le_of_ble_eq_true rfl, _, rfl, ?_⟩, ?_⟩; (first | exact ObjRen_g (flat_g _ _) | exact ObjRen_j rfl rfl))); exact fun _ h => (by cases h)))
        | (exfalso; simp only [fitsK, Bool.and_eq_false_iff, Bool.not_eq_false', decide_eq_false_iff_not, decide_eq_true_eq] at g; omega)
        | trace_state
    · have hge : i = l.length := by simp [cfgS, std] at g1; omega
      subst hge
      (conv => whnf)
      rw [hs']
end Go.Aw
