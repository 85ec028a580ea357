/-
  Area2 of both. No condition.
-/
import Derived.Test.YtmkcjbpekejgdaaGreatSe60
set_option linter.unusedSimpArgs false
set_option linter.unusedVariables false
noncomputable section
namespace Go.Aw
set_option maxRecDepth 100000
def Area2V (l : List (Int × Int)) : Int := if l.length ≤ 400 ∧ l.all rightS = true then areaI l l.length else 0
def SArea2 (l : List (Int × Int)) : List Value → Option (Bool × Value)
  | [] => some (decide (l.length ≤ 1000000000), iv (Area2V l))
  | _ => none
theorem SArea2_inv {l : List (Int × Int)} {r : List Value} {v : Value} (hs : SArea2 l r = some (true, v)) : r = [] ∧ l.length ≤ 1000000000 ∧ v = iv (Area2V l) := by
  unfold SArea2 at hs
  split at hs
  · injection hs with hs; injection hs with h1 h2; exact ⟨rfl, by simpa using h1, h2.symm⟩
  · cases hs
def X34 : Nat × XF := (18, lX elP SArea2)
attribute [local irreducible] areaI in
theorem x34 : XOK Go.Proofs.Tryz.prog X34.1 X34.2 := lX_ok elP (body_calls (xl := [X54, X83]) (.cons x54 (.cons x83 .nil))) fun l r v hs => by
  obtain ⟨rfl, hlen, rfl⟩ := SArea2_inv hs
  refine ⟨rfl, rfl, fun c => ?_⟩
  repeat' first
    | (((conv => whnf); refine bm (fun g => ?_) (fun g => ?_)))
    | ((conv => whnf)
       refine Exists.intro l (And.intro (LsAt_own elP rfl) ?_))
  all_goals (conv => whnf)
  all_goals (simp only [cA_lt, cA_num, cA_eqB, cA_notB, beq_iff_eq, beq_eq_false_iff_ne, ne_eq, Bool.not_eq_true', Bool.not_eq_false', Bool.not_eq_false, decide_eq_true_eq, decide_eq_false_iff_not] at *)
  all_goals first
    | (have h' : l.length ≤ 400 ∧ l.all rightS = true := by
         refine ⟨?_, ?_⟩
         · omega
         · assumption
       rw [Area2V, if_pos h']
       done)
    | (have h' : ¬ (l.length ≤ 400 ∧ l.all rightS = true) := by
         intro h
         obtain ⟨h5, h6⟩ := h
         first
           | (exfalso; omega)
           | (exfalso; simp_all; done)
       rw [Area2V, if_neg h']
       rfl)
    | (exfalso; omega)
    | (exfalso; simp_all; omega)
    | trace_state
def e35 (l : List (Int × Int)) (c : Nat) (s j : Int) : List (Nat × Value) := [(0, .slice (some ⟨0, 0, none⟩) l.length c), (4, iv s), (5, iv j)]
def X35 : Nat × XF := (19, lX elP SArea2)
attribute [local irreducible] areaI in
theorem x35 : XOK Go.Proofs.Tryz.prog X35.1 X35.2 := lX_ok elP (body_calls (xl := [X80, X84]) (.cons x80 (.cons x84 .nil))) fun l r v hs => by
  obtain ⟨rfl, hlen, rfl⟩ := SArea2_inv hs
  refine ⟨rfl, rfl, fun c => ?_⟩
  (conv => whnf)
  refine ⟨l, LsAt_own elP rfl, ?_⟩
  ((conv => whnf); refine bm (fun h0 => ?_) (fun h0 => ?_))
  · ((conv => whnf); refine bm (fun h1 => ?_) (fun h1 => ?_))
    · ((conv => whnf); refine bm (fun h2 => ?_) (fun h2 => ?_))
      · (conv => whnf)
        have h : ¬ (l.length ≤ 400 ∧ l.all rightS = true) := by
          simp only [cA_lt, cA_num, decide_eq_true_eq] at h2
          intro h; omega
        rw [Area2V, if_neg h]
        rfl
      · have hall : l.all rightS = true := by
          simp only [cA_eqB, cA_notB, beq_iff_eq, Bool.not_eq_false'] at h1
          exact h1
        have h400 : l.length ≤ 400 := by simp only [cA_lt, cA_num, decide_eq_false_iff_not] at h2; omega
        have hv : Area2V l = areaI l l.length := by rw [Area2V, if_pos ⟨h400, hall⟩]
        rw [hv]
        (conv => whnf)
        refine ⟨fun n e h nx => ∃ (i : Nat) (j s : Int), j = i ∧ i ≤ l.length ∧ n = l.length - i ∧ s = areaI l i ∧ e = e35 l c s j ∧ h = hP l ∧ nx = 1, ⟨l.length, ?_⟩, ?_⟩
        · refine Into_id (e0 := e35 l c 0 0) (h0 := hP l) (n0 := 1) ⟨0, 0, 0, rfl, Nat.zero_le _, rfl, by unfold areaI; rfl, rfl, rfl, rfl⟩ ?_ ?_ (by decide)
          · unfold e35
            ((repeat' (refine List.forall_mem_cons.2 ⟨⟨rfl, ?_⟩, ?_⟩; (first | exact scT_g rfl | exact ⟨by decide, rfl⟩ | exact ⟨by decide, fun h => (by cases h)⟩))); exact fun _ h => (by cases h))
          · unfold hP
            ((repeat' (refine List.forall_mem_cons.2 ⟨⟨Nat.le_of_ble_eq_true rfl, _, rfl, ?_⟩, ?_⟩; (first | exact ObjRen_g (flat_g _ _) | exact ObjRen_j rfl rfl))); exact fun _ h => (by cases h))
        · rintro n e h nx ⟨i, j, s, hj, hi, rfl, hs', rfl, rfl, rfl⟩
          unfold e35 hP
          have hB := areaI_B hall i hi
          ((conv => whnf); refine bm (fun g1 => ?_) (fun g1 => ?_))
          · have hlt : i < l.length := by simp [cfgS, std] at g1; omega
            have hm : (i + 1) % l.length < l.length := Nat.mod_lt _ (by omega)
            have hji : j.toNat = i := by omega
            have r1 := right_low (all_at hall hlt)
            have r2 := right_low (all_at hall hm)
            have m1 := mulB (a := (at2 l i).1) (b := (at2 l ((i + 1) % l.length)).2) (A := 10000) (B := 10000) (by omega) (by omega) (by omega) (by omega)
            have m2 := mulB (a := (at2 l ((i + 1) % l.length)).1) (b := (at2 l i).2) (A := 10000) (B := 10000) (by omega) (by omega) (by omega) (by omega)
            (conv => whnf)
            refine ⟨l, LsAt_own elP rfl, ?_⟩
            ((conv => whnf); refine bm (fun g2 => ?_) (fun g2 => ?_))
            · repeat' ((conv => whnf); refine bm (fun g => ?_) (fun g => ?_))
              all_goals (conv => whnf)
              all_goals (try (simp only [cA_rem, cA_mul, cA_add, cA_sub, cA_fits, edgeS, hji] at g))
              all_goals first
                | (refine ⟨l.length - (i + 1), by omega, ?_⟩
                   rw [hji]
                   refine Into_id (e0 := e35 l c (s + (at2 l i).1 * (at2 l ((i + 1) % l.length)).2 - (at2 l ((i + 1) % l.length)).1 * (at2 l i).2) (j + 1)) (h0 := hP l) (n0 := 1) ⟨i + 1, j + 1, s + (at2 l i).1 * (at2 l ((i + 1) % l.length)).2 - (at2 l ((i + 1) % l.length)).1 * (at2 l i).2, by omega, hlt, rfl, ?_, rfl, rfl, rfl⟩ ?_ ?_ (by decide)
                   · rw [areaI, hs']; unfold nxt; omega
                   · unfold e35
                     ((repeat' (refine List.forall_mem_cons.2 ⟨⟨rfl, ?_⟩, ?_⟩; (first | exact scT_g rfl | exact ⟨by decide, rfl⟩ | exact ⟨by decide, fun h => (by cases h)⟩))); exact fun _ h => (by cases h))
                   · unfold hP
                     ((repeat' (refine List.forall_mem_cons.2 ⟨⟨Nat.le_of_ble_eq_true rfl, _, rfl, ?_⟩, ?_⟩; (first | exact ObjRen_g (flat_g _ _) | exact ObjRen_j rfl rfl))); exact fun _ h => (by cases h)))
                | (exfalso; simp only [fitsK, Bool.and_eq_false_iff, Bool.not_eq_false', decide_eq_false_iff_not, decide_eq_true_eq] at g; omega)
                | trace_state
            · exfalso; simp only [Bool.and_eq_false_iff, decide_eq_false_iff_not] at g2; simp only [cA_lt, cA_num, decide_eq_true_eq] at g1; omega
          · have hge : i = l.length := by simp [cfgS, std] at g1; omega
            subst hge
            (conv => whnf)
            rw [hs']
    · (conv => whnf)
      have h : ¬ (l.length ≤ 400 ∧ l.all rightS = true) := by
        simp only [cA_eqB, cA_notB, beq_eq_false_iff_ne, ne_eq, Bool.not_eq_false, Bool.not_eq_true'] at h1
        rw [h1]
        intro h; cases h.2
      rw [Area2V, if_neg h]
      rfl
  · exact absurd hlen (by simpa using h0)
end Go.Aw
