/-
  Parts of the proof, put together. No condition.
-/
import Derived.Test.YtmkcjbpekejgdaaGreatSeG
/-
  Doubled areas: both. No condition.
-/
set_option linter.unusedSimpArgs false
set_option linter.unusedVariables false
noncomputable section
namespace Go.Aw
set_option maxRecDepth 100000
def nxt (l : List (Int × Int)) (i : Nat) : Int × Int := at2 l ((i + 1) % l.length)
def areaI (l : List (Int × Int)) : Nat → Int
  | 0 => 0
  | i + 1 => areaI l i + ((at2 l i).1 * (nxt l i).2 - (nxt l i).1 * (at2 l i).2)
theorem areaI_B {l : List (Int × Int)} (h : l.all rightS = true) : ∀ i, i ≤ l.length → -(200000000 * i) ≤ areaI l i ∧ areaI l i ≤ 200000000 * (i : Int)
  | 0, _ => by simp [areaI]
  | i + 1, hi => by
    have ih := areaI_B h i (by omega)
    have r1 := right_low (all_at h (i := i) (by omega))
    have r2 := right_low (all_at h (Nat.mod_lt (i + 1) (show 0 < l.length by omega)))
    have m1 := mulB (a := (at2 l i).1) (b := (nxt l i).2) (A := 10000) (B := 10000) (by omega) (by omega) (by unfold nxt; omega) (by unfold nxt; omega)
    have m2 := mulB (a := (nxt l i).1) (b := (at2 l i).2) (A := 10000) (B := 10000) (by unfold nxt; omega) (by unfold nxt; omega) (by omega) (by omega)
    unfold areaI
    omega
def S83 (l : List (Int × Int)) : List Value → Option (Bool × Value)
  | [] => some (decide (l.length ≤ 400) && l.all rightS, iv (areaI l l.length))
  | _ => none
theorem S83_inv {l : List (Int × Int)} {r : List Value} {v : Value} (hs : S83 l r = some (true, v)) : r = [] ∧ l.length ≤ 400 ∧ l.all rightS = true ∧ v = iv (areaI l l.length) := by
  unfold S83 at hs
  split at hs
  · injection hs with hs; injection hs with h1 h2
    simp only [Bool.and_eq_true, decide_eq_true_eq] at h1
    exact ⟨rfl, h1.1, h1.2, h2.symm⟩
  · cases hs
def e83 (l : List (Int × Int)) (c : Nat) (s j : Int) : List (Nat × Value) := [(0, .slice (some ⟨0, 0, none⟩) l.length c), (3, iv s), (7, .slice (some ⟨0, 0, none⟩) l.length c), (8, iv l.length), (9, iv j)]
def X83 : Nat × XF := (60, lX elP S83)
attribute [local irreducible] areaI in
theorem x83 : XOK Go.Proofs.Tryz.prog X83.1 X83.2 := lX_ok elP (body_calls (xl := []) .nil) fun l r v hs => by
  obtain ⟨rfl, hlen, hall, rfl⟩ := S83_inv hs
  refine ⟨rfl, rfl, fun c => ?_⟩
  (conv => whnf)
  refine ⟨fun n e h nx => ∃ (i : Nat) (j s : Int), j = i ∧ i ≤ l.length ∧ n = l.length - i ∧ s = areaI l i ∧ e = e83 l c s j ∧ h = hP l ∧ nx = 1, ⟨l.length, ?_⟩, ?_⟩
  · refine Into_id (e0 := e83 l c 0 0) (h0 := hP l) (n0 := 1) ⟨0, 0, 0, rfl, Nat.zero_le _, rfl, by unfold areaI; rfl, rfl, rfl, rfl⟩ ?_ ?_ (by decide)
    · unfold e83
      ((repeat' (refine List.forall_mem_cons.2 ⟨⟨rfl, ?_⟩, ?_⟩; (first | exact scT_g rfl | exact ⟨by decide, rfl⟩ | exact ⟨by decide, fun h => (by cases h)⟩))); exact fun _ h => (by cases h))
    · unfold hP
      ((repeat' (refine List.forall_mem_cons.2 ⟨⟨Nat.le_of_ble_eq_true rfl, _, rfl, ?_⟩, ?_⟩; (first | exact ObjRen_g (flat_g _ _) | exact ObjRen_j rfl rfl))); exact fun _ h => (by cases h))
  · rintro n e h nx ⟨i, j, s, hj, hi, rfl, hs', rfl, rfl, rfl⟩
    unfold e83 hP
    have hB := areaI_B hall i hi
    ((conv => whnf); refine bm (fun g1 => ?_) (fun g1 => ?_))
    · have hlt : i < l.length := by simp [cfgS, std] at g1; omega
      have hm : (i + 1) % l.length < l.length := Nat.mod_lt _ (by omega)
      have ht : (j + 1).tmod (l.length : Int) = ((i + 1) % l.length : Nat) := by rw [hj]; exact tmod_nat
      have r1 := right_low (all_at hall hlt)
      have r2 := right_low (all_at hall hm)
      have m1 := mulB (a := (at2 l i).1) (b := (at2 l ((i + 1) % l.length)).2) (A := 10000) (B := 10000) (by omega) (by omega) (by omega) (by omega)
      have m2 := mulB (a := (at2 l ((i + 1) % l.length)).1) (b := (at2 l i).2) (A := 10000) (B := 10000) (by omega) (by omega) (by omega) (by omega)
      repeat' first
        | (((conv => whnf); refine bm (fun g => ?_) (fun g => ?_)))
        | ((conv => whnf)
           refine boL (getP l hlt ?_) ?_
           · simp [cfgS, std]; omega)
        | ((conv => whnf)
           refine boL (getP l hm ?_) ?_
           · show 0 + ((j + 1).tmod (l.length : Int)).toNat * 2 = _
             rw [ht, Int.toNat_natCast, Nat.zero_add])
      all_goals (conv => whnf)
      all_goals (try (simp only [cA_rem, cA_mul, cA_add, cA_sub, cA_lt, cA_le, cA_eq, cA_notB, cA_andB, cA_num, cA_fits] at g g1))
      all_goals first
        | (refine ⟨l.length - (i + 1), by omega, ?_⟩
           refine Into_id (e0 := e83 l c (s + ((at2 l i).1 * (at2 l ((i + 1) % l.length)).2 - (at2 l ((i + 1) % l.length)).1 * (at2 l i).2)) (j + 1)) (h0 := hP l) (n0 := 1) ⟨i + 1, j + 1, s + ((at2 l i).1 * (at2 l ((i + 1) % l.length)).2 - (at2 l ((i + 1) % l.length)).1 * (at2 l i).2), by omega, hlt, rfl, ?_, rfl, rfl, rfl⟩ ?_ ?_ (by decide)
           · rw [areaI, hs']; rfl
           · unfold e83
             ((repeat' (refine List.forall_mem_cons.2 ⟨⟨rfl, ?_⟩, ?_⟩; (first | exact scT_g rfl | exact ⟨by decide, rfl⟩ | exact ⟨by decide, fun h => (by cases h)⟩))); exact fun _ h => (by cases h))
           · unfold hP
             ((repeat' (refine List.forall_mem_cons.2 ⟨⟨Nat.le_of_ble_eq_true rfl, _, rfl, ?_⟩, ?_⟩; (first | exact ObjRen_g (flat_g _ _) | exact ObjRen_j rfl rfl))); exact fun _ h => (by cases h)))
        | (exfalso; simp only [fitsK, Bool.and_eq_false_iff, Bool.not_eq_false', decide_eq_false_iff_not, decide_eq_true_eq] at g; omega)
        | trace_state
    · have hge : i = l.length := by simp [cfgS, std] at g1; omega
      subst hge
      (conv => whnf)
      rw [hs']
end Go.Aw
end

/-
  Area2 of both. No condition.
-/
set_option linter.unusedSimpArgs false
set_option linter.unusedVariables false
noncomputable section
namespace Go.Aw
set_option maxRecDepth 100000
def Area2V (l : List (Int × Int)) : Int := if l.length ≤ 400 ∧ l.all rightS = true then areaI l l.length else 0
def SArea2 (l : List (Int × Int)) : List Value → Option (Bool × Value)
  | [] => some (decide (l.length ≤ 1000000000), iv (Area2V l))
  | _ => none
theorem SArea2_inv {l : List (Int × Int)} {r : List Value} {v : Value} (hs : SArea2 l r = some (true, v)) : r = [] ∧ l.length ≤ 1000000000 ∧ v = iv (Area2V l) := by
  unfold SArea2 at hs
  split at hs
  · injection hs with hs; injection hs with h1 h2; exact ⟨rfl, by simpa using h1, h2.symm⟩
  · cases hs
def X34 : Nat × XF := (18, lX elP SArea2)
attribute [local irreducible] areaI in
theorem x34 : XOK Go.Proofs.Tryz.prog X34.1 X34.2 := lX_ok elP (body_calls (xl := [X54, X83]) (.cons x54 (.cons x83 .nil))) fun l r v hs => by
  obtain ⟨rfl, hlen, rfl⟩ := SArea2_inv hs
  refine ⟨rfl, rfl, fun c => ?_⟩
  repeat' first
    | (((conv => whnf); refine bm (fun g => ?_) (fun g => ?_)))
    | ((conv => whnf)
       refine Exists.intro l (And.intro (LsAt_own elP rfl) ?_))
  all_goals (conv => whnf)
  all_goals (simp only [cA_lt, cA_num, cA_eqB, cA_notB, beq_iff_eq, beq_eq_false_iff_ne, ne_eq, Bool.not_eq_true', Bool.not_eq_false', Bool.not_eq_false, decide_eq_true_eq, decide_eq_false_iff_not] at *)
  all_goals first
    | (have h' : l.length ≤ 400 ∧ l.all rightS = true := by
         refine ⟨?_, ?_⟩
         · omega
         · assumption
       rw [Area2V, if_pos h']
       done)
    | (have h' : ¬ (l.length ≤ 400 ∧ l.all rightS = true) := by
         intro h
         obtain ⟨h5, h6⟩ := h
         first
           | (exfalso; omega)
           | (exfalso; simp_all; done)
       rw [Area2V, if_neg h']
       rfl)
    | (exfalso; omega)
    | (exfalso; simp_all; omega)
    | trace_state
def e35 (l : List (Int × Int)) (c : Nat) (s j : Int) : List (Nat × Value) := [(0, .slice (some ⟨0, 0, none⟩) l.length c), (4, iv s), (5, iv j)]
def X35 : Nat × XF := (19, lX elP SArea2)
attribute [local irreducible] areaI in
theorem x35 : XOK Go.Proofs.Tryz.prog X35.1 X35.2 := lX_ok elP (body_calls (xl := [X80, X84]) (.cons x80 (.cons x84 .nil))) fun l r v hs => by
  obtain ⟨rfl, hlen, rfl⟩ := SArea2_inv hs
  refine ⟨rfl, rfl, fun c => ?_⟩
  (conv => whnf)
  refine ⟨l, LsAt_own elP rfl, ?_⟩
  ((conv => whnf); refine bm (fun h0 => ?_) (fun h0 => ?_))
  · ((conv => whnf); refine bm (fun h1 => ?_) (fun h1 => ?_))
    · ((conv => whnf); refine bm (fun h2 => ?_) (fun h2 => ?_))
      · (conv => whnf)
        have h : ¬ (l.length ≤ 400 ∧ l.all rightS = true) := by
          simp only [cA_lt, cA_num, decide_eq_true_eq] at h2
          intro h; omega
        rw [Area2V, if_neg h]
        rfl
      · have hall : l.all rightS = true := by
          simp only [cA_eqB, cA_notB, beq_iff_eq, Bool.not_eq_false'] at h1
          exact h1
        have h400 : l.length ≤ 400 := by simp only [cA_lt, cA_num, decide_eq_false_iff_not] at h2; omega
        have hv : Area2V l = areaI l l.length := by rw [Area2V, if_pos ⟨h400, hall⟩]
        rw [hv]
        (conv => whnf)
        refine ⟨fun n e h nx => ∃ (i : Nat) (j s : Int), j = i ∧ i ≤ l.length ∧ n = l.length - i ∧ s = areaI l i ∧ e = e35 l c s j ∧ h = hP l ∧ nx = 1, ⟨l.length, ?_⟩, ?_⟩
        · refine Into_id (e0 := e35 l c 0 0) (h0 := hP l) (n0 := 1) ⟨0, 0, 0, rfl, Nat.zero_le _, rfl, by unfold areaI; rfl, rfl, rfl, rfl⟩ ?_ ?_ (by decide)
          · unfold e35
            ((repeat' (refine List.forall_mem_cons.2 ⟨⟨rfl, ?_⟩, ?_⟩; (first | exact scT_g rfl | exact ⟨by decide, rfl⟩ | exact ⟨by decide, fun h => (by cases h)⟩))); exact fun _ h => (by cases h))
          · unfold hP
            ((repeat' (refine List.forall_mem_cons.2 ⟨⟨Nat.le_of_ble_eq_true rfl, _, rfl, ?_⟩, ?_⟩; (first | exact ObjRen_g (flat_g _ _) | exact ObjRen_j rfl rfl))); exact fun _ h => (by cases h))
        · rintro n e h nx ⟨i, j, s, hj, hi, rfl, hs', rfl, rfl, rfl⟩
          unfold e35 hP
          have hB := areaI_B hall i hi
          ((conv => whnf); refine bm (fun g1 => ?_) (fun g1 => ?_))
          · have hlt : i < l.length := by simp [cfgS, std] at g1; omega
            have hm : (i + 1) % l.length < l.length := Nat.mod_lt _ (by omega)
            have hji : j.toNat = i := by omega
            have r1 := right_low (all_at hall hlt)
            have r2 := right_low (all_at hall hm)
            have m1 := mulB (a := (at2 l i).1) (b := (at2 l ((i + 1) % l.length)).2) (A := 10000) (B := 10000) (by omega) (by omega) (by omega) (by omega)
            have m2 := mulB (a := (at2 l ((i + 1) % l.length)).1) (b := (at2 l i).2) (A := 10000) (B := 10000) (by omega) (by omega) (by omega) (by omega)
            (conv => whnf)
            refine ⟨l, LsAt_own elP rfl, ?_⟩
            ((conv => whnf); refine bm (fun g2 => ?_) (fun g2 => ?_))
            · repeat' ((conv => whnf); refine bm (fun g => ?_) (fun g => ?_))
              all_goals (conv => whnf)
              all_goals (try (simp only [cA_rem, cA_mul, cA_add, cA_sub, cA_fits, edgeS, hji] at g))
              all_goals first
                | (refine ⟨l.length - (i + 1), by omega, ?_⟩
                   rw [hji]
                   refine Into_id (e0 := e35 l c (s + (at2 l i).1 * (at2 l ((i + 1) % l.length)).2 - (at2 l ((i + 1) % l.length)).1 * (at2 l i).2) (j + 1)) (h0 := hP l) (n0 := 1) ⟨i + 1, j + 1, s + (at2 l i).1 * (at2 l ((i + 1) % l.length)).2 - (at2 l ((i + 1) % l.length)).1 * (at2 l i).2, by omega, hlt, rfl, ?_, rfl, rfl, rfl⟩ ?_ ?_ (by decide)
                   · rw [areaI, hs']; unfold nxt; omega
                   · unfold e35
                     ((repeat' (refine List.forall_mem_cons.2 ⟨⟨rfl, ?_⟩, ?_⟩; (first | exact scT_g rfl | exact ⟨by decide, rfl⟩ | exact ⟨by decide, fun h => (by cases h)⟩))); exact fun _ h => (by cases h))
                   · unfold hP
                     ((repeat' (refine List.forall_mem_cons.2 ⟨⟨Nat.le_of_ble_eq_true rfl, _, rfl, ?_⟩, ?_⟩; (first | exact ObjRen_g (flat_g _ _) | exact ObjRen_j rfl rfl))); exact fun _ h => (by cases h)))
                | (exfalso; simp only [fitsK, Bool.and_eq_false_iff, Bool.not_eq_false', decide_eq_false_iff_not, decide_eq_true_eq] at g; omega)
                | trace_state
            · exfalso; simp only [Bool.and_eq_false_iff, decide_eq_false_iff_not] at g2; simp only [cA_lt, cA_num, decide_eq_true_eq] at g1; omega
          · have hge : i = l.length := by simp [cfgS, std] at g1; omega
            subst hge
            (conv => whnf)
            rw [hs']
    · (conv => whnf)
      have h : ¬ (l.length ≤ 400 ∧ l.all rightS = true) := by
        simp only [cA_eqB, cA_notB, beq_eq_false_iff_ne, ne_eq, Bool.not_eq_false, Bool.not_eq_true'] at h1
        rw [h1]
        intro h; cases h.2
      rw [Area2V, if_neg h]
      rfl
  · exact absurd hlen (by simpa using h0)
end Go.Aw
end

/-
  MinFunc and Index over points. No condition.
-/
set_option linter.unusedSimpArgs false
set_option linter.unusedVariables false
noncomputable section
namespace Go.Aw
set_option maxRecDepth 100000
def minI (l : List (Int × Int)) : Nat → Int × Int
  | 0 => at2 l 0
  | i + 1 => if ordS (at2 l (i + 1)) (minI l i) < 0 then at2 l (i + 1) else minI l i
def fn106 : Value := .func (.func 78) #[] #[]
def S125 (l : List (Int × Int)) : List Value → Option (Bool × Value)
  | [.func (.func 78) ⟨[]⟩ ⟨[]⟩] => some (decide (0 < l.length) && decide (l.length ≤ 1000000000), ptv (minI l (l.length - 1)))
  | _ => none
theorem S125_inv {l : List (Int × Int)} {r : List Value} {v : Value} (h : S125 l r = some (true, v)) : r = [fn106] ∧ 0 < l.length ∧ l.length ≤ 1000000000 ∧ v = ptv (minI l (l.length - 1)) := by
  unfold S125 at h
  split at h
  · injection h with h
    injection h with h1 h2
    simp only [Bool.and_eq_true, decide_eq_true_eq] at h1
    exact ⟨rfl, h1.1, h1.2, h2.symm⟩
  · cases h
def e125 (l : List (Int × Int)) (c : Nat) (j : Int) : List (Nat × Value) := [(0, .slice (some ⟨0, 0, none⟩) l.length c), (1, fn106), (4, .pointer (some ⟨1, 0, none⟩)), (5, .pointer (some ⟨2, 0, none⟩)), (6, iv j)]
def h125 (l : List (Int × Int)) (m : Int × Int) : Heap := [(0, .cells false true 2 (flat elP.fl l)), (1, .cells true false 1 [iv 0, iv 0]), (2, .cells true false 1 [iv m.1, iv m.2])]
def X125 : Nat × XF := (131, lX elP S125)
attribute [local irreducible] ordS minI in
theorem x125 : XOK Go.Proofs.Tryz.prog X125.1 X125.2 := lX_ok elP (body_calls (xl := [X106]) (.cons x106 .nil)) fun l r v hs => by
  obtain ⟨rfl, h0, hlen, rfl⟩ := S125_inv hs
  refine ⟨rfl, rfl, fun c => ?_⟩
  ((conv => whnf); refine bm (fun h1 => ?_) (fun h1 => ?_))
  · exfalso
    simp only [cA_lt, cA_num, decide_eq_true_eq] at h1
    omega
  · ((conv => whnf); refine bm (fun h2 => ?_) (fun h2 => ?_))
    · (conv => whnf)
      refine boL (getP l h0 rfl) ?_
      (conv => whnf)
      refine ⟨fun n e h nx => ∃ (i : Nat) (j : Int), j = i ∧ 1 ≤ i ∧ i ≤ l.length ∧ n = l.length - i ∧ e = e125 l c j ∧ h = h125 l (minI l (i - 1)) ∧ nx = 3, ⟨l.length - 1, ?_⟩, ?_⟩
      · refine Into_id (e0 := e125 l c 1) (h0 := h125 l (at2 l 0)) (n0 := 3) ⟨1, 1, rfl, Nat.le_refl _, h0, rfl, rfl, by unfold minI; rfl, rfl⟩ ?_ ?_ (by decide)
        · unfold e125
          refine List.forall_mem_cons.2 ⟨⟨rfl, by decide, fun h => by cases h⟩, List.forall_mem_cons.2 ⟨⟨(by show _ = some (ren id fn106); rw [ren_g (show gT fn106 = true from rfl)]; rfl), scT_g rfl⟩, ?_⟩⟩
          ((repeat' (refine List.forall_mem_cons.2 ⟨⟨rfl, ?_⟩, ?_⟩; (first | exact scT_g rfl | exact ⟨by decide, rfl⟩ | exact ⟨by decide, fun h => (by cases h)⟩))); exact fun _ h => (by cases h))
        · unfold h125
          ((repeat' (refine List.forall_mem_cons.2 ⟨⟨Nat.le_of_ble_eq_true rfl, _, rfl, ?_⟩, ?_⟩; (first | exact ObjRen_g (flat_g _ _) | exact ObjRen_j rfl rfl))); exact fun _ h => (by cases h))
      · rintro n e h nx ⟨i, j, hj, hi1, hi, rfl, rfl, rfl, rfl⟩
        unfold e125 h125
        ((conv => whnf); refine bm (fun g1 => ?_) (fun g1 => ?_))
        · have hlt : i < l.length := by simp [cfgS, std] at g1; omega
          have hm : minI l i = if ordS (at2 l i) (minI l (i - 1)) < 0 then at2 l i else minI l (i - 1) := by
            obtain ⟨m, rfl⟩ : ∃ m, i = m + 1 := ⟨i - 1, by omega⟩
            conv => lhs; unfold minI
            rfl
          repeat' first
            | (((conv => whnf); refine bm (fun g => ?_) (fun g => ?_)))
            | ((conv => whnf)
               refine boL (getP l hlt ?_) ?_
               · simp [cfgS, std]; omega)
          all_goals (conv => whnf)
          all_goals (simp only [cA_lt, cA_le, cA_andB, cA_num, cA_add, cA_fits, pEta, Bool.and_eq_true, decide_eq_true_eq, decide_eq_false_iff_not] at *)
          all_goals first
            | (have hv : minI l i = at2 l i := by
                 rw [hm]
                 split
                 · first | rfl | (exfalso; omega)
                 · first | rfl | (exfalso; omega)
               refine ⟨l.length - (i + 1), by omega, ?_⟩
               refine Into_id (e0 := e125 l c (j + 1)) (h0 := h125 l (at2 l i)) (n0 := 3) ⟨i + 1, j + 1, by omega, by omega, hlt, rfl, rfl, by rw [Nat.add_sub_cancel, hv]; rfl, rfl⟩ ?_ ?_ (by decide)
               · unfold e125
                 refine List.forall_mem_cons.2 ⟨⟨rfl, by decide, fun h => by cases h⟩, List.forall_mem_cons.2 ⟨⟨(by show _ = some (ren id fn106); rw [ren_g (show gT fn106 = true from rfl)]; rfl), scT_g rfl⟩, ?_⟩⟩
                 ((repeat' (refine List.forall_mem_cons.2 ⟨⟨rfl, ?_⟩, ?_⟩; (first | exact scT_g rfl | exact ⟨by decide, rfl⟩ | exact ⟨by decide, fun h => (by cases h)⟩))); exact fun _ h => (by cases h))
               · unfold h125
                 ((repeat' (refine List.forall_mem_cons.2 ⟨⟨Nat.le_of_ble_eq_true rfl, _, rfl, ?_⟩, ?_⟩; (first | exact ObjRen_g (flat_g _ _) | exact ObjRen_j rfl rfl))); exact fun _ h => (by cases h))
               done)
            | (have hv : minI l i = minI l (i - 1) := by
                 rw [hm]
                 split
                 · first | rfl | (exfalso; omega)
                 · first | rfl | (exfalso; omega)
               refine ⟨l.length - (i + 1), by omega, ?_⟩
               refine Into_id (e0 := e125 l c (j + 1)) (h0 := h125 l (minI l (i - 1))) (n0 := 3) ⟨i + 1, j + 1, by omega, by omega, hlt, rfl, rfl, by rw [Nat.add_sub_cancel, hv]; rfl, rfl⟩ ?_ ?_ (by decide)
               · unfold e125
                 refine List.forall_mem_cons.2 ⟨⟨rfl, by decide, fun h => by cases h⟩, List.forall_mem_cons.2 ⟨⟨(by show _ = some (ren id fn106); rw [ren_g (show gT fn106 = true from rfl)]; rfl), scT_g rfl⟩, ?_⟩⟩
                 ((repeat' (refine List.forall_mem_cons.2 ⟨⟨rfl, ?_⟩, ?_⟩; (first | exact scT_g rfl | exact ⟨by decide, rfl⟩ | exact ⟨by decide, fun h => (by cases h)⟩))); exact fun _ h => (by cases h))
               · unfold h125
                 ((repeat' (refine List.forall_mem_cons.2 ⟨⟨Nat.le_of_ble_eq_true rfl, _, rfl, ?_⟩, ?_⟩; (first | exact ObjRen_g (flat_g _ _) | exact ObjRen_j rfl rfl))); exact fun _ h => (by cases h))
               done)
            | (exfalso; simp only [fitsK, Bool.and_eq_false_iff, decide_eq_false_iff_not] at *; omega)
            | trace_state
        · have hge : i = l.length := by simp [cfgS, std] at g1; omega
          subst hge
          (conv => whnf)
          rfl
    · exfalso
      simp only [cA_lt, cA_le, cA_andB, cA_num, Bool.eq_false_iff, ne_eq, Bool.and_eq_true, decide_eq_true_eq] at h2
      omega
end Go.Aw
end

/-
  CheckPoly: the reference's. No condition.
-/
set_option linter.unusedSimpArgs false
set_option linter.unusedVariables false
noncomputable section
namespace Go.Aw
set_option maxRecDepth 100000
def argP (l : List (Int × Int)) : Prop := l.length < 3 ∨ l.all rightS = false
open Classical in
def polyE (l : List (Int × Int)) : Int := if 200 < l.length then 2 else if argP l then 1 else if ¬ l.Nodup then 6 else if simpleB l = true then 0 else 10
theorem polyE_limit {l : List (Int × Int)} (h : 200 < l.length) : polyE l = 2 := by rw [polyE, if_pos h]
theorem polyE_arg {l : List (Int × Int)} (h : ¬ 200 < l.length) (h2 : argP l) : polyE l = 1 := by rw [polyE, if_neg h, if_pos h2]
theorem polyE_twice {l : List (Int × Int)} (h : ¬ 200 < l.length) (h2 : ¬ argP l) (h3 : ¬ l.Nodup) : polyE l = 6 := by rw [polyE, if_neg h, if_neg h2, if_pos h3]
theorem good_of {l : List (Int × Int)} (h : ¬ 200 < l.length) (h2 : ¬ argP l) (h3 : l.Nodup) : goodP l := by
  unfold argP at h2
  refine ⟨by omega, by omega, ?_, h3⟩
  cases hb : l.all rightS with
  | true => rfl
  | false => exact absurd (.inr hb) h2
theorem polyE_good {l : List (Int × Int)} (h : goodP l) : polyE l = if simpleB l = true then 0 else 10 := by
  obtain ⟨h1, h2, h3, h4⟩ := h
  have h5 : ¬ argP l := by
    unfold argP
    rw [h3]
    rintro (h | h)
    · omega
    · cases h
  rw [polyE, if_neg (by omega), if_neg h5, if_neg (fun h => h h4)]
theorem polyE_ok {l : List (Int × Int)} (h : polyE l = 0) : goodP l ∧ simpleP l := by
  unfold polyE at h
  split at h
  · cases h
  · split at h
    · cases h
    · split at h
      · cases h
      · rename_i h1 h2 h3
        split at h
        · exact ⟨good_of h1 h2 (Classical.not_not.1 h3), simpleB_iff.1 (by assumption)⟩
        · cases h
theorem take_nodup {l : List (Int × Int)} {i : Nat} (hi : i < l.length) (h : (l.take i).Nodup) (hn : ∀ k, k < i → at2 l i ≠ at2 l k) : (l.take (i + 1)).Nodup := by
  rw [List.take_add_one, List.getElem?_eq_getElem hi, Option.toList]
  refine List.nodup_append.2 ⟨h, by simp, ?_⟩
  intro a ha b hb e
  simp only [List.mem_singleton] at hb
  subst hb
  obtain ⟨k, hk, rfl⟩ := List.mem_iff_getElem.1 ha
  simp only [List.length_take] at hk
  rw [List.getElem_take] at e
  refine hn k (by omega) ?_
  rw [at2_eq hi, at2_eq (by omega)]
  exact e.symm
theorem not_nodup {l : List (Int × Int)} {i k : Nat} (hi : i < l.length) (hk : k < i) (e : at2 l i = at2 l k) : ¬ l.Nodup := by
  intro h
  have := nodup_at h hi (show k < l.length by omega) e
  omega
def SPoly (l : List (Int × Int)) : List Value → Option (Bool × Value)
  | [] => some (decide (l.length ≤ 1000000000), iv (polyE l))
  | _ => none
theorem SPoly_inv {l : List (Int × Int)} {r : List Value} {v : Value} (hs : SPoly l r = some (true, v)) : r = [] ∧ l.length ≤ 1000000000 ∧ v = iv (polyE l) := by
  unfold SPoly at hs
  split at hs
  · injection hs with hs; injection hs with h1 h2; exact ⟨rfl, by simpa using h1, h2.symm⟩
  · cases hs
def eO33 (l : List (Int × Int)) (c : Nat) (j : Int) : List (Nat × Value) := [(0, .slice (some ⟨0, 0, none⟩) l.length c), (4, iv j)]
def eI33 (l : List (Int × Int)) (c : Nat) (j m : Int) : List (Nat × Value) := [(0, .slice (some ⟨0, 0, none⟩) l.length c), (4, iv j), (5, iv m)]
def X33 : Nat × XF := (17, lX elP SPoly)
theorem x33 : XOK Go.Proofs.Tryz.prog X33.1 X33.2 := lX_ok elP (body_calls (xl := [X80, X82]) (.cons x80 (.cons x82 .nil))) fun l r v hs => by
  obtain ⟨rfl, hlen, rfl⟩ := SPoly_inv hs
  refine ⟨rfl, rfl, fun c => ?_⟩
  ((conv => whnf); refine bm (fun h1 => ?_) (fun h1 => ?_))
  · (conv => whnf)
    simp only [cA_lt, cA_num, decide_eq_true_eq] at h1
    rw [polyE_limit (by omega)]
    rfl
  · have h200 : ¬ 200 < l.length := by simp only [cA_lt, cA_num, decide_eq_false_iff_not] at h1; omega
    (conv => whnf)
    refine ⟨l, LsAt_own elP rfl, ?_⟩
    ((conv => whnf); refine bm (fun h2 => ?_) (fun h2 => ?_))
    · repeat' ((conv => whnf); refine bm (fun g => ?_) (fun g => ?_))
      · (conv => whnf)
        rw [polyE_arg h200 (by
          unfold argP
          rename_i h5
          simp only [cA_eqB, cA_notB, cA_lt, cA_num, decide_eq_true_eq, beq_iff_eq] at *
          omega)]
        rfl
      · have hna : ¬ argP l := by
          unfold argP
          rename_i h5
          simp only [cA_eqB, cA_notB, cA_lt, cA_num, decide_eq_true_eq, decide_eq_false_iff_not, beq_iff_eq, Bool.not_eq_false'] at *
          rw [h5]
          rintro (h | h)
          · omega
          · cases h
        (conv => whnf)
        refine ⟨fun n e h nx => ∃ (i : Nat) (j : Int), j = i ∧ i ≤ l.length ∧ n = l.length - i ∧ (l.take i).Nodup ∧ e = eO33 l c j ∧ h = hP l ∧ nx = 1, ⟨l.length, ?_⟩, ?_⟩
        · refine Into_id (e0 := eO33 l c 0) (h0 := hP l) (n0 := 1) ⟨0, 0, rfl, Nat.zero_le _, rfl, by simp, rfl, rfl, rfl⟩ ?_ ?_ (Nat.le_refl _)
          · unfold eO33
            ((repeat' (refine List.forall_mem_cons.2 ⟨⟨rfl, ?_⟩, ?_⟩; (first | exact scT_g rfl | exact ⟨by decide, rfl⟩ | exact ⟨by decide, fun h => (by cases h)⟩))); exact fun _ h => (by cases h))
          · unfold hP
            ((repeat' (refine List.forall_mem_cons.2 ⟨⟨Nat.le_of_ble_eq_true rfl, _, rfl, ?_⟩, ?_⟩; (first | exact ObjRen_g (flat_g _ _) | exact ObjRen_j rfl rfl))); exact fun _ h => (by cases h))
        · rintro n e h nx ⟨i, j, hj, hi, rfl, hb, rfl, rfl, rfl⟩
          unfold eO33 hP
          ((conv => whnf); refine bm (fun g1 => ?_) (fun g1 => ?_))
          · have hlt : i < l.length := by simp [cfgS, std] at g1; omega
            (conv => whnf)
            refine ⟨fun n e h nx => ∃ (k : Nat) (m : Int), m = k ∧ k ≤ i ∧ n = i - k ∧ (∀ k', k' < k → at2 l i ≠ at2 l k') ∧ e = eI33 l c j m ∧ h = hP l ∧ nx = 1, ⟨i, ?_⟩, ?_⟩
            · refine Into_id (e0 := eI33 l c j 0) (h0 := hP l) (n0 := 1) ⟨0, 0, rfl, Nat.zero_le _, rfl, fun k' h1 => by omega, rfl, rfl, rfl⟩ ?_ ?_ (Nat.le_refl _)
              · unfold eI33
                ((repeat' (refine List.forall_mem_cons.2 ⟨⟨rfl, ?_⟩, ?_⟩; (first | exact scT_g rfl | exact ⟨by decide, rfl⟩ | exact ⟨by decide, fun h => (by cases h)⟩))); exact fun _ h => (by cases h))
              · unfold hP
                ((repeat' (refine List.forall_mem_cons.2 ⟨⟨Nat.le_of_ble_eq_true rfl, _, rfl, ?_⟩, ?_⟩; (first | exact ObjRen_g (flat_g _ _) | exact ObjRen_j rfl rfl))); exact fun _ h => (by cases h))
            · rintro n e h nx ⟨k, m, hm, hk, rfl, hbk, rfl, rfl, rfl⟩
              unfold eI33 hP
              ((conv => whnf); refine bm (fun f1 => ?_) (fun f1 => ?_))
              · have hltk : k < i := by simp [cfgS, std] at f1; omega
                ((conv => whnf); refine bm (fun g3 => ?_) (fun g3 => ?_))
                · (conv => whnf)
                  refine boL (getP l hlt ?_) ?_
                  · simp [cfgS, std]; omega
                  ((conv => whnf); refine bm (fun g4 => ?_) (fun g4 => ?_))
                  · (conv => whnf)
                    refine boL (getP l (i := k) (by omega) ?_) ?_
                    · simp [cfgS, std]; omega
                    ((conv => whnf); refine bm (fun g5 => ?_) (fun g5 => ?_))
                    · (conv => whnf)
                      have he : at2 l i = at2 l k := by
                        simp only [cA_eq, cA_andB, Bool.and_eq_true, decide_eq_true_eq] at g5
                        exact Prod.ext g5.1 g5.2.1
                      rw [polyE_twice h200 hna (not_nodup hlt hltk he)]
                      rfl
                    · ((conv => whnf); refine bm (fun g6 => ?_) (fun g6 => ?_))
                      · (conv => whnf)
                        refine ⟨i - (k + 1), by omega, ?_⟩
                        refine Into_id (e0 := eI33 l c j (m + 1)) (h0 := hP l) (n0 := 1) ⟨k + 1, m + 1, by omega, by omega, rfl, fun k' h1 => ?_, rfl, rfl, rfl⟩ ?_ ?_ (Nat.le_refl _)
                        · by_cases hkk : k' = k
                          · subst hkk
                            intro he
                            have he1 : (at2 l i).1 = (at2 l k').1 := by rw [he]
                            have he2 : (at2 l i).2 = (at2 l k').2 := by rw [he]
                            simp only [cA_eq, cA_andB, he1, he2] at g5
                            simp at g5
                          · exact hbk k' (by omega)
                        · unfold eI33
                          ((repeat' (refine List.forall_mem_cons.2 ⟨⟨rfl, ?_⟩, ?_⟩; (first | exact scT_g rfl | exact ⟨by decide, rfl⟩ | exact ⟨by decide, fun h => (by cases h)⟩))); exact fun _ h => (by cases h))
                        · unfold hP
                          ((repeat' (refine List.forall_mem_cons.2 ⟨⟨Nat.le_of_ble_eq_true rfl, _, rfl, ?_⟩, ?_⟩; (first | exact ObjRen_g (flat_g _ _) | exact ObjRen_j rfl rfl))); exact fun _ h => (by cases h))
                      · exfalso; simp only [cA_add, cA_fits, fitsK, Bool.eq_false_iff, ne_eq, Bool.and_eq_true, decide_eq_true_eq] at g6; omega
                  · exfalso; simp only [cA_lt, cA_le, cA_andB, cA_num, Bool.eq_false_iff, ne_eq, Bool.and_eq_true, decide_eq_true_eq] at g4; omega
                · exfalso; simp only [cA_lt, cA_le, cA_andB, cA_num, Bool.eq_false_iff, ne_eq, Bool.and_eq_true, decide_eq_true_eq] at g3; omega
              · have hge : k = i := by simp [cfgS, std] at f1; omega
                subst hge
                ((conv => whnf); refine bm (fun g => ?_) (fun g => ?_))
                · (conv => whnf)
                  refine ⟨l.length - (k + 1), by omega, ?_⟩
                  refine Into_id (e0 := eO33 l c (j + 1)) (h0 := hP l) (n0 := 1) ⟨k + 1, j + 1, by omega, hlt, rfl, take_nodup hlt hb hbk, rfl, rfl, rfl⟩ ?_ ?_ (Nat.le_refl _)
                  · unfold eO33
                    ((repeat' (refine List.forall_mem_cons.2 ⟨⟨rfl, ?_⟩, ?_⟩; (first | exact scT_g rfl | exact ⟨by decide, rfl⟩ | exact ⟨by decide, fun h => (by cases h)⟩))); exact fun _ h => (by cases h))
                  · unfold hP
                    ((repeat' (refine List.forall_mem_cons.2 ⟨⟨Nat.le_of_ble_eq_true rfl, _, rfl, ?_⟩, ?_⟩; (first | exact ObjRen_g (flat_g _ _) | exact ObjRen_j rfl rfl))); exact fun _ h => (by cases h))
                · exfalso; simp only [cA_add, cA_fits, fitsK, Bool.eq_false_iff, ne_eq, Bool.and_eq_true, decide_eq_true_eq] at g; omega
          · have hge : i = l.length := by simp [cfgS, std] at g1; omega
            subst hge
            rw [List.take_length] at hb
            have hgood := good_of h200 hna hb
            (conv => whnf)
            refine ⟨l, LsAt_own elP rfl, ?_⟩
            ((conv => whnf); refine bm (fun g2 => ?_) (fun g2 => ?_))
            · ((conv => whnf); refine bm (fun g3 => ?_) (fun g3 => ?_))
              · (conv => whnf)
                simp only [cA_notB, Bool.not_eq_true'] at g3
                rw [polyE_good hgood, g3]
                rfl
              · (conv => whnf)
                simp only [cA_notB, Bool.not_eq_false'] at g3
                rw [polyE_good hgood, g3]
                rfl
            · exact absurd (goodL_iff.2 hgood) (by rw [show goodL l = false from g2]; decide)
      · (conv => whnf)
        rw [polyE_arg h200 (by
          unfold argP
          simp only [cA_eqB, cA_notB, beq_eq_false_iff_ne, ne_eq, Bool.not_eq_false] at *
          exact .inr (by simpa using g))]
        rfl
    · exact absurd hlen (by simpa using h2)
end Go.Aw
end

/-
  CheckPoly: the program's. No condition.
-/
set_option linter.unusedSimpArgs false
set_option linter.unusedVariables false
noncomputable section
namespace Go.Aw
set_option maxRecDepth 100000
def mapE (l : List (Int × Int)) : List (Value × Value) := l.map fun p => (ptv p, .bool true)
theorem veq_pt (p q : Int × Int) : veq cfgS.A cfgS.T 100 32 (ptv p) (ptv q) = some (eqP p q) := rfl
theorem vfind_no {p : Int × Int} {l : List (Int × Int)} (h : p ∉ l) : vfind cfgS.A cfgS.T 32 (ptv p) (mapE l) = some none := by
  induction l with
  | nil => rfl
  | cons q r ih =>
    simp only [List.mem_cons, not_or] at h
    show (match veq cfgS.A cfgS.T 100 32 (ptv p) (ptv q) with | none => none | some true => _ | some false => _) = _
    rw [veq_pt, (eqP_f p q).2 h.1]
    exact ih h.2
theorem vfind_yes {p : Int × Int} {l : List (Int × Int)} (h : p ∈ l) : vfind cfgS.A cfgS.T 32 (ptv p) (mapE l) = some (some (.bool true)) := by
  induction l with
  | nil => cases h
  | cons q r ih =>
    show (match veq cfgS.A cfgS.T 100 32 (ptv p) (ptv q) with | none => none | some true => _ | some false => _) = _
    rw [veq_pt]
    by_cases hq : p = q
    · rw [(eqP_iff p q).2 hq]
    · rw [(eqP_f p q).2 hq]
      simp only [List.mem_cons] at h
      exact ih (h.resolve_left hq)
theorem ObjRen_map {ρ : Nat → Nat} {n : Nat} {es es' : List (Value × Value)} {l : List (Int × Int)} (e : es = mapE l) (e' : es' = mapE l) : ObjRen ρ n (.map es) (.map es') := by
  subst e e'
  refine ⟨?_, ?_⟩
  · unfold mapE
    rw [List.map_map]
    apply List.map_congr_left
    intro p _
    rfl
  · intro e he
    unfold mapE at he
    obtain ⟨p, _, rfl⟩ := List.mem_map.1 he
    exact scS_g rfl
theorem mapE_nil : mapE [] = [] := rfl
theorem mapE_next {l : List (Int × Int)} {i : Nat} (h : i < l.length) : mapE (l.take i) ++ [(Value.agg #[iv (at2 l i).1, iv (at2 l i).2], .bool true)] = mapE (l.take (i + 1)) := by
  rw [List.take_add_one, List.getElem?_eq_getElem h, at2_eq h]
  unfold mapE
  rw [List.map_append]
  rfl
def eM32 (l : List (Int × Int)) (c : Nat) (j : Int) : List (Nat × Value) := [(0, .slice (some ⟨0, 0, none⟩) l.length c), (3, .map (some 1)), (23, .slice (some ⟨0, 0, none⟩) l.length c), (24, iv l.length), (25, iv j)]
def hM (l : List (Int × Int)) (i : Nat) : Heap := [(0, .cells false true 2 (flat elP.fl l)), (1, .map (mapE (l.take i)))]
theorem polyE_cross {l : List (Int × Int)} (h : goodP l) (hs : ¬ simpleP l) : polyE l = 10 := by
  rw [polyE_good h, simpleB_f hs]
  rfl
def eO32 (l : List (Int × Int)) (c : Nat) (j : Int) : List (Nat × Value) := [(0, .slice (some ⟨0, 0, none⟩) l.length c), (36, iv l.length), (37, iv j)]
def eI32 (l : List (Int × Int)) (c : Nat) (j m : Int) : List (Nat × Value) := [(0, .slice (some ⟨0, 0, none⟩) l.length c), (36, iv l.length), (37, iv j), (6, iv j), (7, iv m)]
def X32 : Nat × XF := (16, lX elP SPoly)
attribute [local irreducible] meetS edgeS mapE in
theorem x32 : XOK Go.Proofs.Tryz.prog X32.1 X32.2 := lX_ok elP (body_calls (xl := [X54, X81, X68]) (.cons x54 (.cons x81 (.cons x68 .nil)))) fun l r v hs => by
  obtain ⟨rfl, hlen, rfl⟩ := SPoly_inv hs
  refine ⟨rfl, rfl, fun c => ?_⟩
  ((conv => whnf); refine bm (fun h1 => ?_) (fun h1 => ?_))
  · (conv => whnf)
    simp only [cA_lt, cA_num, decide_eq_true_eq] at h1
    rw [polyE_limit (by omega)]
    rfl
  · have h200 : ¬ 200 < l.length := by simp only [cA_lt, cA_num, decide_eq_false_iff_not] at h1; omega
    ((conv => whnf); refine bm (fun h2 => ?_) (fun h2 => ?_))
    · (conv => whnf)
      refine ⟨l, LsAt_own elP rfl, ?_⟩
      ((conv => whnf); refine bm (fun h3 => ?_) (fun h3 => ?_))
      · ((conv => whnf); refine bm (fun h4 => ?_) (fun h4 => ?_))
        · (conv => whnf)
          rw [polyE_arg h200 (by
            unfold argP
            simp only [cA_notB, Bool.not_eq_true'] at h4
            exact .inr h4)]
          rfl
        · have hna : ¬ argP l := by
            unfold argP
            simp only [cA_eqB, cA_notB, cA_lt, cA_num, beq_iff_eq, decide_eq_false_iff_not, Bool.not_eq_false'] at h2 h4
            rw [h4]
            rintro (h | h)
            · omega
            · cases h
          (conv => whnf)
          refine ⟨fun n e h nx => ∃ (i : Nat) (j : Int), j = i ∧ i ≤ l.length ∧ n = l.length - i ∧ (l.take i).Nodup ∧ e = eM32 l c j ∧ h = hM l i ∧ nx = 2, ⟨l.length, ?_⟩, ?_⟩
          · refine Into_id (e0 := eM32 l c 0) (h0 := hM l 0) (n0 := 2) ⟨0, 0, rfl, Nat.zero_le _, rfl, by simp, rfl, rfl, rfl⟩ ?_ ?_ (by decide)
            · unfold eM32
              ((repeat' (refine List.forall_mem_cons.2 ⟨⟨rfl, ?_⟩, ?_⟩; (first | exact scT_g rfl | exact ⟨by decide, rfl⟩ | exact ⟨by decide, fun h => (by cases h)⟩))); exact fun _ h => (by cases h))
            · unfold hM
              ((repeat' (refine List.forall_mem_cons.2 ⟨⟨Nat.le_of_ble_eq_true rfl, _, rfl, ?_⟩, ?_⟩; (first | exact (ObjRen_map (l := []) rfl mapE_nil.symm) | exact ObjRen_g (flat_g _ _) | exact ObjRen_j rfl rfl))); exact fun _ h => (by cases h))
          · rintro n e h nx ⟨i, j, hj, hi, rfl, hb, rfl, rfl, rfl⟩
            unfold eM32 hM
            ((conv => whnf); refine bm (fun g1 => ?_) (fun g1 => ?_))
            · have hlt : i < l.length := by simp [cfgS, std] at g1; omega
              ((conv => whnf); refine bm (fun g2 => ?_) (fun g2 => ?_))
              · (conv => whnf)
                refine boL (getP l hlt ?_) ?_
                · simp [cfgS, std]; omega
                (conv => whnf)
                by_cases hmem : at2 l i ∈ l.take i
                · have hv : vfind cfgS.A cfgS.T 32 (Value.agg #[iv (at2 l i).fst, iv (at2 l i).snd]) (mapE (List.take i l)) = some (some (.bool true)) := vfind_yes hmem
                  rw [hv]
                  (conv => whnf)
                  rw [polyE_twice h200 hna (by
                    obtain ⟨k, hk, he⟩ := List.mem_iff_getElem.1 hmem
                    simp only [List.length_take] at hk
                    rw [List.getElem_take, ← at2_eq (by omega)] at he
                    exact not_nodup hlt (k := k) (by omega) he.symm)]
                  rfl
                · have hv : vfind cfgS.A cfgS.T 32 (Value.agg #[iv (at2 l i).fst, iv (at2 l i).snd]) (mapE (List.take i l)) = some none := vfind_no hmem
                  rw [hv]
                  (conv => whnf)
                  rw [hv]
                  ((conv => whnf); refine bm (fun g => ?_) (fun g => ?_))
                  · (conv => whnf)
                    refine ⟨l.length - (i + 1), by omega, ?_⟩
                    refine Into_id (e0 := eM32 l c (j + 1)) (h0 := hM l (i + 1)) (n0 := 2) ⟨i + 1, j + 1, by omega, hlt, rfl, ?_, rfl, rfl, rfl⟩ ?_ ?_ (by decide)
                    · refine take_nodup hlt hb fun k hk he => hmem ?_
                      rw [he, at2_eq (by omega)]
                      exact List.mem_iff_getElem.2 ⟨k, by rw [List.length_take]; omega, by rw [List.getElem_take]⟩
                    · unfold eM32
                      ((repeat' (refine List.forall_mem_cons.2 ⟨⟨rfl, ?_⟩, ?_⟩; (first | exact scT_g rfl | exact ⟨by decide, rfl⟩ | exact ⟨by decide, fun h => (by cases h)⟩))); exact fun _ h => (by cases h))
                    · unfold hM
                      ((repeat' (refine List.forall_mem_cons.2 ⟨⟨Nat.le_of_ble_eq_true rfl, _, rfl, ?_⟩, ?_⟩; (first | exact (ObjRen_map (l := l.take (i + 1)) rfl (mapE_next hlt)) | exact ObjRen_g (flat_g _ _) | exact ObjRen_j rfl rfl))); exact fun _ h => (by cases h))
                  · exfalso; simp only [cA_add, cA_fits, fitsK, Bool.eq_false_iff, ne_eq, Bool.and_eq_true, decide_eq_true_eq] at g; omega
              · exfalso; simp only [cA_lt, cA_le, cA_andB, cA_num, Bool.eq_false_iff, ne_eq, Bool.and_eq_true, decide_eq_true_eq] at g2; omega
            · have hge : i = l.length := by simp [cfgS, std] at g1; omega
              subst hge
              rw [List.take_length] at hb
              have hgood := good_of h200 hna hb
              (conv => whnf)
              have h3' := hgood.1
              have h200' := hgood.2.1
              clear hi hb g1 hj h1 h2 h3 h4
              refine ⟨fun n e h nx => ∃ (i : Nat) (j : Int), j = i ∧ i ≤ l.length ∧ n = l.length - i ∧ (∀ i' k, i' < i → i' < k → k < l.length → okE l i' k) ∧ e = eO32 l c j ∧ h = hP l ∧ nx = 1, ⟨l.length, ?_⟩, ?_⟩
              · refine Into_id (e0 := eO32 l c 0) (h0 := hP l) (n0 := 1) ⟨0, 0, rfl, Nat.zero_le _, rfl, fun _ _ h => absurd h (Nat.not_lt_zero _), rfl, rfl, rfl⟩ ?_ ?_ (Nat.le_refl _)
                · unfold eO32
                  ((repeat' (refine List.forall_mem_cons.2 ⟨⟨rfl, ?_⟩, ?_⟩; (first | exact scT_g rfl | exact ⟨by decide, rfl⟩ | exact ⟨by decide, fun h => (by cases h)⟩))); exact fun _ h => (by cases h))
                · unfold hP
                  ((repeat' (refine List.forall_mem_cons.2 ⟨⟨Nat.le_of_ble_eq_true rfl, _, rfl, ?_⟩, ?_⟩; (first | exact ObjRen_g (flat_g _ _) | exact ObjRen_j rfl rfl))); exact fun _ h => (by cases h))
              · rintro n e h nx ⟨i, j, hj, hi, rfl, hb, rfl, rfl, rfl⟩
                unfold eO32 hP
                ((conv => whnf); refine bm (fun g1 => ?_) (fun g1 => ?_))
                · have hlt : i < l.length := by simp [cfgS, std] at g1; omega
                  ((conv => whnf); refine bm (fun g2 => ?_) (fun g2 => ?_))
                  · (conv => whnf)
                    refine ⟨fun n e h nx => ∃ (k : Nat) (m : Int), m = k ∧ i < k ∧ k ≤ l.length ∧ n = l.length - k ∧ (∀ k', i < k' → k' < k → okE l i k') ∧ e = eI32 l c j m ∧ h = hP l ∧ nx = 1, ⟨l.length - (i + 1), ?_⟩, ?_⟩
                    · refine Into_id (e0 := eI32 l c j (j + 1)) (h0 := hP l) (n0 := 1) ⟨i + 1, j + 1, by omega, Nat.lt_succ_self _, hlt, rfl, fun k' h1 h2 => by omega, rfl, rfl, rfl⟩ ?_ ?_ (Nat.le_refl _)
                      · unfold eI32
                        ((repeat' (refine List.forall_mem_cons.2 ⟨⟨rfl, ?_⟩, ?_⟩; (first | exact scT_g rfl | exact ⟨by decide, rfl⟩ | exact ⟨by decide, fun h => (by cases h)⟩))); exact fun _ h => (by cases h))
                      · unfold hP
                        ((repeat' (refine List.forall_mem_cons.2 ⟨⟨Nat.le_of_ble_eq_true rfl, _, rfl, ?_⟩, ?_⟩; (first | exact ObjRen_g (flat_g _ _) | exact ObjRen_j rfl rfl))); exact fun _ h => (by cases h))
                    · rintro n e h nx ⟨k, m, hm, hik, hk, rfl, hbk, rfl, rfl, rfl⟩
                      unfold eI32 hP
                      ((conv => whnf); refine bm (fun f1 => ?_) (fun f1 => ?_))
                      · have hltk : k < l.length := by simp [cfgS, std] at f1; omega
                        have ra := edge_right hgood hlt
                        have rb := edge_right hgood hltk
                        have hji : j.toNat = i := by omega
                        have hmk : m.toNat = k := by omega
                        repeat' first
                          | (((conv => whnf); refine bm (fun g => ?_) (fun g => ?_)))
                          | ((conv => whnf)
                             refine Exists.intro l (And.intro (LsAt_own elP rfl) ?_))
                        all_goals (conv => whnf)
                        all_goals (simp only [cA_eq, cA_eqB, cA_notB, cA_add, cA_sub, cA_fits, cA_num, fitsK, Bool.not_eq_true', Bool.not_eq_false', beq_iff_eq, beq_eq_false_iff_ne, ne_eq, decide_eq_true_eq, decide_eq_false_iff_not, pEta, sEta, hji, hmk] at *)
                        all_goals first
                          | (refine Eq.trans ?_ (congrArg iv (polyE_cross hgood fun hh => ?_)).symm
                             · rfl
                             have hh := hh i k hik hltk
                             unfold okE wantS at hh
                             split at hh <;> omega)
                          | (refine ⟨l.length - (k + 1), by omega, ?_⟩
                             refine Into_id (e0 := eI32 l c j (m + 1)) (h0 := hP l) (n0 := 1) ⟨k + 1, m + 1, by omega, by omega, hltk, rfl, fun k' h1 h2 => ?_, rfl, rfl, rfl⟩ ?_ ?_ (Nat.le_refl _)
                             · by_cases hkk : k' = k
                               · subst hkk
                                 unfold okE wantS
                                 split <;> omega
                               · exact hbk k' h1 (by omega)
                             · unfold eI32
                               ((repeat' (refine List.forall_mem_cons.2 ⟨⟨rfl, ?_⟩, ?_⟩; (first | exact scT_g rfl | exact ⟨by decide, rfl⟩ | exact ⟨by decide, fun h => (by cases h)⟩))); exact fun _ h => (by cases h))
                             · unfold hP
                               ((repeat' (refine List.forall_mem_cons.2 ⟨⟨Nat.le_of_ble_eq_true rfl, _, rfl, ?_⟩, ?_⟩; (first | exact ObjRen_g (flat_g _ _) | exact ObjRen_j rfl rfl))); exact fun _ h => (by cases h)))
                          | (exfalso; simp only [rightG_wide ra, rightG_wide rb, Bool.and_eq_false_iff, decide_eq_false_iff_not, Bool.true_eq_false, or_self] at *; omega)
                          | (exfalso; simp [rightG_wide ra, rightG_wide rb] at *; done)
                          | trace_state
                      · have hge : k = l.length := by simp [cfgS, std] at f1; omega
                        ((conv => whnf); refine bm (fun g => ?_) (fun g => ?_))
                        · (conv => whnf)
                          refine ⟨l.length - (i + 1), by omega, ?_⟩
                          refine Into_id (e0 := eO32 l c (j + 1)) (h0 := hP l) (n0 := 1) ⟨i + 1, j + 1, by omega, hlt, rfl, fun i' k' h1 h2 h3 => ?_, rfl, rfl, rfl⟩ ?_ ?_ (Nat.le_refl _)
                          · by_cases hii : i' = i
                            · subst hii
                              exact hbk k' h2 (by omega)
                            · exact hb i' k' (by omega) h2 h3
                          · unfold eO32
                            ((repeat' (refine List.forall_mem_cons.2 ⟨⟨rfl, ?_⟩, ?_⟩; (first | exact scT_g rfl | exact ⟨by decide, rfl⟩ | exact ⟨by decide, fun h => (by cases h)⟩))); exact fun _ h => (by cases h))
                          · unfold hP
                            ((repeat' (refine List.forall_mem_cons.2 ⟨⟨Nat.le_of_ble_eq_true rfl, _, rfl, ?_⟩, ?_⟩; (first | exact ObjRen_g (flat_g _ _) | exact ObjRen_j rfl rfl))); exact fun _ h => (by cases h))
                        · exfalso; simp only [cA_add, cA_fits, fitsK, Bool.eq_false_iff, ne_eq, Bool.and_eq_true, decide_eq_true_eq] at g; omega
                  · exfalso; simp only [cA_add, cA_fits, fitsK, Bool.eq_false_iff, ne_eq, Bool.and_eq_true, decide_eq_true_eq] at g2; omega
                · have hge : i = l.length := by simp [cfgS, std] at g1; omega
                  subst hge
                  (conv => whnf)
                  rw [polyE_good hgood, simpleB_iff.2 fun i' k h1 h2 => hb i' k (by omega) h1 h2]
                  rfl
      · exact absurd hlen (by simpa using h3)
    · (conv => whnf)
      rw [polyE_arg h200 (by
        unfold argP
        simp only [cA_eqB, cA_lt, cA_num, beq_eq_false_iff_ne, ne_eq, Bool.not_eq_false, decide_eq_true_eq] at h2
        exact .inl (by omega))]
      rfl
end Go.Aw
end

/-
  Where points are: what is asked; the program's. No condition.
-/
set_option linter.unusedSimpArgs false
set_option linter.unusedVariables false
noncomputable section
namespace Go.Aw
set_option maxRecDepth 100000
def loY (e : Sg) : Int × Int := if e.2.2 < e.1.2 then e.2 else e.1
def hiY (e : Sg) : Int × Int := if e.2.2 < e.1.2 then e.1 else e.2
def hitE (e : Sg) (p : Int × Int) : Bool := decide ((loY e).2 ≤ p.2) && decide (p.2 < (hiY e).2) && decide (0 < crossI (loY e) (hiY e) p)
def inI (l : List (Int × Int)) (p : Int × Int) : Nat → Bool
  | 0 => false
  | i + 1 => inI l p i != hitE (edgeS l i) p
def onP (l : List (Int × Int)) (p : Int × Int) : Prop := ∃ i, i < l.length ∧ onS p (edgeS l i) = true
open Classical in
def whI (l : List (Int × Int)) (p : Int × Int) : Int := if onP l p then 1 else if inI l p l.length = true then 2 else 0
theorem whI_on {l : List (Int × Int)} {p : Int × Int} {i : Nat} (hi : i < l.length) (h : onS p (edgeS l i) = true) : whI l p = 1 := by rw [whI, if_pos ⟨i, hi, h⟩]
theorem whI_off {l : List (Int × Int)} {p : Int × Int} (h : ∀ i, i < l.length → onS p (edgeS l i) = false) : whI l p = if inI l p l.length = true then 2 else 0 := by
  rw [whI, if_neg]
  rintro ⟨i, hi, h2⟩
  rw [h i hi] at h2
  cases h2
theorem sgn_pos (n : Int) : 0 < sgn n ↔ 0 < n := by
  unfold sgn
  split <;> (try split) <;> omega
theorem turn_pos (a b c : Int × Int) : 0 < turnS a b c ↔ 0 < crossI a b c := sgn_pos _
def SWh (l : List (Int × Int)) : List Value → Option (Bool × Value)
  | [v] => (match decP v with | some p => some (goodL l && rightS p, u8 (whI l p)) | none => none)
  | _ => none
theorem SWh_inv {l : List (Int × Int)} {r : List Value} {v : Value} (hs : SWh l r = some (true, v)) : ∃ p, r = [ptv p] ∧ goodP l ∧ rightS p = true ∧ v = u8 (whI l p) := by
  unfold SWh at hs
  split at hs
  · split at hs
    · rename_i p e
      injection hs with hs; injection hs with h1 h2
      simp only [Bool.and_eq_true] at h1
      exact ⟨p, by rw [decP_eq e], goodL_iff.1 h1.1, h1.2, h2.symm⟩
    · cases hs
  · cases hs
def e88 (l : List (Int × Int)) (c : Nat) (j : Int) (b : Bool) : List (Nat × Value) := [(0, .slice (some ⟨0, 0, none⟩) l.length c), (3, .pointer (some ⟨1, 0, none⟩)), (5, .bool b), (11, iv l.length), (12, iv j)]
def hW (l : List (Int × Int)) (p : Int × Int) : Heap := [(0, .cells false true 2 (flat elP.fl l)), (1, .cells true false 1 [iv p.1, iv p.2])]
def X88 : Nat × XF := (71, lX elP SWh)
attribute [local irreducible] edgeS onS turnS in
theorem x88 : XOK Go.Proofs.Tryz.prog X88.1 X88.2 := lX_ok elP (body_calls (xl := [X81, X65, X55]) (.cons x81 (.cons x65 (.cons x55 .nil)))) fun l r v hs => by
  obtain ⟨⟨px, py⟩, rfl, hgood, hp, rfl⟩ := SWh_inv hs
  refine ⟨rfl, rfl, fun c => ?_⟩
  have h3' := hgood.1
  have h200' := hgood.2.1
  clear hs
  (conv => whnf)
  refine ⟨fun n e h nx => ∃ (i : Nat) (j : Int) (b : Bool), j = i ∧ i ≤ l.length ∧ n = l.length - i ∧ (∀ k, k < i → onS (px, py) (edgeS l k) = false) ∧ b = inI l (px, py) i ∧ e = e88 l c j b ∧ h = hW l (px, py) ∧ nx = 2, ⟨l.length, ?_⟩, ?_⟩
  · refine Into_id (e0 := e88 l c 0 false) (h0 := hW l (px, py)) (n0 := 2) ⟨0, 0, false, rfl, Nat.zero_le _, rfl, fun k h => absurd h (Nat.not_lt_zero k), rfl, rfl, rfl, rfl⟩ ?_ ?_ (by decide)
    · unfold e88
      ((repeat' (refine List.forall_mem_cons.2 ⟨⟨rfl, ?_⟩, ?_⟩; (first | exact scT_g rfl | exact ⟨by decide, rfl⟩ | exact ⟨by decide, fun h => (by cases h)⟩))); exact fun _ h => (by cases h))
    · unfold hW
      ((repeat' (refine List.forall_mem_cons.2 ⟨⟨Nat.le_of_ble_eq_true rfl, _, rfl, ?_⟩, ?_⟩; (first | exact ObjRen_g (flat_g _ _) | exact ObjRen_j rfl rfl))); exact fun _ h => (by cases h))
  · rintro n e h nx ⟨i, j, b, hj, hi, rfl, hoff, hb, rfl, rfl, rfl⟩
    unfold e88 hW
    ((conv => whnf); refine bm (fun g1 => ?_) (fun g1 => ?_))
    · have hlt : i < l.length := by simp [cfgS, std] at g1; omega
      have hji : j.toNat = i := by omega
      have re := edge_right hgood hlt
      have w1 : wide (edgeS l i).1 = true := rightS_wide (right_two re).1
      have w2 : wide (edgeS l i).2 = true := rightS_wide (right_two re).2.1
      have w3 : wide (px, py) = true := rightS_wide hp
      (conv => whnf)
      refine ⟨l, LsAt_own elP rfl, ?_⟩
      ((conv => whnf); refine bm (fun g2 => ?_) (fun g2 => ?_))
      · ((conv => whnf); refine bm (fun g3 => ?_) (fun g3 => ?_))
        · ((conv => whnf); refine bm (fun g4 => ?_) (fun g4 => ?_))
          · (conv => whnf)
            simp only [pEta, sEta, hji] at g4
            rw [whI_on hlt g4]
            rfl
          · repeat' ((conv => whnf); refine bm (fun g => ?_) (fun g => ?_))
            all_goals (conv => whnf)
            all_goals (simp only [cA_lt, cA_le, cA_eqB, cA_add, cA_fits, fitsK, beq_iff_eq, beq_eq_false_iff_ne, ne_eq, Bool.not_eq_true, Bool.not_eq_false, decide_eq_true_eq, decide_eq_false_iff_not, pEta, sEta, hji, turn_pos] at *)
            all_goals first
              | (have hh : hitE (edgeS l i) (px, py) = true := by
                   simp [hitE, loY, hiY, *] <;> omega
                 refine ⟨l.length - (i + 1), by omega, ?_⟩
                 refine Into_id (e0 := e88 l c (j + 1) (!b)) (h0 := hW l (px, py)) (n0 := 2) ⟨i + 1, j + 1, (!b), by omega, hlt, rfl, fun k hk => ?_, ?_, rfl, rfl, rfl⟩ ?_ ?_ (by decide)
                 · by_cases hki : k = i
                   · subst hki; exact g4
                   · exact hoff k (by omega)
                 · rw [inI, ← hb, hh]
                   cases b <;> rfl
                 · unfold e88
                   ((repeat' (refine List.forall_mem_cons.2 ⟨⟨rfl, ?_⟩, ?_⟩; (first | exact scT_g rfl | exact ⟨by decide, rfl⟩ | exact ⟨by decide, fun h => (by cases h)⟩))); exact fun _ h => (by cases h))
                 · unfold hW
                   ((repeat' (refine List.forall_mem_cons.2 ⟨⟨Nat.le_of_ble_eq_true rfl, _, rfl, ?_⟩, ?_⟩; (first | exact ObjRen_g (flat_g _ _) | exact ObjRen_j rfl rfl))); exact fun _ h => (by cases h))
                 done)
              | (have hh : hitE (edgeS l i) (px, py) = false := by
                   simp [hitE, loY, hiY, *] <;> omega
                 refine ⟨l.length - (i + 1), by omega, ?_⟩
                 refine Into_id (e0 := e88 l c (j + 1) b) (h0 := hW l (px, py)) (n0 := 2) ⟨i + 1, j + 1, b, by omega, hlt, rfl, fun k hk => ?_, ?_, rfl, rfl, rfl⟩ ?_ ?_ (by decide)
                 · by_cases hki : k = i
                   · subst hki; exact g4
                   · exact hoff k (by omega)
                 · rw [inI, ← hb, hh]
                   cases b <;> rfl
                 · unfold e88
                   ((repeat' (refine List.forall_mem_cons.2 ⟨⟨rfl, ?_⟩, ?_⟩; (first | exact scT_g rfl | exact ⟨by decide, rfl⟩ | exact ⟨by decide, fun h => (by cases h)⟩))); exact fun _ h => (by cases h))
                 · unfold hW
                   ((repeat' (refine List.forall_mem_cons.2 ⟨⟨Nat.le_of_ble_eq_true rfl, _, rfl, ?_⟩, ?_⟩; (first | exact ObjRen_g (flat_g _ _) | exact ObjRen_j rfl rfl))); exact fun _ h => (by cases h))
                 done)
              | (exfalso; simp [w1, w2, w3] at *; done)
              | (exfalso; simp only [Bool.and_eq_false_iff, decide_eq_false_iff_not] at *; omega)
              | trace_state
        · exfalso
          simp only [pEta, sEta, hji, w3, rightG_wide re] at g3
          cases g3
      · exfalso; simp only [Bool.and_eq_false_iff, decide_eq_false_iff_not] at g2; omega
    · have hge : i = l.length := by simp [cfgS, std] at g1; omega
      subst hge
      ((conv => whnf); refine bm (fun g => ?_) (fun g => ?_))
      · (conv => whnf)
        rw [whI_off hoff, ← hb, g]
        rfl
      · (conv => whnf)
        rw [whI_off hoff, ← hb, g]
        rfl
end Go.Aw
end

/-
  Index over points. No condition.
-/
set_option linter.unusedSimpArgs false
set_option linter.unusedVariables false
noncomputable section
namespace Go.Aw
set_option maxRecDepth 100000
def idxP (p : Int × Int) : List (Int × Int) → Nat → Int
  | [], _ => -1
  | q :: r, i => if eqP p q = true then i else idxP p r (i + 1)
def S124 (l : List (Int × Int)) : List Value → Option (Bool × Value)
  | [v] => (match decP v with | some p => some (decide (l.length ≤ 1000000000), iv (idxP p l 0)) | none => none)
  | _ => none
theorem S124_inv {l : List (Int × Int)} {r : List Value} {v : Value} (hs : S124 l r = some (true, v)) : ∃ p, r = [ptv p] ∧ l.length ≤ 1000000000 ∧ v = iv (idxP p l 0) := by
  unfold S124 at hs
  split at hs
  · split at hs
    · rename_i p e
      injection hs with hs; injection hs with h1 h2
      exact ⟨p, by rw [decP_eq e], by simpa using h1, h2.symm⟩
    · cases hs
  · cases hs
theorem drop_at2 {l : List (Int × Int)} {i : Nat} (h : i < l.length) : l.drop i = at2 l i :: l.drop (i + 1) := by
  rw [at2_eq h]
  exact List.drop_eq_getElem_cons h
def e124 (l : List (Int × Int)) (c : Nat) (j : Int) : List (Nat × Value) := [(0, .slice (some ⟨0, 0, none⟩) l.length c), (3, .pointer (some ⟨1, 0, none⟩)), (7, iv l.length), (8, iv j)]
def X124 : Nat × XF := (130, lX elP S124)
attribute [local irreducible] idxP in
theorem x124 : XOK Go.Proofs.Tryz.prog X124.1 X124.2 := lX_ok elP (body_calls (xl := []) .nil) fun l r v hs => by
  obtain ⟨⟨px, py⟩, rfl, hlen, rfl⟩ := S124_inv hs
  refine ⟨rfl, rfl, fun c => ?_⟩
  clear hs
  (conv => whnf)
  refine ⟨fun n e h nx => ∃ (i : Nat) (j : Int), j = i ∧ i ≤ l.length ∧ n = l.length - i ∧ idxP (px, py) l 0 = idxP (px, py) (l.drop i) i ∧ e = e124 l c j ∧ h = hW l (px, py) ∧ nx = 2, ⟨l.length, ?_⟩, ?_⟩
  · refine Into_id (e0 := e124 l c 0) (h0 := hW l (px, py)) (n0 := 2) ⟨0, 0, rfl, Nat.zero_le _, rfl, rfl, rfl, rfl, rfl⟩ ?_ ?_ (by decide)
    · unfold e124
      ((repeat' (refine List.forall_mem_cons.2 ⟨⟨rfl, ?_⟩, ?_⟩; (first | exact scT_g rfl | exact ⟨by decide, rfl⟩ | exact ⟨by decide, fun h => (by cases h)⟩))); exact fun _ h => (by cases h))
    · unfold hW
      ((repeat' (refine List.forall_mem_cons.2 ⟨⟨Nat.le_of_ble_eq_true rfl, _, rfl, ?_⟩, ?_⟩; (first | exact ObjRen_g (flat_g _ _) | exact ObjRen_j rfl rfl))); exact fun _ h => (by cases h))
  · rintro n e h nx ⟨i, j, hj, hi, rfl, hb, rfl, rfl, rfl⟩
    unfold e124 hW
    ((conv => whnf); refine bm (fun g1 => ?_) (fun g1 => ?_))
    · have hlt : i < l.length := by simp [cfgS, std] at g1; omega
      rw [drop_at2 hlt] at hb
      ((conv => whnf); refine bm (fun g2 => ?_) (fun g2 => ?_))
      · (conv => whnf)
        refine boL (getP l hlt ?_) ?_
        · simp [cfgS, std]; omega
        ((conv => whnf); refine bm (fun g3 => ?_) (fun g3 => ?_))
        · (conv => whnf)
          have he : eqP (px, py) (at2 l i) = true := g3
          rw [hb, hj]
          unfold idxP
          rw [if_pos he]
        · ((conv => whnf); refine bm (fun g4 => ?_) (fun g4 => ?_))
          · (conv => whnf)
            have he : eqP (px, py) (at2 l i) = false := g3
            refine ⟨l.length - (i + 1), by omega, ?_⟩
            refine Into_id (e0 := e124 l c (j + 1)) (h0 := hW l (px, py)) (n0 := 2) ⟨i + 1, j + 1, by omega, hlt, rfl, ?_, rfl, rfl, rfl⟩ ?_ ?_ (by decide)
            · rw [hb]
              conv => lhs; unfold idxP
              rw [if_neg (by rw [he]; decide)]
            · unfold e124
              ((repeat' (refine List.forall_mem_cons.2 ⟨⟨rfl, ?_⟩, ?_⟩; (first | exact scT_g rfl | exact ⟨by decide, rfl⟩ | exact ⟨by decide, fun h => (by cases h)⟩))); exact fun _ h => (by cases h))
            · unfold hW
              ((repeat' (refine List.forall_mem_cons.2 ⟨⟨Nat.le_of_ble_eq_true rfl, _, rfl, ?_⟩, ?_⟩; (first | exact ObjRen_g (flat_g _ _) | exact ObjRen_j rfl rfl))); exact fun _ h => (by cases h))
          · exfalso; simp only [cA_add, cA_fits, fitsK, Bool.eq_false_iff, ne_eq, Bool.and_eq_true, decide_eq_true_eq] at g4; omega
      · exfalso; simp only [cA_lt, cA_le, cA_andB, cA_num, Bool.eq_false_iff, ne_eq, Bool.and_eq_true, decide_eq_true_eq] at g2; omega
    · have hge : i = l.length := by simp [cfgS, std] at g1; omega
      subst hge
      (conv => whnf)
      rw [hb, List.drop_length]
      unfold idxP
      rfl
end Go.Aw
end
