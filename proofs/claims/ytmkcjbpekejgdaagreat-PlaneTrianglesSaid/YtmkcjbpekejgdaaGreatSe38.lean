/-
  CheckPoly: the reference's. No condition.
-/
import Derived.Test.YtmkcjbpekejgdaaGreatSe37
set_option linter.unusedSimpArgs false
set_option linter.unusedVariables false
noncomputable section
namespace Go.Aw
set_option maxRecDepth 100000
def argP (l : List (Int × Int)) : Prop := l.length < 3 ∨ l.all rightS = false
open Classical in
def polyE (l : List (Int × Int)) : Int := if 200 < l.length then 2 else if argP l then 1 else if ¬ l.Nodup then 6 else if simpleB l = true then 0 else 10
theorem polyE_limit {l : List (Int × Int)} (h : 200 < l.length) : polyE l = 2 := by rw [polyE, if_pos h]
theorem polyE_arg {l : List (Int × Int)} (h : ¬ 200 < l.length) (h2 : argP l) : polyE l = 1 := by rw [polyE, if_neg h, if_pos h2]
theorem polyE_twice {l : List (Int × Int)} (h : ¬ 200 < l.length) (h2 : ¬ argP l) (h3 : ¬ l.Nodup) : polyE l = 6 := by rw [polyE, if_neg h, if_neg h2, if_pos h3]
theorem good_of {l : List (Int × Int)} (h : ¬ 200 < l.length) (h2 : ¬ argP l) (h3 : l.Nodup) : goodP l := by
  unfold argP at h2
  refine ⟨by omega, by omega, ?_, h3⟩
  cases hb : l.all rightS with
  | true => rfl
  | false => exact absurd (.inr hb) h2
theorem polyE_good {l : List (Int × Int)} (h : goodP l) : polyE l = if simpleB l = true then 0 else 10 := by
  obtain ⟨h1, h2, h3, h4⟩ := h
  have h5 : ¬ argP l := by
    unfold argP
    rw [h3]
    rintro (h | h)
    · omega
    · cases h
  rw [polyE, if_neg (by omega), if_neg h5, if_neg (fun h => h h4)]
theorem polyE_ok {l : List (Int × Int)} (h : polyE l = 0) : goodP l ∧ simpleP l := by
  unfold polyE at h
  split at h
  · cases h
  · split at h
    · cases h
    · split at h
      · cases h
      · rename_i h1 h2 h3
        split at h
        · exact ⟨good_of h1 h2 (Classical.not_not.1 h3), simpleB_iff.1 (by assumption)⟩
        · cases h
theorem take_nodup {l : List (Int × Int)} {i : Nat} (hi : i < l.length) (h : (l.take i).Nodup) (hn : ∀ k, k < i → at2 l i ≠ at2 l k) : (l.take (i + 1)).Nodup := by
  rw [List.take_add_one, List.getElem?_eq_getElem hi, Option.toList]
  refine List.nodup_append.2 ⟨h, by simp, ?_⟩
  intro a ha b hb e
  simp only [List.mem_singleton] at hb
  subst hb
  obtain ⟨k, hk, rfl⟩ := List.mem_iff_getElem.1 ha
  simp only [List.length_take] at hk
  rw [List.getElem_take] at e
  refine hn k (by omega) ?_
  rw [at2_eq hi, at2_eq (by omega)]
  exact e.symm
theorem not_nodup {l : List (Int × Int)} {i k : Nat} (hi : i < l.length) (hk : k < i) (e : at2 l i = at2 l k) : ¬ l.Nodup := by
  intro h
  have := nodup_at h hi (show k < l.length by omega) e
  omega
def SPoly (l : List (Int × Int)) : List Value → Option (Bool × Value)
  | [] => some (decide (l.length ≤ 1000000000), iv (polyE l))
  | _ => none
theorem SPoly_inv {l : List (Int × Int)} {r : List Value} {v : Value} (hs : SPoly l r = some (true, v)) : r = [] ∧ l.length ≤ 1000000000 ∧ v = iv (polyE l) := by
  unfold SPoly at hs
  split at hs
  · injection hs with hs; injection hs with h1 h2; exact ⟨rfl, by simpa using h1, h2.symm⟩
  · cases hs
def eO33 (l : List (Int × Int)) (c : Nat) (j : Int) : List (Nat × Value) := [(0, .slice (some ⟨0, 0, none⟩) l.length c), (4, iv j)]
def eI33 (l : List (Int × Int)) (c : Nat) (j m : Int) : List (Nat × Value) := [(0, .slice (some ⟨0, 0, none⟩) l.length c), (4, iv j), (5, iv m)]
def X33 : Nat × XF := (17, lX elP SPoly)
theorem x33 : XOK Go.Proofs.Tryz.prog X33.1 X33.2 := lX_ok elP (body_calls (xl := [X80, X82]) (.cons x80 (.cons x82 .nil))) fun l r v hs => by
  obtain ⟨rfl, hlen, rfl⟩ := SPoly_inv hs
  refine ⟨rfl, rfl, fun c => ?_⟩
  ((conv => whnf); refine bm (fun h1 => ?_) (fun h1 => ?_))
  · (conv => whnf)
    simp only [cA_lt, cA_num, decide_eq_true_eq] at h1
    rw [polyE_limit (by omega)]
    rfl
  · have h200 : ¬ 200 < l.length := by simp only [cA_lt, cA_num, decide_eq_false_iff_not] at h1; omega
    (conv => whnf)
    refine ⟨l, LsAt_own elP rfl, ?_⟩
    ((conv => whnf); refine bm (fun h2 => ?_) (fun h2 => ?_))
    · repeat' ((conv => whnf); refine bm (fun g => ?_) (fun g => ?_))
      · (conv => whnf)
        rw [polyE_arg h200 (by
          unfold argP
          rename_i h5
          simp only [cA_eqB, cA_notB, cA_lt, cA_num, decide_eq_true_eq, beq_iff_eq] at *
          omega)]
        rfl
      · have hna : ¬ argP l := by
          unfold argP
          rename_i h5
          simp only [cA_eqB, cA_notB, cA_lt, cA_num, decide_eq_true_eq, decide_eq_false_iff_not, beq_iff_eq, Bool.not_eq_false'] at *
          rw [h5]
          rintro (h | h)
          · omega
          · cases h
        (conv => whnf)
        refine ⟨fun n e h nx => ∃ (i : Nat) (j : Int), j = i ∧ i ≤ l.length ∧ n = l.length - i ∧ (l.take i).Nodup ∧ e = eO33 l c j ∧ h = hP l ∧ nx = 1, ⟨l.length, ?_⟩, ?_⟩
        · refine Into_id (e0 := eO33 l c 0) (h0 := hP l) (n0 := 1) ⟨0, 0, rfl, Nat.zero_le _, rfl, by simp, rfl, rfl, rfl⟩ ?_ ?_ (Nat.le_refl _)
          · unfold eO33
            ((repeat' (refine List.forall_mem_cons.2 ⟨⟨rfl, ?_⟩, ?_⟩; (first | exact scT_g rfl | exact ⟨by decide, rfl⟩ | exact ⟨by decide, fun h => (by cases h)⟩))); exact fun _ h => (by cases h))
          · unfold hP
            ((repeat' (refine List.forall_mem_cons.2 ⟨⟨Nat.le_of_ble_eq_true rfl, _, rfl, ?_⟩, ?_⟩; (first | exact ObjRen_g (flat_g _ _) | exact ObjRen_j rfl rfl))); exact fun _ h => (by cases h))
        · rintro n e h nx ⟨i, j, hj, hi, rfl, hb, rfl, rfl, rfl⟩
          unfold eO33 hP
          ((conv => whnf); refine bm (fun g1 => ?_) (fun g1 => ?_))
          · have hlt : i < l.length := by simp [cfgS, std] at g1; omega
            (conv => whnf)
            refine ⟨fun n e h nx => ∃ (k : Nat) (m : Int), m = k ∧ k ≤ i ∧ n = i - k ∧ (∀ k', k' < k → at2 l i ≠ at2 l k') ∧ e = eI33 l c j m ∧ h = hP l ∧ nx = 1, ⟨i, ?_⟩, ?_⟩
            · refine Into_id (e0 := eI33 l c j 0) (h0 := hP l) (n0 := 1) ⟨0, 0, rfl, Nat.zero_le _, rfl, fun k' h1 => by omega, rfl, rfl, rfl⟩ ?_ ?_ (Nat.le_refl _)
              · unfold eI33
                ((repeat' (refine List.forall_mem_cons.2 ⟨⟨rfl, ?_⟩, ?_⟩; (first | exact scT_g rfl | exact ⟨by decide, rfl⟩ | exact ⟨by decide, fun h => (by cases h)⟩))); exact fun _ h => (by cases h))
              · unfold hP
                ((repeat' (refine List.forall_mem_cons.2 ⟨⟨Nat.le_of_ble_eq_true rfl, _, rfl, ?_⟩, ?_⟩; (first | exact ObjRen_g (flat_g _ _) | exact ObjRen_j rfl rfl))); exact fun _ h => (by cases h))
            · rintro n e h nx ⟨k, m, hm, hk, rfl, hbk, rfl, rfl, rfl⟩
              unfold eI33 hP
              ((conv => whnf); refine bm (fun f1 => ?_) (fun f1 => ?_))
              · have hltk : k < i := by simp [cfgS, std] at f1; omega
                ((conv => whnf); refine bm (fun g3 => ?_) (fun g3 => ?_))
                · (conv => whnf)
                  refine boL (getP l hlt ?_) ?_
                  · simp [cfgS, std]; omega
                  ((conv => whnf); refine bm (fun g4 => ?_) (fun g4 => ?_))
                  · (conv => whnf)
                    refine boL (getP l (i := k) (by omega) ?_) ?_
                    · simp [cfgS, std]; omega
                    ((conv => whnf); refine bm (fun g5 => ?_) (fun g5 => ?_))
                    · (conv => whnf)
                      have he : at2 l i = at2 l k := by
                        simp only [cA_eq, cA_andB, Bool.and_eq_true, decide_eq_true_eq] at g5
                        exact Prod.ext g5.1 g5.2.1
                      rw [polyE_twice h200 hna (not_nodup hlt hltk he)]
                      rfl
                    · ((conv => whnf); refine bm (fun g6 => ?_) (fun g6 => ?_))
                      · (conv => whnf)
                        refine ⟨i - (k + 1), by omega, ?_⟩
                        refine Into_id (e0 := eI33 l c j (m + 1)) (h0 := hP l) (n0 := 1) ⟨k + 1, m + 1, by omega, by omega, rfl, fun k' h1 => ?_, rfl, rfl, rfl⟩ ?_ ?_ (Nat.le_refl _)
                        · by_cases hkk : k' = k
                          · subst hkk
                            intro he
                            have he1 : (at2 l i).1 = (at2 l k').1 := by rw [he]
                            have he2 : (at2 l i).2 = (at2 l k').2 := by rw [he]
                            simp only [cA_eq, cA_andB, he1, he2] at g5
                            simp at g5
                          · exact hbk k' (by omega)
                        · unfold eI33
                          ((repeat' (refine List.forall_mem_cons.2 ⟨⟨rfl, ?_⟩, ?_⟩; (first | exact scT_g rfl | exact ⟨by decide, rfl⟩ | exact ⟨by decide, fun h => (by cases h)⟩))); exact fun _ h => (by cases h))
                        · unfold hP
                          ((repeat' (refine List.forall_mem_cons.2 ⟨⟨Nat.le_of_ble_eq_true rfl, _, rfl, ?_⟩, ?_⟩; (first | exact ObjRen_g (flat_g _ _) | exact ObjRen_j rfl rfl))); exact fun _ h => (by cases h))
                      · exfalso; simp only [cA_add, cA_fits, fitsK, Bool.eq_false_iff, ne_eq, Bool.and_eq_true, decide_eq_true_eq] at g6; omega
                  · exfalso; simp only [cA_lt, cA_le, cA_andB, cA_num, Bool.eq_false_iff, ne_eq, Bool.and_eq_true, decide_eq_true_eq] at g4; omega
                · exfalso; simp only [cA_lt, cA_le, cA_andB, cA_num, Bool.eq_false_iff, ne_eq, Bool.and_eq_true, decide_eq_true_eq] at g3; omega
              · have hge : k = i := by simp [cfgS, std] at f1; omega
                subst hge
                ((conv => whnf); refine bm (fun g => ?_) (fun g => ?_))
                · (conv => whnf)
                  refine ⟨l.length - (k + 1), by omega, ?_⟩
                  refine Into_id (e0 := eO33 l c (j + 1)) (h0 := hP l) (n0 := 1) ⟨k + 1, j + 1, by omega, hlt, rfl, take_nodup hlt hb hbk, rfl, rfl, rfl⟩ ?_ ?_ (Nat.le_refl _)
                  · unfold eO33
                    ((repeat' (refine List.forall_mem_cons.2 ⟨⟨rfl, ?_⟩, ?_⟩; (first | exact scT_g rfl | exact ⟨by decide, rfl⟩ | exact ⟨by decide, fun h => (by cases h)⟩))); exact fun _ h => (by cases h))
                  · unfold hP
                    ((repeat' (refine List.forall_mem_cons.2 ⟨⟨Nat.le_of_ble_eq_true rfl, _, rfl, ?_⟩, ?_⟩; (first | exact ObjRen_g (flat_g _ _) | exact ObjRen_j rfl rfl))); exact fun _ h => (by cases h))
                · exfalso; simp only [cA_add, cA_fits, fitsK, Bool.eq_false_iff, ne_eq, Bool.and_eq_true, decide_eq_true_eq] at g; omega
          · have hge : i = l.length := by simp [cfgS, std] at g1; omega
            subst hge
            rw [List.take_length] at hb
            have hgood := good_of h200 hna hb
            (conv => whnf)
            refine ⟨l, LsAt_own elP rfl, ?_⟩
            ((conv => whnf); refine bm (fun g2 => ?_) (fun g2 => ?_))
            · ((conv => whnf); refine bm (fun g3 => ?_) (fun g3 => ?_))
              · (conv => whnf)
                simp only [cA_notB, Bool.not_eq_true'] at g3
                rw [polyE_good hgood, g3]
                rfl
              · (conv => whnf)
                simp only [cA_notB, Bool.not_eq_false'] at g3
                rw [polyE_good hgood, g3]
                rfl
            · exact absurd (goodL_iff.2 hgood) (by rw [show goodL l = false from g2]; decide)
      · (conv => whnf)
        rw [polyE_arg h200 (by
          unfold argP
          simp only [cA_eqB, cA_notB, beq_eq_false_iff_ne, ne_eq, Bool.not_eq_false] at *
          exact .inr (by simpa using g))]
        rfl
    · exact absurd hlen (by simpa using h2)
end Go.Aw
