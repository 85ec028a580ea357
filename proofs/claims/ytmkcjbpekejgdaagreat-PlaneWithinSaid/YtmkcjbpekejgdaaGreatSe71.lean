/-
  Normal: the reference's. No condition.
-/
import Derived.Test.YtmkcjbpekejgdaaGreatSe70
set_option linter.unusedSimpArgs false
set_option linter.unusedVariables false
noncomputable section
namespace Go.Aw
set_option maxRecDepth 100000
def eA50 (n c : Nat) (j : Int) : List (Nat × Value) := [(0, .slice (some ⟨0, 0, none⟩) n c), (5, iv n), (6, .slice (some ⟨1, 0, none⟩) n n), (7, iv j)]
def eB50 (n : Nat) (f j : Int) : List (Nat × Value) := [(5, iv n), (6, .slice (some ⟨1, 0, none⟩) n n), (8, iv f), (9, iv j)]
def eC50 (n : Nat) (f : Int) (v : Value) (j : Int) : List (Nat × Value) := [(5, iv n), (6, .slice (some ⟨1, 0, none⟩) n n), (8, iv f), (11, v), (12, iv j)]
def hB50 (o : List (Int × Int)) : Heap := [(1, .cells true false 2 (flat elP.fl o))]
def hC50 (o R : List (Int × Int)) : Heap := [(1, .cells true false 2 (flat elP.fl o)), (2, .cells true false 2 (flat elP.fl R))]
theorem dirI_neg {l : List (Int × Int)} (h : areaI l l.length < 0) {i : Nat} (hi : i < l.length) : at2 (dirI l) i = at2 l (l.length - 1 - i) := by
  unfold dirI
  rw [if_pos h, at2_rev l hi]
theorem dirI_pos {l : List (Int × Int)} (h : ¬ areaI l l.length < 0) : dirI l = l := by
  unfold dirI
  rw [if_neg h]
theorem fill_pos {l : List (Int × Int)} {i : Nat} {j : Int} (h : ¬ areaI l l.length < 0) (hj : j = i) (hi : i < l.length) : putN (flat elP.fl (fillI l i)) (0 + j.toNat * 2) [iv (at2 l i).1, iv (at2 l i).2] = flat elP.fl (fillI l (i + 1)) := by
  have e : 0 + j.toNat * 2 = i * 2 := by omega
  rw [e, flat_set _ _ _ (by rw [fillI_len (by omega)]; exact hi), ← fillI_set hi, dirI_pos h]
theorem fill_neg {l : List (Int × Int)} {i : Nat} {j : Int} (h : areaI l l.length < 0) (hj : j = i) (hi : i < l.length) : putN (putN (flat elP.fl (fillI l i)) (0 + j.toNat * 2) [iv (at2 l i).1, iv (at2 l i).2]) (0 + j.toNat * 2) [iv (at2 l (l.length - 1 - i)).1, iv (at2 l (l.length - 1 - i)).2] = flat elP.fl (fillI l (i + 1)) := by
  have e : 0 + j.toNat * 2 = i * 2 := by omega
  rw [e, flat_set _ _ _ (by rw [fillI_len (by omega)]; exact hi), flat_set _ _ _ (by rw [List.length_set, fillI_len (by omega)]; exact hi), set_set2, ← fillI_set hi, dirI_neg h hi]
def X50 : Nat × XF := (23, rfX elP elP S50)
attribute [local irreducible] turnS areaI polyE norO fillI leastI segI dirI Area2V in
theorem x50 : XOK Go.Proofs.Tryz.prog X50.1 X50.2 := rfX_ok elP elP (s := S50) (f := 23) (body_calls (xl := [X33, X35, X95, X57]) (.cons x33 (.cons x35 (.cons x95 (.cons x57 .nil))))) fun l r out e hs => by
  obtain ⟨rfl, hlen, rfl, rfl⟩ := S50_inv hs
  refine ⟨rfl, fun c => ?_⟩
  clear hs
  (conv => whnf)
  refine ⟨l, LsAt_own elP rfl, ?_⟩
  ((conv => whnf); refine bm (fun h1 => ?_) (fun h1 => ?_))
  · ((conv => whnf); refine bm (fun h2 => ?_) (fun h2 => ?_))
    · (conv => whnf)
      have hne : ¬ polyE l = 0 := by simpa only [cA_eq, cA_notB, Bool.not_eq_true', decide_eq_false_iff_not] using h2
      rw [show norO l = [] by unfold norO; rw [if_neg hne]]
      rfl
    · have he : polyE l = 0 := by simpa only [cA_eq, cA_notB, Bool.not_eq_false', decide_eq_true_eq] using h2
      obtain ⟨⟨hl3, hl2, hall, hnd⟩, hsim⟩ := polyE_ok he
      have hA : Area2V l = areaI l l.length := by unfold Area2V; rw [if_pos ⟨by omega, hall⟩]
      rw [show norO l = norR l by unfold norO; rw [if_pos he], he]
      ((conv => whnf); refine bm (fun h3 => ?_) (fun h3 => ?_))
      · (conv => whnf)
        refine ⟨fun n e h nx => ∃ (i : Nat) (j : Int), j = i ∧ i ≤ l.length ∧ n = l.length - i ∧ e = eA50 l.length c j ∧ h = h85 l (fillI l i) ∧ nx = 2, ⟨l.length, ?_⟩, ?_⟩
        · refine Into_id (e0 := eA50 l.length c 0) (h0 := h85 l (fillI l 0)) (n0 := 2) ⟨0, 0, rfl, Nat.zero_le _, rfl, rfl, rfl, rfl⟩ ?_ ?_ (by decide)
          · unfold eA50
            ((repeat' (refine List.forall_mem_cons.2 ⟨⟨rfl, ?_⟩, ?_⟩; (first | exact scT_g rfl | exact ⟨by decide, rfl⟩ | exact ⟨by decide, fun h => (by cases h)⟩))); exact fun _ h => (by cases h))
          · unfold h85
            rw [fillI_zero]
            ((repeat' (refine List.forall_mem_cons.2 ⟨⟨Nat.le_of_ble_eq_true rfl, _, rfl, ?_⟩, ?_⟩; (first | exact (ObjRen_j (flat_g elP _) (rep_flat _)) | exact ObjRen_g (flat_g _ _) | exact ObjRen_j rfl rfl))); exact fun _ h => (by cases h))
        · rintro n e h nx ⟨i, j, hj, hi, rfl, rfl, rfl, rfl⟩
          unfold eA50 h85
          ((conv => whnf); refine bm (fun g1 => ?_) (fun g1 => ?_))
          · have hlt : i < l.length := by simp only [cA_lt, cA_num, decide_eq_true_eq] at g1; omega
            have hlt2 : l.length - 1 - i < l.length := by omega
            have hfl := fillI_len (l := l) (i := i) hi
            repeat' first
              | (((conv => whnf); refine bm (fun g => ?_) (fun g => ?_)))
              | ((conv => whnf)
                 refine boL (getP l hlt ?_) ?_
                 · simp [cfgS, std]; omega)
              | ((conv => whnf)
                 refine boL (getP l hlt2 ?_) ?_
                 · simp [cfgS, std]; omega)
              | ((conv => whnf)
                 refine Exists.intro l (And.intro (LsAt_own elP rfl) ?_))
            all_goals (conv => whnf)
            case refine_1.refine_2.refine_1.refine_2.refine_1.refine_1.refine_2.refine_1.refine_1.refine_1.refine_1.refine_1.refine_1.refine_1.refine_2.refine_1.refine_1.refine_1 =>
              rename_i gs _ _ _ _ _
              have hs : areaI l l.length < 0 := by
                rw [← hA]
                simpa only [cA_lt, decide_eq_true_eq] using gs
              refine ⟨l.length - (i + 1), by omega, ?_⟩
              refine Into_id (e0 := eA50 l.length c (j + 1)) (h0 := h85 l (fillI l (i + 1))) (n0 := 2) ⟨i + 1, j + 1, by omega, by omega, rfl, rfl, rfl, rfl⟩ ?_ ?_ (by decide)
              · unfold eA50
                ((repeat' (refine List.forall_mem_cons.2 ⟨⟨rfl, ?_⟩, ?_⟩; (first | exact scT_g rfl | exact ⟨by decide, rfl⟩ | exact ⟨by decide, fun h => (by cases h)⟩))); exact fun _ h => (by cases h))
              · unfold h85
                ((repeat' (refine List.forall_mem_cons.2 ⟨⟨Nat.le_of_ble_eq_true rfl, _, rfl, ?_⟩, ?_⟩; (first | exact (ObjRen_j (flat_g elP _) (fill_neg hs hj hlt)) | exact ObjRen_g (flat_g _ _) | exact ObjRen_j rfl rfl))); exact fun _ h => (by cases h))
            case refine_1.refine_2.refine_1.refine_2.refine_1.refine_1.refine_2.refine_1.refine_1.refine_1.refine_2.refine_1 =>
              rename_i gs
              have hs : ¬ areaI l l.length < 0 := by
                rw [← hA]
                simpa only [cA_lt, decide_eq_false_iff_not] using gs
              refine ⟨l.length - (i + 1), by omega, ?_⟩
              refine Into_id (e0 := eA50 l.length c (j + 1)) (h0 := h85 l (fillI l (i + 1))) (n0 := 2) ⟨i + 1, j + 1, by omega, by omega, rfl, rfl, rfl, rfl⟩ ?_ ?_ (by decide)
              · unfold eA50
                ((repeat' (refine List.forall_mem_cons.2 ⟨⟨rfl, ?_⟩, ?_⟩; (first | exact scT_g rfl | exact ⟨by decide, rfl⟩ | exact ⟨by decide, fun h => (by cases h)⟩))); exact fun _ h => (by cases h))
              · unfold h85
                ((repeat' (refine List.forall_mem_cons.2 ⟨⟨Nat.le_of_ble_eq_true rfl, _, rfl, ?_⟩, ?_⟩; (first | exact (ObjRen_j (flat_g elP _) (fill_pos hs hj hlt)) | exact ObjRen_g (flat_g _ _) | exact ObjRen_j rfl rfl))); exact fun _ h => (by cases h))
            all_goals exfalso
            all_goals first
              | (simp only [cA_add, cA_sub, cA_fits, cA_lt, cA_le, cA_eq, cA_notB, cA_andB, cA_num, fitsK, Bool.and_eq_false_iff, Bool.not_eq_false', decide_eq_true_eq, decide_eq_false_iff_not] at g; omega)
              | (have hg : decide (l.length ≤ 1000000000) = false := g
                 rw [decide_eq_false_iff_not] at hg
                 omega)
              | (have hx : 0 + j.toNat * 2 + 2 ≤ (flat elP.fl (fillI l i)).length := by rw [flat2]; omega
                 have hc : Nat.ble (0 + j.toNat * 2 + 2) (flat elP.fl (fillI l i)).length = false := g
                 rw [Nat.ble_eq_true_of_le hx] at hc
                 cases hc)
              | (have hx : 0 + j.toNat * 2 + 2 ≤ (flat elP.fl (fillI l i)).length := by rw [flat2]; omega
                 have hc : Nat.ble (0 + j.toNat * 2 + 2) (putN (flat elP.fl (fillI l i)) (0 + j.toNat * 2) [iv (at2 l i).1, iv (at2 l i).2]).length = false := g
                 rw [putN_length (by show 0 + j.toNat * 2 + 2 ≤ _; exact hx), Nat.ble_eq_true_of_le hx] at hc
                 cases hc)
              | trace_state
          · have hge : i = l.length := by simp only [cA_lt, cA_num, decide_eq_false_iff_not] at g1; omega
            subst hge
            rw [fillI_end]
            unfold norR
            have hol := dirI_len l
            have hor : (dirI l).all rightS = true := by
              unfold dirI
              split
              · rw [List.all_reverse]; exact hall
              · exact hall
            generalize dirI l = o at hol hor ⊢
            rw [← hol]
            have ho3 : 3 ≤ o.length := by omega
            have ho2 : o.length ≤ 200 := by omega
            clear hi hj g1 hA hsim he h1 h2 hnd hall
            (conv => whnf)
            refine ⟨fun n e h nx => ∃ (i : Nat) (j f : Int), j = i ∧ i ≤ o.length ∧ n = o.length - i ∧ f = leastI o i ∧ e = eB50 o.length f j ∧ h = hB50 o ∧ nx = 2, ⟨o.length, ?_⟩, ?_⟩
            · refine Into_id (e0 := eB50 o.length 0 0) (h0 := hB50 o) (n0 := 2) ⟨0, 0, 0, rfl, Nat.zero_le _, rfl, by unfold leastI; rfl, rfl, rfl, rfl⟩ ?_ ?_ (by decide)
              · unfold eB50
                ((repeat' (refine List.forall_mem_cons.2 ⟨⟨rfl, ?_⟩, ?_⟩; (first | exact scT_g rfl | exact ⟨by decide, rfl⟩ | exact ⟨by decide, fun h => (by cases h)⟩))); exact fun _ h => (by cases h))
              · unfold hB50
                ((repeat' (refine List.forall_mem_cons.2 ⟨⟨Nat.le_of_ble_eq_true rfl, _, rfl, ?_⟩, ?_⟩; (first | exact ObjRen_g (flat_g _ _) | exact ObjRen_j rfl rfl))); exact fun _ h => (by cases h))
            · rintro n e h nx ⟨i, j, f, hj, hi, rfl, hf, rfl, rfl, rfl⟩
              unfold eB50 hB50
              ((conv => whnf); refine bm (fun g1 => ?_) (fun g1 => ?_))
              · have hlt : i < o.length := by simp only [cA_lt, cA_num, decide_eq_true_eq] at g1; omega
                have hfl : leastI o i < o.length := by have := leastI_lt o i; omega
                repeat' first
                  | (((conv => whnf); refine bm (fun g => ?_) (fun g => ?_)))
                  | ((conv => whnf)
                     refine boL (getP o hlt ?_) ?_
                     · simp [cfgS, std]; omega)
                  | ((conv => whnf)
                     refine boL (getP o hfl ?_) ?_
                     · simp [cfgS, std]; omega)
                all_goals (conv => whnf)
                case refine_1.refine_2.refine_1.refine_2.refine_2.refine_2.refine_1.refine_1.refine_2.refine_1.refine_2.refine_1.refine_1 =>
                  rename_i gs
                  have hs : lessB (at2 o i) (at2 o (leastI o i)) = true := gs
                  refine ⟨o.length - (i + 1), by omega, ?_⟩
                  refine Into_id (e0 := eB50 o.length j (j + 1)) (h0 := hB50 o) (n0 := 2) ⟨i + 1, j + 1, j, by omega, by omega, rfl, by (conv => rhs; unfold leastI); rw [if_pos hs, hj], rfl, rfl, rfl⟩ ?_ ?_ (by decide)
                  · unfold eB50
                    ((repeat' (refine List.forall_mem_cons.2 ⟨⟨rfl, ?_⟩, ?_⟩; (first | exact scT_g rfl | exact ⟨by decide, rfl⟩ | exact ⟨by decide, fun h => (by cases h)⟩))); exact fun _ h => (by cases h))
                  · unfold hB50
                    ((repeat' (refine List.forall_mem_cons.2 ⟨⟨Nat.le_of_ble_eq_true rfl, _, rfl, ?_⟩, ?_⟩; (first | exact ObjRen_g (flat_g _ _) | exact ObjRen_j rfl rfl))); exact fun _ h => (by cases h))
                case refine_1.refine_2.refine_1.refine_2.refine_2.refine_2.refine_1.refine_1.refine_2.refine_1.refine_2.refine_2.refine_1 =>
                  rename_i gs
                  have hs : lessB (at2 o i) (at2 o (leastI o i)) = false := gs
                  refine ⟨o.length - (i + 1), by omega, ?_⟩
                  refine Into_id (e0 := eB50 o.length f (j + 1)) (h0 := hB50 o) (n0 := 2) ⟨i + 1, j + 1, f, by omega, by omega, rfl, by (conv => rhs; unfold leastI); rw [if_neg (by rw [hs]; decide), hf], rfl, rfl, rfl⟩ ?_ ?_ (by decide)
                  · unfold eB50
                    ((repeat' (refine List.forall_mem_cons.2 ⟨⟨rfl, ?_⟩, ?_⟩; (first | exact scT_g rfl | exact ⟨by decide, rfl⟩ | exact ⟨by decide, fun h => (by cases h)⟩))); exact fun _ h => (by cases h))
                  · unfold hB50
                    ((repeat' (refine List.forall_mem_cons.2 ⟨⟨Nat.le_of_ble_eq_true rfl, _, rfl, ?_⟩, ?_⟩; (first | exact ObjRen_g (flat_g _ _) | exact ObjRen_j rfl rfl))); exact fun _ h => (by cases h))
                all_goals exfalso
                all_goals first
                  | (simp only [cA_add, cA_sub, cA_fits, cA_lt, cA_le, cA_eq, cA_notB, cA_andB, cA_num, fitsK, Bool.and_eq_false_iff, Bool.not_eq_false', decide_eq_true_eq, decide_eq_false_iff_not] at g; omega)
                  | trace_state
              · have hge : i = o.length := by simp only [cA_lt, cA_num, decide_eq_false_iff_not] at g1; omega
                subst hge
                have hfl : leastI o o.length < o.length := by have := leastI_lt o o.length; omega
                generalize leastI o o.length = fi at hf hfl ⊢
                clear hj hi g1
                (conv => whnf)
                refine ⟨fun n e h nx => ∃ (i : Nat) (j : Int), j = i ∧ i ≤ o.length ∧ n = o.length - i ∧
                  ((segI o fi i = [] ∧ e = eC50 o.length f (.slice none 0 0) j ∧ h = hB50 o ∧ nx = 2) ∨ (∃ R, R = segI o fi i ∧ 0 < R.length ∧ R.length ≤ i ∧ e = eC50 o.length f (.slice (some ⟨2, 0, none⟩) R.length R.length) j ∧ h = hC50 o R ∧ nx = 3)), ⟨o.length, ?_⟩, ?_⟩
                · refine Into_id (e0 := eC50 o.length f (.slice none 0 0) 0) (h0 := hB50 o) (n0 := 2) ⟨0, 0, rfl, Nat.zero_le _, rfl, .inl ⟨by unfold segI; rfl, rfl, rfl, rfl⟩⟩ ?_ ?_ (by decide)
                  · unfold eC50
                    ((repeat' (refine List.forall_mem_cons.2 ⟨⟨rfl, ?_⟩, ?_⟩; (first | exact scT_g rfl | exact ⟨by decide, rfl⟩ | exact ⟨by decide, fun h => (by cases h)⟩))); exact fun _ h => (by cases h))
                  · unfold hB50
                    ((repeat' (refine List.forall_mem_cons.2 ⟨⟨Nat.le_of_ble_eq_true rfl, _, rfl, ?_⟩, ?_⟩; (first | exact ObjRen_g (flat_g _ _) | exact ObjRen_j rfl rfl))); exact fun _ h => (by cases h))
                · rintro n e h nx ⟨i, j, hj, hi, rfl, hor2⟩
                  have hi2 : o.length ≤ 200 := ho2
                  have hn : (fi + i + 1) % o.length < o.length := Nat.mod_lt _ (by omega)
                  have hp : (fi + i + o.length - 1) % o.length < o.length := Nat.mod_lt _ (by omega)
                  have hcu : (fi + i) % o.length < o.length := Nat.mod_lt _ (by omega)
                  have tc : (f + j).tmod (o.length : Int) = ((fi + i) % o.length : Nat) := by rw [hj, hf]; exact (Int.ofNat_tmod _ _).symm
                  have tn : (f + j + 1).tmod (o.length : Int) = ((fi + i + 1) % o.length : Nat) := by rw [hj, hf]; exact (Int.ofNat_tmod _ _).symm
                  have tp : (f + j + (o.length : Int) - 1).tmod (o.length : Int) = ((fi + i + o.length - 1) % o.length : Nat) := by
                    rw [hj, hf, show ((fi : Int) + (i : Int) + (o.length : Int) - 1) = ((fi + i + o.length - 1 : Nat) : Int) by omega]
                    exact (Int.ofNat_tmod _ _).symm
                  have w1 := rightS_wide (all_at hor hcu)
                  have w2 := rightS_wide (all_at hor hn)
                  have w3 := rightS_wide (all_at hor hp)
                  rcases hor2 with ⟨hR, rfl, rfl, rfl⟩ | ⟨R, hR, hR0, hRi, rfl, rfl, rfl⟩
                  · unfold eC50 hB50
                    ((conv => whnf); refine bm (fun g1 => ?_) (fun g1 => ?_))
                    · have hlt : i < o.length := by simp only [cA_lt, cA_num, decide_eq_true_eq] at g1; omega
                      repeat' first
                        | (((conv => whnf); refine bm (fun g => ?_) (fun g => ?_)))
                        | ((conv => whnf)
                           refine boL (getP o hcu ?_) ?_
                           · show 0 + ((f + j).tmod (o.length : Int)).toNat * 2 = _
                             rw [tc, Int.toNat_natCast, Nat.zero_add])
                        | ((conv => whnf)
                           refine boL (getP o hp ?_) ?_
                           · show 0 + ((f + j + (o.length : Int) - 1).tmod (o.length : Int)).toNat * 2 = _
                             rw [tp, Int.toNat_natCast, Nat.zero_add])
                        | ((conv => whnf)
                           refine boL (getP o hn ?_) ?_
                           · show 0 + ((f + j + 1).tmod (o.length : Int)).toNat * 2 = _
                             rw [tn, Int.toNat_natCast, Nat.zero_add])
                      all_goals (conv => whnf)
                      all_goals first
                        | (rename_i gk
                           have hk : keptO o (fi + i) = true := gk
                           have hr : segI o fi (i + 1) = [at2 o ((fi + i) % o.length)] := by
                             unfold segI
                             rw [hR, if_pos hk]
                             rfl
                           refine ⟨o.length - (i + 1), by omega, ?_⟩
                           refine Into_mv (e0 := eC50 o.length f (.slice (some ⟨2, 0, none⟩) 1 1) (j + 1)) (h0 := hC50 o [at2 o ((fi + i) % o.length)]) (n0 := 3) 2 6 (by decide) (by decide)
                             ⟨i + 1, j + 1, by omega, by omega, rfl, .inr ⟨[at2 o ((fi + i) % o.length)], hr.symm, Nat.one_pos, Nat.succ_le_succ (Nat.zero_le _), rfl, rfl, rfl⟩⟩ ?_ ?_ ?_
                           · unfold eC50
                             ((repeat' (refine List.forall_mem_cons.2 ⟨⟨rfl, ?_⟩, ?_⟩; (first | exact scT_g rfl | exact ⟨by decide, rfl⟩ | exact ⟨by decide, fun h => (by cases h)⟩))); exact fun _ h => (by cases h))
                           · unfold hC50
                             ((repeat' (refine List.forall_mem_cons.2 ⟨⟨Nat.le_of_ble_eq_true rfl, _, rfl, ?_⟩, ?_⟩; (first | exact ObjRen_g (flat_g _ _) | exact ObjRen_j rfl rfl))); exact fun _ h => (by cases h))
                           · unfold hC50
                             ((repeat' (refine List.forall_mem_cons.2 ⟨?_, ?_⟩; (intro _ h; revert h; simp))); exact fun _ h => (by cases h)))
                        | (rename_i gk
                           have hk : keptO o (fi + i) = false := gk
                           have hr : segI o fi (i + 1) = [] := by
                             unfold segI
                             rw [hR, if_neg (by rw [hk]; decide)]
                             rfl
                           refine ⟨o.length - (i + 1), by omega, ?_⟩
                           refine Into_id (e0 := eC50 o.length f (.slice none 0 0) (j + 1)) (h0 := hB50 o) (n0 := 2) ⟨i + 1, j + 1, by omega, by omega, rfl, .inl ⟨hr, rfl, rfl, rfl⟩⟩ ?_ ?_ (by decide)
                           · unfold eC50
                             ((repeat' (refine List.forall_mem_cons.2 ⟨⟨rfl, ?_⟩, ?_⟩; (first | exact scT_g rfl | exact ⟨by decide, rfl⟩ | exact ⟨by decide, fun h => (by cases h)⟩))); exact fun _ h => (by cases h))
                           · unfold hB50
                             ((repeat' (refine List.forall_mem_cons.2 ⟨⟨Nat.le_of_ble_eq_true rfl, _, rfl, ?_⟩, ?_⟩; (first | exact ObjRen_g (flat_g _ _) | exact ObjRen_j rfl rfl))); exact fun _ h => (by cases h)))
                        | (exfalso
                           simp only [cA_add, cA_sub, cA_fits, cA_lt, cA_le, cA_eq, cA_notB, cA_andB, cA_num, fitsK, Bool.and_eq_false_iff, Bool.not_eq_false', decide_eq_true_eq, decide_eq_false_iff_not] at g
                           omega)
                        | (exfalso
                           simp only [cA_rem, cA_add, cA_sub, cA_lt, cA_le, cA_andB, cA_num, Bool.and_eq_false_iff, decide_eq_false_iff_not] at g
                           rw [tc] at g
                           omega)
                        | (exfalso
                           simp only [cA_rem, cA_add, cA_sub, cA_lt, cA_le, cA_andB, cA_num, Bool.and_eq_false_iff, decide_eq_false_iff_not] at g
                           rw [tn] at g
                           omega)
                        | (exfalso
                           simp only [cA_rem, cA_add, cA_sub, cA_lt, cA_le, cA_andB, cA_num, Bool.and_eq_false_iff, decide_eq_false_iff_not] at g
                           rw [tp] at g
                           omega)
                        | (exfalso
                           have hg : (wide (at2 o ((fi + i + o.length - 1) % o.length)) && wide (at2 o ((fi + i) % o.length)) && wide (at2 o ((fi + i + 1) % o.length))) = false := g
                           rw [w1, w2, w3] at hg
                           cases hg)
                        | trace_state
                    · have hge : i = o.length := by simp only [cA_lt, cA_num, decide_eq_false_iff_not] at g1; omega
                      subst hge
                      (conv => whnf)
                      rw [hR]
                      rfl
                  · unfold eC50 hC50
                    ((conv => whnf); refine bm (fun g1 => ?_) (fun g1 => ?_))
                    · have hlt : i < o.length := by simp only [cA_lt, cA_num, decide_eq_true_eq] at g1; omega
                      repeat' first
                        | (exfalso
                           have hx : Nat.ble (R.length + 1) R.length = true := g
                           have := Nat.le_of_ble_eq_true hx
                           omega)
                        | (((conv => whnf); refine bm (fun g => ?_) (fun g => ?_)))
                        | ((conv => whnf)
                           refine boL (getP o hcu ?_) ?_
                           · show 0 + ((f + j).tmod (o.length : Int)).toNat * 2 = _
                             rw [tc, Int.toNat_natCast, Nat.zero_add])
                        | ((conv => whnf)
                           refine boL (getP o hp ?_) ?_
                           · show 0 + ((f + j + (o.length : Int) - 1).tmod (o.length : Int)).toNat * 2 = _
                             rw [tp, Int.toNat_natCast, Nat.zero_add])
                        | ((conv => whnf)
                           refine boL (getP o hn ?_) ?_
                           · show 0 + ((f + j + 1).tmod (o.length : Int)).toNat * 2 = _
                             rw [tn, Int.toNat_natCast, Nat.zero_add])
                      all_goals (conv => whnf)
                      all_goals first
                        | (rename_i gk _ _
                           have hk : keptO o (fi + i) = true := gk
                           have hr : segI o fi (i + 1) = R ++ [at2 o ((fi + i) % o.length)] := by
                             rw [hR]
                             conv => lhs; unfold segI
                             rw [if_pos hk]
                           refine ⟨o.length - (i + 1), by omega, ?_⟩
                           refine Into_mv (e0 := eC50 o.length f (.slice (some ⟨2, 0, none⟩) (R.length + 1) (R.length + 1)) (j + 1)) (h0 := hC50 o (R ++ [at2 o ((fi + i) % o.length)])) (n0 := 3) 2 7 (by decide) (by decide)
                             ⟨i + 1, j + 1, by omega, by omega, rfl, .inr ⟨R ++ [at2 o ((fi + i) % o.length)], hr.symm, by rw [List.length_append]; exact Nat.succ_pos _, by rw [List.length_append]; exact Nat.succ_le_succ hRi, by rw [List.length_append]; rfl, rfl, rfl⟩⟩ ?_ ?_ ?_
                           · unfold eC50
                             ((repeat' (refine List.forall_mem_cons.2 ⟨⟨rfl, ?_⟩, ?_⟩; (first | exact scT_g rfl | exact ⟨by decide, rfl⟩ | exact ⟨by decide, fun h => (by cases h)⟩))); exact fun _ h => (by cases h))
                           · unfold hC50
                             ((repeat' (refine List.forall_mem_cons.2 ⟨⟨Nat.le_of_ble_eq_true rfl, _, rfl, ?_⟩, ?_⟩; (first | exact (ObjRen_j (flat_g elP _) (flat_grow R _)) | exact ObjRen_g (flat_g _ _) | exact ObjRen_j rfl rfl))); exact fun _ h => (by cases h))
                           · unfold hC50
                             ((repeat' (refine List.forall_mem_cons.2 ⟨?_, ?_⟩; (intro _ h; revert h; simp))); exact fun _ h => (by cases h)))
                        | (rename_i gk
                           have hk : keptO o (fi + i) = false := gk
                           have hr : segI o fi (i + 1) = R := by
                             rw [hR]
                             conv => lhs; unfold segI
                             rw [if_neg (by rw [hk]; decide), List.append_nil]
                           refine ⟨o.length - (i + 1), by omega, ?_⟩
                           refine Into_id (e0 := eC50 o.length f (.slice (some ⟨2, 0, none⟩) R.length R.length) (j + 1)) (h0 := hC50 o R) (n0 := 3) ⟨i + 1, j + 1, by omega, by omega, rfl, .inr ⟨R, hr.symm, hR0, by omega, rfl, rfl, rfl⟩⟩ ?_ ?_ (by decide)
                           · unfold eC50
                             ((repeat' (refine List.forall_mem_cons.2 ⟨⟨rfl, ?_⟩, ?_⟩; (first | exact scT_g rfl | exact ⟨by decide, rfl⟩ | exact ⟨by decide, fun h => (by cases h)⟩))); exact fun _ h => (by cases h))
                           · unfold hC50
                             ((repeat' (refine List.forall_mem_cons.2 ⟨⟨Nat.le_of_ble_eq_true rfl, _, rfl, ?_⟩, ?_⟩; (first | exact ObjRen_g (flat_g _ _) | exact ObjRen_j rfl rfl))); exact fun _ h => (by cases h)))
                        | (exfalso
                           simp only [cA_add, cA_sub, cA_fits, cA_lt, cA_le, cA_eq, cA_notB, cA_andB, cA_num, fitsK, Bool.and_eq_false_iff, Bool.not_eq_false', decide_eq_true_eq, decide_eq_false_iff_not] at g
                           omega)
                        | (exfalso
                           simp only [cA_rem, cA_add, cA_sub, cA_lt, cA_le, cA_andB, cA_num, Bool.and_eq_false_iff, decide_eq_false_iff_not] at g
                           rw [tc] at g
                           omega)
                        | (exfalso
                           simp only [cA_rem, cA_add, cA_sub, cA_lt, cA_le, cA_andB, cA_num, Bool.and_eq_false_iff, decide_eq_false_iff_not] at g
                           rw [tn] at g
                           omega)
                        | (exfalso
                           simp only [cA_rem, cA_add, cA_sub, cA_lt, cA_le, cA_andB, cA_num, Bool.and_eq_false_iff, decide_eq_false_iff_not] at g
                           rw [tp] at g
                           omega)
                        | (exfalso
                           have hg : (wide (at2 o ((fi + i + o.length - 1) % o.length)) && wide (at2 o ((fi + i) % o.length)) && wide (at2 o ((fi + i + 1) % o.length))) = false := g
                           rw [w1, w2, w3] at hg
                           cases hg)
                        | (exfalso
                           have hf : (flat elP.fl R).length = R.length * 2 := by rw [flat_len]; rfl
                           simp only [cA_andB, hf] at g
                           revert g
                           simp
                           omega)
                        | trace_state
                    · have hge : i = o.length := by simp only [cA_lt, cA_num, decide_eq_false_iff_not] at g1; omega
                      subst hge
                      (conv => whnf)
                      rw [← hR]
                      refine Yields_own (l := R) (e := some 0) (q := 2) (nx := 0) elP hR0 ?_
                      rfl
      · exfalso
        have hg : (((decide ((0 : Int) ≤ l.length) && decide ((l.length : Int) ≤ l.length))) && (decide ((l.length : Int) ≤ 1000000000) && Nat.ble 16 1000)) = false := h3
        rw [show Nat.ble 16 1000 = true from rfl, Bool.and_true] at hg
        simp only [Bool.and_eq_false_iff, decide_eq_false_iff_not] at hg
        omega
  · exfalso
    have hg : decide (l.length ≤ 1000000000) = false := h1
    rw [decide_eq_false_iff_not] at hg
    omega
end Go.Aw
