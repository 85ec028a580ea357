/-
  Split: the program's, walked. No condition.
-/
import Derived.Test.YtmkcjbpekejgdaaGreatSe119
import Derived.Test.YtmkcjbpekejgdaaGreatSe120
set_option linter.unusedSimpArgs false
set_option linter.unusedVariables false
noncomputable section
namespace Go.Aw
set_option maxRecDepth 100000
theorem at2_p0 (a b : Int × Int) : at2 [a, b] 0 = a := rfl
theorem at2_p1 (a b : Int × Int) : at2 [a, b] 1 = b := rfl
set_option maxHeartbeats 4000000 in
attribute [local irreducible] sortI ddI stpI stD outS pcI crossR chkS cr1 cr2 insS at2 atS sortG ddG dedG splO splE endsS in
theorem d39 : XOK Go.Proofs.Tryz.prog 39 (rfX elS elS S39) := rfX_ok elS elS (s := S39) (f := 39) (body_calls (xl := [X38, X74, XinS, (77, sX), (79, cpX), (95, sXg), (98, cpXg)]) (.cons x38 (.cons x74 (.cons xinS (.cons d77 (.cons c79 (.cons d95 (.cons c98 .nil)))))))) fun l r out e hs => by
  obtain ⟨rfl, hlen, hpos, rfl, rfl⟩ := S39_inv hs
  refine ⟨rfl, fun c => ?_⟩
  clear hs
  (conv => whnf)
  refine ⟨l, LsAt_own elS rfl, ?_⟩
  ((conv => whnf); refine bm (fun g1 => ?_) (fun g1 => ?_))
  · ((conv => whnf); refine bm (fun g2 => ?_) (fun g2 => ?_))
    · have hc : chkS l ≠ 0 := by
        intro h
        have hg : (!(decide (chkS l = 0))) = true := g2
        rw [h] at hg
        cases hg
      have hE : splE l = chkS l := by unfold splE; rw [if_neg hc]
      rw [show splO l = [] by unfold splO; rw [hE, if_neg hc], hE]
      (conv => whnf)
      rfl
    · have hc : chkS l = 0 := by
        have hg : (!(decide (chkS l = 0))) = false := g2
        simpa using hg
      ((conv => whnf); refine bm (fun g3 => ?_) (fun g3 => ?_))
      · have hg : (crossR l).isSome = true := by assumption
        have hE : splE l = 10 := by unfold splE; rw [if_pos hc, if_pos hg]
        rw [show splO l = [] by unfold splO; rw [hE, if_neg (by decide)], hE]
        (conv => whnf)
        rfl
      · have hg : (crossR l).isSome = false := by assumption
        have hE : splE l = 0 := by unfold splE; rw [if_pos hc, if_neg (by rw [hg]; decide)]
        rw [show splO l = dedG (outS l l.length) by unfold splO; rw [hE, if_pos rfl], hE]
        obtain ⟨h400, hr⟩ := chkS_ok hc
        clear hE hc g2 g3 hg
        (conv => whnf)
        refine ⟨fun n e h nx => ∃ (i : Nat) (j : Int) (L : List Sg) (O : Value) (F : Heap), j = i ∧ i ≤ l.length ∧ n = l.length - i ∧ L = outS l i ∧ OF L O F ∧ e = e39 O l.length c j ∧ h = h39 l F ∧ nx = 2, ⟨l.length, ?_⟩, ?_⟩
        · refine Into_id (e0 := e39 (.slice none 0 0) l.length c 0) (h0 := h39 l []) (n0 := 2) ⟨0, 0, [], _, _, rfl, Nat.zero_le _, rfl, (outS_0 l).symm, .inl ⟨rfl, rfl, rfl⟩, rfl, rfl, rfl⟩ ?_ ?_ (by decide)
          · unfold e39
            ((repeat' (refine List.forall_mem_cons.2 ⟨⟨rfl, ?_⟩, ?_⟩; (first | exact scT_g rfl | exact ⟨by decide, rfl⟩ | exact ⟨by decide, fun h => (by cases h)⟩))); exact fun _ h => (by cases h))
          · unfold h39
            ((repeat' (refine List.forall_mem_cons.2 ⟨⟨Nat.le_of_ble_eq_true rfl, _, rfl, ?_⟩, ?_⟩; (first | exact ObjRen_g (flat_g _ _) | exact ObjRen_j rfl rfl))); exact fun _ h => (by cases h))
        · rintro n e h nx ⟨i, j, L, O, F, hj, hi, rfl, hL0, hO, rfl, rfl, rfl⟩
          have hLb : L.length ≤ 400 * 801 := by
            have hb := outS_len l i
            have hb2 : i * (1 + 2 * l.length) ≤ 400 * 801 := Nat.mul_le_mul (by omega) (by omega)
            rw [hL0]
            omega
          rcases hO with ⟨hL, rfl, rfl⟩ | ⟨hL, rfl, rfl⟩
          · unfold e39 h39
            ((conv => whnf); refine bm (fun g4 => ?_) (fun g4 => ?_))
            · have hlt : i < l.length := by simp only [cA_lt, cA_num, decide_eq_true_eq] at g4; omega
              repeat' first
                | (exfalso; simp only [cA_add, cA_sub, cA_fits, cA_lt, cA_le, cA_eq, cA_notB, cA_andB, cA_num, cA_subN, cA_toN, cA_eqB, fitsK, ble_t, ble_f, flat2, flat4, Bool.not_eq_false', Bool.not_eq_true', Bool.and_eq_false_iff, Bool.and_eq_true, decide_eq_true_eq, decide_eq_false_iff_not, List.length_append, List.length_nil, List.length_cons, cA_ix] at g; omega)
                | (((conv => whnf); refine bm (fun g => ?_) (fun g => ?_)))
                | ((conv => whnf)
                   refine boL (getS l hlt ?_) ?_
                   · simp [cfgS, std]; omega)
              all_goals (conv => whnf)
              have hsr := all_atS hr hlt
              have hsw := rightG_wide hsr
              refine ⟨fun n e h nx => ∃ (k : Nat) (x : Int) (st : List (Int × Int)), st = stpI l (atS l i) k ∧ x = k ∧ k ≤ l.length ∧ n = l.length - k ∧ e = e39b (.slice none 0 0) l.length c j st.length x ∧ h = h39b l [] (atS l i) st ∧ nx = 4, ⟨l.length, ?_⟩, ?_⟩
              · refine Into_mv (e0 := e39b (.slice none 0 0) l.length c j 2 0) (h0 := h39b l [] (atS l i) [(endsS (atS l i)).1, (endsS (atS l i)).2]) (n0 := 4) 3 5 (by decide) (by decide) ⟨0, 0, _, (stpI_0 l (atS l i)).symm, rfl, Nat.zero_le _, rfl, rfl, rfl, rfl⟩ ?_ ?_ ?_
                · unfold e39b
                  ((repeat' (refine List.forall_mem_cons.2 ⟨⟨rfl, ?_⟩, ?_⟩; (first | exact scT_g rfl | exact ⟨by decide, rfl⟩ | exact ⟨by decide, fun h => (by cases h)⟩))); exact fun _ h => (by cases h))
                · unfold h39b
                  ((repeat' (refine List.forall_mem_cons.2 ⟨⟨Nat.le_of_ble_eq_true rfl, _, rfl, ?_⟩, ?_⟩; (first | exact ObjRen_g (flat_g _ _) | exact ObjRen_j rfl rfl))); exact fun _ h => (by cases h))
                · unfold h39b
                  ((repeat' (refine List.forall_mem_cons.2 ⟨?_, ?_⟩; (intro _ h; revert h; simp))); exact fun _ h => (by cases h))
              · rintro n e h nx ⟨k, x, st, hst, hx, hk, rfl, rfl, rfl, rfl⟩
                have hsl := stpI_len l (atS l i) k
                rw [← hst] at hsl
                unfold e39b h39b
                ((conv => whnf); refine bm (fun g5 => ?_) (fun g5 => ?_))
                · have hlt2 : k < l.length := by simp only [cA_lt, cA_num, decide_eq_true_eq] at g5; omega
                  repeat' first
                    | (exfalso; simp only [cA_add, cA_sub, cA_fits, cA_lt, cA_le, cA_eq, cA_notB, cA_andB, cA_num, cA_subN, cA_toN, cA_eqB, fitsK, ble_t, ble_f, flat2, flat4, Bool.not_eq_false', Bool.not_eq_true', Bool.and_eq_false_iff, Bool.and_eq_true, decide_eq_true_eq, decide_eq_false_iff_not, List.length_append, List.length_nil, List.length_cons, cA_ix] at g; omega)
                    | (((conv => whnf); refine bm (fun g => ?_) (fun g => ?_)))
                    | ((conv => whnf)
                       refine boL (getS l hlt2 ?_) ?_
                       · simp [cfgS, std]; omega)
                  all_goals (conv => whnf)
                  have htr := all_atS hr hlt2
                  obtain ⟨hta, htb, -⟩ := right_two htr
                  refine ⟨fun n e h nx => ∃ (q : Nat) (y : Int) (sq : List (Int × Int)), sq = ([(atS l k).1, (atS l k).2].take q).foldl (stpA (atS l i)) st ∧ y = q ∧ q ≤ 2 ∧ sq.length ≤ st.length + q ∧ n = 2 - q ∧ e = e39c (.slice none 0 0) l.length c j sq.length x y ∧ h = h39c l [] (atS l i) sq [(atS l k).1, (atS l k).2] ∧ nx = 6, ⟨2, ?_⟩, ?_⟩
                  · refine Into_id (e0 := e39c (.slice none 0 0) l.length c j st.length x 0) (h0 := h39c l [] (atS l i) st [(atS l k).1, (atS l k).2]) (n0 := 6) ⟨0, 0, st, rfl, rfl, by decide, Nat.le_refl _, rfl, rfl, rfl, rfl⟩ ?_ ?_ (by decide)
                    · unfold e39c
                      ((repeat' (refine List.forall_mem_cons.2 ⟨⟨rfl, ?_⟩, ?_⟩; (first | exact scT_g rfl | exact ⟨by decide, rfl⟩ | exact ⟨by decide, fun h => (by cases h)⟩))); exact fun _ h => (by cases h))
                    · unfold h39c
                      ((repeat' (refine List.forall_mem_cons.2 ⟨⟨Nat.le_of_ble_eq_true rfl, _, rfl, ?_⟩, ?_⟩; (first | exact ObjRen_g (flat_g _ _) | exact ObjRen_j rfl rfl))); exact fun _ h => (by cases h))
                  · rintro n e h nx ⟨q, y, sq, hsq, hy, hq, hql, rfl, rfl, rfl, rfl⟩
                    have hpw : ∀ q, q < 2 → wide (at2 [(atS l k).1, (atS l k).2] q) = true := by
                      intro q hq
                      have : q = 0 ∨ q = 1 := by omega
                      rcases this with rfl | rfl
                      · rw [at2_p0]; exact rightS_wide hta
                      · rw [at2_p1]; exact rightS_wide htb
                    have hpl : [(atS l k).1, (atS l k).2].length = 2 := rfl
                    generalize hps : [(atS l k).1, (atS l k).2] = ps at hsq hpw hpl ⊢
                    unfold e39c h39c
                    ((conv => whnf); refine bm (fun g6 => ?_) (fun g6 => ?_))
                    · have hq2 : q < 2 := by simp only [cA_lt, decide_eq_true_eq] at g6; omega
                      have hqp : q < ps.length := by omega
                      have hw := hpw q hq2
                      have hfs := foldS (atS l i) st ps hqp
                      rw [← hsq] at hfs
                      repeat' first
                        | (exfalso; simp only [cA_add, cA_sub, cA_fits, cA_lt, cA_le, cA_eq, cA_notB, cA_andB, cA_num, cA_subN, cA_toN, cA_eqB, fitsK, ble_t, ble_f, flat2, flat4, Bool.not_eq_false', Bool.not_eq_true', Bool.and_eq_false_iff, Bool.and_eq_true, decide_eq_true_eq, decide_eq_false_iff_not, List.length_append, List.length_nil, List.length_cons, cA_ix] at g; omega)
                        | (((conv => whnf); refine bm (fun g => ?_) (fun g => ?_)))
                        | ((conv => whnf)
                           refine boL (getP ps hqp ?_) ?_
                           · simp [cfgS, std]; omega)
                      all_goals (conv => whnf)
                      all_goals first
                        | (exfalso
                           have hg : (wide (at2 ps q) && wideS (atS l i)) = false := by assumption
                           rw [hw, hsw] at hg
                           cases hg)
                        | (have hin : insS (at2 ps q) (atS l i) = true := by assumption
                           rw [stpA_yes hin] at hfs
                           refine ⟨2 - (q + 1), by omega, ?_⟩
                           refine Into_mv (e0 := e39c (.slice none 0 0) l.length c j (sq.length + 1) x (y + 1)) (h0 := h39c l [] (atS l i) (sq ++ [at2 ps q]) ps) (n0 := 6) 3 8 (by decide) (by decide) ⟨q + 1, y + 1, sq ++ [at2 ps q], hfs.symm, by omega, by omega, by rw [List.length_append, List.length_singleton]; omega, rfl, by rw [List.length_append, List.length_singleton]; rfl, rfl, rfl⟩ ?_ ?_ ?_
                           · unfold e39c
                             ((repeat' (refine List.forall_mem_cons.2 ⟨⟨rfl, ?_⟩, ?_⟩; (first | exact scT_g rfl | exact ⟨by decide, rfl⟩ | exact ⟨by decide, fun h => (by cases h)⟩))); exact fun _ h => (by cases h))
                           · unfold h39c
                             ((repeat' (refine List.forall_mem_cons.2 ⟨⟨Nat.le_of_ble_eq_true rfl, _, rfl, ?_⟩, ?_⟩; (first | exact (ObjRen_j (flat_g elP _) (flat_grow sq _)) | exact ObjRen_g (flat_g _ _) | exact ObjRen_j rfl rfl))); exact fun _ h => (by cases h))
                           · unfold h39c
                             ((repeat' (refine List.forall_mem_cons.2 ⟨?_, ?_⟩; (intro _ h; revert h; simp))); exact fun _ h => (by cases h)))
                        | (have hin : insS (at2 ps q) (atS l i) = false := by assumption
                           rw [stpA_no hin] at hfs
                           refine ⟨2 - (q + 1), by omega, ?_⟩
                           refine Into_id (e0 := e39c (.slice none 0 0) l.length c j sq.length x (y + 1)) (h0 := h39c l [] (atS l i) sq ps) (n0 := 6) ⟨q + 1, y + 1, sq, hfs.symm, by omega, by omega, by omega, rfl, rfl, rfl, rfl⟩ ?_ ?_ (by decide)
                           · unfold e39c
                             ((repeat' (refine List.forall_mem_cons.2 ⟨⟨rfl, ?_⟩, ?_⟩; (first | exact scT_g rfl | exact ⟨by decide, rfl⟩ | exact ⟨by decide, fun h => (by cases h)⟩))); exact fun _ h => (by cases h))
                           · unfold h39c
                             ((repeat' (refine List.forall_mem_cons.2 ⟨⟨Nat.le_of_ble_eq_true rfl, _, rfl, ?_⟩, ?_⟩; (first | exact ObjRen_g (flat_g _ _) | exact ObjRen_j rfl rfl))); exact fun _ h => (by cases h)))
                        | (exfalso
                           have hf : (flat elP.fl sq).length = sq.length * 2 := flat2 sq
                           simp only [cA_andB, hf] at g
                           revert g
                           simp
                           omega)
                        | trace_state
                    · have hq2 : q = 2 := by simp only [cA_lt, decide_eq_false_iff_not] at g6; omega
                      subst hq2
                      have hsk : sq = stpI l (atS l i) (k + 1) := by
                        have e1 : ps.take 2 = ps := List.take_of_length_le (by omega)
                        rw [hsq, e1, ← hps, stpI_s, ← hst]
                        rfl
                      repeat' first
                        | (exfalso; simp only [cA_add, cA_sub, cA_fits, cA_lt, cA_le, cA_eq, cA_notB, cA_andB, cA_num, cA_subN, cA_toN, cA_eqB, fitsK, ble_t, ble_f, flat2, flat4, Bool.not_eq_false', Bool.not_eq_true', Bool.and_eq_false_iff, Bool.and_eq_true, decide_eq_true_eq, decide_eq_false_iff_not, List.length_append, List.length_nil, List.length_cons, cA_ix] at g; omega)
                        | (((conv => whnf); refine bm (fun g => ?_) (fun g => ?_)))
                      all_goals (conv => whnf)
                      refine ⟨l.length - (k + 1), by omega, ?_⟩
                      refine Into_id (e0 := e39b (.slice none 0 0) l.length c j sq.length (x + 1)) (h0 := h39b l [] (atS l i) sq) (n0 := 4) ⟨k + 1, x + 1, sq, hsk, by omega, by omega, rfl, rfl, rfl, rfl⟩ ?_ ?_ (by decide)
                      · unfold e39b
                        ((repeat' (refine List.forall_mem_cons.2 ⟨⟨rfl, ?_⟩, ?_⟩; (first | exact scT_g rfl | exact ⟨by decide, rfl⟩ | exact ⟨by decide, fun h => (by cases h)⟩))); exact fun _ h => (by cases h))
                      · unfold h39b
                        ((repeat' (refine List.forall_mem_cons.2 ⟨⟨Nat.le_of_ble_eq_true rfl, _, rfl, ?_⟩, ?_⟩; (first | exact ObjRen_g (flat_g _ _) | exact ObjRen_j rfl rfl))); exact fun _ h => (by cases h))
                · have hge : k = l.length := by simp only [cA_lt, cA_num, decide_eq_false_iff_not] at g5; omega
                  subst hge
                  have hDe := stD_def l (atS l i)
                  rw [← hst] at hDe
                  (conv => whnf)
                  refine ⟨st, rfl, rfl, by omega, by omega, ?_⟩
                  (conv => whnf)
                  refine ⟨sortI st, by rw [sortI_len], by rw [sortI_len], rfl, rfl, by rw [sortI_len]; omega, by rw [sortI_len]; omega, ?_⟩
                  rw [hDe]
                  have hD2 := stD_two hr hlt
                  have hD9 := stD_len l (atS l i)
                  have hos := outS_s l i
                  clear hDe hst hsl
                  generalize stD l (atS l i) = D at hD2 hD9 hos ⊢
                  (conv => whnf)
                  refine ⟨fun n e h nx => ∃ (m : Nat) (x : Int) (L' : List Sg) (O' : Value) (F' : Heap), L' = L ++ pcI D m ∧ x = (m : Int) + 1 ∧ m + 1 ≤ D.length ∧ n = D.length - 1 - m ∧ OF L' O' F' ∧ e = e39d O' l.length c j D.length x ∧ h = h39d l F' D ∧ nx = 5, ⟨D.length - 1, ?_⟩, ?_⟩
                  · refine Into_id (e0 := e39d (.slice none 0 0) l.length c j D.length 1) (h0 := h39d l [] D) (n0 := 5) ⟨0, 1, L, _, _, by rw [pcI_0, List.append_nil], rfl, by omega, rfl, .inl ⟨hL, rfl, rfl⟩, rfl, rfl, rfl⟩ ?_ ?_ (by decide)
                    · unfold e39d
                      ((repeat' (refine List.forall_mem_cons.2 ⟨⟨rfl, ?_⟩, ?_⟩; (first | exact scT_g rfl | exact ⟨by decide, rfl⟩ | exact ⟨by decide, fun h => (by cases h)⟩))); exact fun _ h => (by cases h))
                    · unfold h39d
                      ((repeat' (refine List.forall_mem_cons.2 ⟨⟨Nat.le_of_ble_eq_true rfl, _, rfl, ?_⟩, ?_⟩; (first | exact ObjRen_g (flat_g _ _) | exact ObjRen_j rfl rfl))); exact fun _ h => (by cases h))
                  · rintro n e h nx ⟨m, x, L', O', F', hL', hx, hm, rfl, hO', rfl, rfl, rfl⟩
                    have hLl : L'.length = L.length + m := by rw [hL', List.length_append, pcI_len]
                    rcases hO' with ⟨hLn, rfl, rfl⟩ | ⟨hLn, rfl, rfl⟩
                    · unfold e39d h39d
                      ((conv => whnf); refine bm (fun g7 => ?_) (fun g7 => ?_))
                      · have hmt : m + 1 < D.length := by simp only [cA_lt, cA_num, decide_eq_true_eq] at g7; omega
                        have hm0 : m < D.length := by omega
                        repeat' first
                          | (exfalso; simp only [cA_add, cA_sub, cA_fits, cA_lt, cA_le, cA_eq, cA_notB, cA_andB, cA_num, cA_subN, cA_toN, cA_eqB, fitsK, ble_t, ble_f, flat2, flat4, Bool.not_eq_false', Bool.not_eq_true', Bool.and_eq_false_iff, Bool.and_eq_true, decide_eq_true_eq, decide_eq_false_iff_not, List.length_append, List.length_nil, List.length_cons, cA_ix] at g; omega)
                          | (((conv => whnf); refine bm (fun g => ?_) (fun g => ?_)))
                          | ((conv => whnf)
                             refine boL (getP D hm0 ?_) ?_
                             · simp [cfgS, std]; omega)
                          | ((conv => whnf)
                             refine boL (getP D hmt ?_) ?_
                             · simp [cfgS, std]; omega)
                        all_goals (conv => whnf)
                        subst hLn
                        refine ⟨D.length - 1 - (m + 1), by omega, ?_⟩
                        refine Into_mv (e0 := e39d (.slice (some ⟨1, 0, none⟩) 1 1) l.length c j D.length (x + 1)) (h0 := h39d l [(1, .cells true false 4 (flat elS.fl [(at2 D m, at2 D (m + 1))]))] D) (n0 := 5) 1 6 (by decide) (by decide) ⟨m + 1, x + 1, [(at2 D m, at2 D (m + 1))], _, _, by rw [pcI_s, ← List.append_assoc, ← hL']; rfl, by omega, by omega, rfl, .inr ⟨Nat.one_pos, rfl, rfl⟩, rfl, rfl, rfl⟩ ?_ ?_ ?_
                        · unfold e39d
                          ((repeat' (refine List.forall_mem_cons.2 ⟨⟨rfl, ?_⟩, ?_⟩; (first | exact scT_g rfl | exact ⟨by decide, rfl⟩ | exact ⟨by decide, fun h => (by cases h)⟩))); exact fun _ h => (by cases h))
                        · unfold h39d
                          ((repeat' (refine List.forall_mem_cons.2 ⟨⟨Nat.le_of_ble_eq_true rfl, _, rfl, ?_⟩, ?_⟩; (first | exact ObjRen_g (flat_g _ _) | exact ObjRen_j rfl rfl))); exact fun _ h => (by cases h))
                        · unfold h39d
                          ((repeat' (refine List.forall_mem_cons.2 ⟨?_, ?_⟩; (intro _ h; revert h; simp))); exact fun _ h => (by cases h))
                      · exfalso
                        have hmt : m + 1 = D.length := by simp only [cA_lt, cA_num, decide_eq_false_iff_not] at g7; omega
                        rw [hLn] at hLl
                        simp only [List.length_nil] at hLl
                        omega
                    · unfold e39d h39d
                      ((conv => whnf); refine bm (fun g7 => ?_) (fun g7 => ?_))
                      · have hmt : m + 1 < D.length := by simp only [cA_lt, cA_num, decide_eq_true_eq] at g7; omega
                        have hm0 : m < D.length := by omega
                        repeat' first
                          | (exfalso; simp only [cA_add, cA_sub, cA_fits, cA_lt, cA_le, cA_eq, cA_notB, cA_andB, cA_num, cA_subN, cA_toN, cA_eqB, fitsK, ble_t, ble_f, flat2, flat4, Bool.not_eq_false', Bool.not_eq_true', Bool.and_eq_false_iff, Bool.and_eq_true, decide_eq_true_eq, decide_eq_false_iff_not, List.length_append, List.length_nil, List.length_cons, cA_ix] at g; omega)
                          | (((conv => whnf); refine bm (fun g => ?_) (fun g => ?_)))
                          | ((conv => whnf)
                             refine boL (getP D hm0 ?_) ?_
                             · simp [cfgS, std]; omega)
                          | ((conv => whnf)
                             refine boL (getP D hmt ?_) ?_
                             · simp [cfgS, std]; omega)
                        all_goals (conv => whnf)
                        rotate_left
                        · exfalso
                          have hf : (flat elS.fl L').length = L'.length * 4 := flat4 L'
                          simp only [cA_andB, hf] at g
                          revert g
                          simp
                          omega
                        refine ⟨D.length - 1 - (m + 1), by omega, ?_⟩
                        refine Into_mv (e0 := e39d (.slice (some ⟨1, 0, none⟩) (L'.length + 1) (L'.length + 1)) l.length c j D.length (x + 1)) (h0 := h39d l [(1, .cells true false 4 (flat elS.fl (L' ++ [(at2 D m, at2 D (m + 1))])))] D) (n0 := 5) 1 6 (by decide) (by decide) ⟨m + 1, x + 1, L' ++ [(at2 D m, at2 D (m + 1))], _, _, by rw [pcI_s, ← List.append_assoc, ← hL'], by omega, by omega, rfl, .inr ⟨by rw [List.length_append]; exact Nat.succ_pos _, by rw [List.length_append, List.length_singleton], rfl⟩, rfl, rfl, rfl⟩ ?_ ?_ ?_
                        · unfold e39d
                          ((repeat' (refine List.forall_mem_cons.2 ⟨⟨rfl, ?_⟩, ?_⟩; (first | exact scT_g rfl | exact ⟨by decide, rfl⟩ | exact ⟨by decide, fun h => (by cases h)⟩))); exact fun _ h => (by cases h))
                        · unfold h39d
                          ((repeat' (refine List.forall_mem_cons.2 ⟨⟨Nat.le_of_ble_eq_true rfl, _, rfl, ?_⟩, ?_⟩; (first | exact (ObjRen_j (flat_g elS _) (flat_growG L' (at2 D m, at2 D (m + 1)))) | exact ObjRen_g (flat_g _ _) | exact ObjRen_j rfl rfl))); exact fun _ h => (by cases h))
                        · unfold h39d
                          ((repeat' (refine List.forall_mem_cons.2 ⟨?_, ?_⟩; (intro _ h; revert h; simp))); exact fun _ h => (by cases h))
                      · have hmt : m + 1 = D.length := by simp only [cA_lt, cA_num, decide_eq_false_iff_not] at g7; omega
                        have hLo : L' = outS l (i + 1) := by rw [hos, ← hL0, hL', show D.length - 1 = m by omega]
                        repeat' first
                          | (exfalso; simp only [cA_add, cA_sub, cA_fits, cA_lt, cA_le, cA_eq, cA_notB, cA_andB, cA_num, cA_subN, cA_toN, cA_eqB, fitsK, ble_t, ble_f, flat2, flat4, Bool.not_eq_false', Bool.not_eq_true', Bool.and_eq_false_iff, Bool.and_eq_true, decide_eq_true_eq, decide_eq_false_iff_not, List.length_append, List.length_nil, List.length_cons, cA_ix] at g; omega)
                          | (((conv => whnf); refine bm (fun g => ?_) (fun g => ?_)))
                        all_goals (conv => whnf)
                        refine ⟨l.length - (i + 1), by omega, ?_⟩
                        refine Into_id (e0 := e39 (.slice (some ⟨1, 0, none⟩) L'.length L'.length) l.length c (j + 1)) (h0 := h39 l [(1, .cells true false 4 (flat elS.fl L'))]) (n0 := 2) ⟨i + 1, j + 1, L', _, _, by omega, by omega, rfl, hLo, .inr ⟨hLn, rfl, rfl⟩, rfl, rfl, rfl⟩ ?_ ?_ (by decide)
                        · unfold e39
                          ((repeat' (refine List.forall_mem_cons.2 ⟨⟨rfl, ?_⟩, ?_⟩; (first | exact scT_g rfl | exact ⟨by decide, rfl⟩ | exact ⟨by decide, fun h => (by cases h)⟩))); exact fun _ h => (by cases h))
                        · unfold h39
                          ((repeat' (refine List.forall_mem_cons.2 ⟨⟨Nat.le_of_ble_eq_true rfl, _, rfl, ?_⟩, ?_⟩; (first | exact ObjRen_g (flat_g _ _) | exact ObjRen_j rfl rfl))); exact fun _ h => (by cases h))
            · have hge : i = l.length := by simp only [cA_lt, cA_num, decide_eq_false_iff_not] at g4; omega
              subst hge
              exfalso
              have := outS_pos hr hpos (Nat.le_refl l.length)
              rw [← hL0, hL] at this
              simp only [List.length_nil] at this
              omega
          · unfold e39 h39
            ((conv => whnf); refine bm (fun g4 => ?_) (fun g4 => ?_))
            · have hlt : i < l.length := by simp only [cA_lt, cA_num, decide_eq_true_eq] at g4; omega
              repeat' first
                | (exfalso; simp only [cA_add, cA_sub, cA_fits, cA_lt, cA_le, cA_eq, cA_notB, cA_andB, cA_num, cA_subN, cA_toN, cA_eqB, fitsK, ble_t, ble_f, flat2, flat4, Bool.not_eq_false', Bool.not_eq_true', Bool.and_eq_false_iff, Bool.and_eq_true, decide_eq_true_eq, decide_eq_false_iff_not, List.length_append, List.length_nil, List.length_cons, cA_ix] at g; omega)
                | (((conv => whnf); refine bm (fun g => ?_) (fun g => ?_)))
                | ((conv => whnf)
                   refine boL (getS l hlt ?_) ?_
                   · simp [cfgS, std]; omega)
              all_goals (conv => whnf)
              have hsr := all_atS hr hlt
              have hsw := rightG_wide hsr
              refine ⟨fun n e h nx => ∃ (k : Nat) (x : Int) (st : List (Int × Int)), st = stpI l (atS l i) k ∧ x = k ∧ k ≤ l.length ∧ n = l.length - k ∧ e = e39b (.slice (some ⟨1, 0, none⟩) L.length L.length) l.length c j st.length x ∧ h = h39b l [(1, .cells true false 4 (flat elS.fl L))] (atS l i) st ∧ nx = 4, ⟨l.length, ?_⟩, ?_⟩
              · refine Into_mv (e0 := e39b (.slice (some ⟨1, 0, none⟩) L.length L.length) l.length c j 2 0) (h0 := h39b l [(1, .cells true false 4 (flat elS.fl L))] (atS l i) [(endsS (atS l i)).1, (endsS (atS l i)).2]) (n0 := 4) 3 5 (by decide) (by decide) ⟨0, 0, _, (stpI_0 l (atS l i)).symm, rfl, Nat.zero_le _, rfl, rfl, rfl, rfl⟩ ?_ ?_ ?_
                · unfold e39b
                  ((repeat' (refine List.forall_mem_cons.2 ⟨⟨rfl, ?_⟩, ?_⟩; (first | exact scT_g rfl | exact ⟨by decide, rfl⟩ | exact ⟨by decide, fun h => (by cases h)⟩))); exact fun _ h => (by cases h))
                · unfold h39b
                  ((repeat' (refine List.forall_mem_cons.2 ⟨⟨Nat.le_of_ble_eq_true rfl, _, rfl, ?_⟩, ?_⟩; (first | exact ObjRen_g (flat_g _ _) | exact ObjRen_j rfl rfl))); exact fun _ h => (by cases h))
                · unfold h39b
                  ((repeat' (refine List.forall_mem_cons.2 ⟨?_, ?_⟩; (intro _ h; revert h; simp))); exact fun _ h => (by cases h))
              · rintro n e h nx ⟨k, x, st, hst, hx, hk, rfl, rfl, rfl, rfl⟩
                have hsl := stpI_len l (atS l i) k
                rw [← hst] at hsl
                unfold e39b h39b
                ((conv => whnf); refine bm (fun g5 => ?_) (fun g5 => ?_))
                · have hlt2 : k < l.length := by simp only [cA_lt, cA_num, decide_eq_true_eq] at g5; omega
                  repeat' first
                    | (exfalso; simp only [cA_add, cA_sub, cA_fits, cA_lt, cA_le, cA_eq, cA_notB, cA_andB, cA_num, cA_subN, cA_toN, cA_eqB, fitsK, ble_t, ble_f, flat2, flat4, Bool.not_eq_false', Bool.not_eq_true', Bool.and_eq_false_iff, Bool.and_eq_true, decide_eq_true_eq, decide_eq_false_iff_not, List.length_append, List.length_nil, List.length_cons, cA_ix] at g; omega)
                    | (((conv => whnf); refine bm (fun g => ?_) (fun g => ?_)))
                    | ((conv => whnf)
                       refine boL (getS l hlt2 ?_) ?_
                       · simp [cfgS, std]; omega)
                  all_goals (conv => whnf)
                  have htr := all_atS hr hlt2
                  obtain ⟨hta, htb, -⟩ := right_two htr
                  refine ⟨fun n e h nx => ∃ (q : Nat) (y : Int) (sq : List (Int × Int)), sq = ([(atS l k).1, (atS l k).2].take q).foldl (stpA (atS l i)) st ∧ y = q ∧ q ≤ 2 ∧ sq.length ≤ st.length + q ∧ n = 2 - q ∧ e = e39c (.slice (some ⟨1, 0, none⟩) L.length L.length) l.length c j sq.length x y ∧ h = h39c l [(1, .cells true false 4 (flat elS.fl L))] (atS l i) sq [(atS l k).1, (atS l k).2] ∧ nx = 6, ⟨2, ?_⟩, ?_⟩
                  · refine Into_id (e0 := e39c (.slice (some ⟨1, 0, none⟩) L.length L.length) l.length c j st.length x 0) (h0 := h39c l [(1, .cells true false 4 (flat elS.fl L))] (atS l i) st [(atS l k).1, (atS l k).2]) (n0 := 6) ⟨0, 0, st, rfl, rfl, by decide, Nat.le_refl _, rfl, rfl, rfl, rfl⟩ ?_ ?_ (by decide)
                    · unfold e39c
                      ((repeat' (refine List.forall_mem_cons.2 ⟨⟨rfl, ?_⟩, ?_⟩; (first | exact scT_g rfl | exact ⟨by decide, rfl⟩ | exact ⟨by decide, fun h => (by cases h)⟩))); exact fun _ h => (by cases h))
                    · unfold h39c
                      ((repeat' (refine List.forall_mem_cons.2 ⟨⟨Nat.le_of_ble_eq_true rfl, _, rfl, ?_⟩, ?_⟩; (first | exact ObjRen_g (flat_g _ _) | exact ObjRen_j rfl rfl))); exact fun _ h => (by cases h))
                  · rintro n e h nx ⟨q, y, sq, hsq, hy, hq, hql, rfl, rfl, rfl, rfl⟩
                    have hpw : ∀ q, q < 2 → wide (at2 [(atS l k).1, (atS l k).2] q) = true := by
                      intro q hq
                      have : q = 0 ∨ q = 1 := by omega
                      rcases this with rfl | rfl
                      · rw [at2_p0]; exact rightS_wide hta
                      · rw [at2_p1]; exact rightS_wide htb
                    have hpl : [(atS l k).1, (atS l k).2].length = 2 := rfl
                    generalize hps : [(atS l k).1, (atS l k).2] = ps at hsq hpw hpl ⊢
                    unfold e39c h39c
                    ((conv => whnf); refine bm (fun g6 => ?_) (fun g6 => ?_))
                    · have hq2 : q < 2 := by simp only [cA_lt, decide_eq_true_eq] at g6; omega
                      have hqp : q < ps.length := by omega
                      have hw := hpw q hq2
                      have hfs := foldS (atS l i) st ps hqp
                      rw [← hsq] at hfs
                      repeat' first
                        | (exfalso; simp only [cA_add, cA_sub, cA_fits, cA_lt, cA_le, cA_eq, cA_notB, cA_andB, cA_num, cA_subN, cA_toN, cA_eqB, fitsK, ble_t, ble_f, flat2, flat4, Bool.not_eq_false', Bool.not_eq_true', Bool.and_eq_false_iff, Bool.and_eq_true, decide_eq_true_eq, decide_eq_false_iff_not, List.length_append, List.length_nil, List.length_cons, cA_ix] at g; omega)
                        | (((conv => whnf); refine bm (fun g => ?_) (fun g => ?_)))
                        | ((conv => whnf)
                           refine boL (getP ps hqp ?_) ?_
                           · simp [cfgS, std]; omega)
                      all_goals (conv => whnf)
                      all_goals first
                        | (exfalso
                           have hg : (wide (at2 ps q) && wideS (atS l i)) = false := by assumption
                           rw [hw, hsw] at hg
                           cases hg)
                        | (have hin : insS (at2 ps q) (atS l i) = true := by assumption
                           rw [stpA_yes hin] at hfs
                           refine ⟨2 - (q + 1), by omega, ?_⟩
                           refine Into_mv (e0 := e39c (.slice (some ⟨1, 0, none⟩) L.length L.length) l.length c j (sq.length + 1) x (y + 1)) (h0 := h39c l [(1, .cells true false 4 (flat elS.fl L))] (atS l i) (sq ++ [at2 ps q]) ps) (n0 := 6) 3 8 (by decide) (by decide) ⟨q + 1, y + 1, sq ++ [at2 ps q], hfs.symm, by omega, by omega, by rw [List.length_append, List.length_singleton]; omega, rfl, by rw [List.length_append, List.length_singleton]; rfl, rfl, rfl⟩ ?_ ?_ ?_
                           · unfold e39c
                             ((repeat' (refine List.forall_mem_cons.2 ⟨⟨rfl, ?_⟩, ?_⟩; (first | exact scT_g rfl | exact ⟨by decide, rfl⟩ | exact ⟨by decide, fun h => (by cases h)⟩))); exact fun _ h => (by cases h))
                           · unfold h39c
                             ((repeat' (refine List.forall_mem_cons.2 ⟨⟨Nat.le_of_ble_eq_true rfl, _, rfl, ?_⟩, ?_⟩; (first | exact (ObjRen_j (flat_g elP _) (flat_grow sq _)) | exact ObjRen_g (flat_g _ _) | exact ObjRen_j rfl rfl))); exact fun _ h => (by cases h))
                           · unfold h39c
                             ((repeat' (refine List.forall_mem_cons.2 ⟨?_, ?_⟩; (intro _ h; revert h; simp))); exact fun _ h => (by cases h)))
                        | (have hin : insS (at2 ps q) (atS l i) = false := by assumption
                           rw [stpA_no hin] at hfs
                           refine ⟨2 - (q + 1), by omega, ?_⟩
                           refine Into_id (e0 := e39c (.slice (some ⟨1, 0, none⟩) L.length L.length) l.length c j sq.length x (y + 1)) (h0 := h39c l [(1, .cells true false 4 (flat elS.fl L))] (atS l i) sq ps) (n0 := 6) ⟨q + 1, y + 1, sq, hfs.symm, by omega, by omega, by omega, rfl, rfl, rfl, rfl⟩ ?_ ?_ (by decide)
                           · unfold e39c
                             ((repeat' (refine List.forall_mem_cons.2 ⟨⟨rfl, ?_⟩, ?_⟩; (first | exact scT_g rfl | exact ⟨by decide, rfl⟩ | exact ⟨by decide, fun h => (by cases h)⟩))); exact fun _ h => (by cases h))
                           · unfold h39c
                             ((repeat' (refine List.forall_mem_cons.2 ⟨⟨Nat.le_of_ble_eq_true rfl, _, rfl, ?_⟩, ?_⟩; (first | exact ObjRen_g (flat_g _ _) | exact ObjRen_j rfl rfl))); exact fun _ h => (by cases h)))
                        | (exfalso
                           have hf : (flat elP.fl sq).length = sq.length * 2 := flat2 sq
                           simp only [cA_andB, hf] at g
                           revert g
                           simp
                           omega)
                        | trace_state
                    · have hq2 : q = 2 := by simp only [cA_lt, decide_eq_false_iff_not] at g6; omega
                      subst hq2
                      have hsk : sq = stpI l (atS l i) (k + 1) := by
                        have e1 : ps.take 2 = ps := List.take_of_length_le (by omega)
                        rw [hsq, e1, ← hps, stpI_s, ← hst]
                        rfl
                      repeat' first
                        | (exfalso; simp only [cA_add, cA_sub, cA_fits, cA_lt, cA_le, cA_eq, cA_notB, cA_andB, cA_num, cA_subN, cA_toN, cA_eqB, fitsK, ble_t, ble_f, flat2, flat4, Bool.not_eq_false', Bool.not_eq_true', Bool.and_eq_false_iff, Bool.and_eq_true, decide_eq_true_eq, decide_eq_false_iff_not, List.length_append, List.length_nil, List.length_cons, cA_ix] at g; omega)
                        | (((conv => whnf); refine bm (fun g => ?_) (fun g => ?_)))
                      all_goals (conv => whnf)
                      refine ⟨l.length - (k + 1), by omega, ?_⟩
                      refine Into_id (e0 := e39b (.slice (some ⟨1, 0, none⟩) L.length L.length) l.length c j sq.length (x + 1)) (h0 := h39b l [(1, .cells true false 4 (flat elS.fl L))] (atS l i) sq) (n0 := 4) ⟨k + 1, x + 1, sq, hsk, by omega, by omega, rfl, rfl, rfl, rfl⟩ ?_ ?_ (by decide)
                      · unfold e39b
                        ((repeat' (refine List.forall_mem_cons.2 ⟨⟨rfl, ?_⟩, ?_⟩; (first | exact scT_g rfl | exact ⟨by decide, rfl⟩ | exact ⟨by decide, fun h => (by cases h)⟩))); exact fun _ h => (by cases h))
                      · unfold h39b
                        ((repeat' (refine List.forall_mem_cons.2 ⟨⟨Nat.le_of_ble_eq_true rfl, _, rfl, ?_⟩, ?_⟩; (first | exact ObjRen_g (flat_g _ _) | exact ObjRen_j rfl rfl))); exact fun _ h => (by cases h))
                · have hge : k = l.length := by simp only [cA_lt, cA_num, decide_eq_false_iff_not] at g5; omega
                  subst hge
                  have hDe := stD_def l (atS l i)
                  rw [← hst] at hDe
                  (conv => whnf)
                  refine ⟨st, rfl, rfl, by omega, by omega, ?_⟩
                  (conv => whnf)
                  refine ⟨sortI st, by rw [sortI_len], by rw [sortI_len], rfl, rfl, by rw [sortI_len]; omega, by rw [sortI_len]; omega, ?_⟩
                  rw [hDe]
                  have hD2 := stD_two hr hlt
                  have hD9 := stD_len l (atS l i)
                  have hos := outS_s l i
                  clear hDe hst hsl
                  generalize stD l (atS l i) = D at hD2 hD9 hos ⊢
                  (conv => whnf)
                  refine ⟨fun n e h nx => ∃ (m : Nat) (x : Int) (L' : List Sg) (O' : Value) (F' : Heap), L' = L ++ pcI D m ∧ x = (m : Int) + 1 ∧ m + 1 ≤ D.length ∧ n = D.length - 1 - m ∧ OF L' O' F' ∧ e = e39d O' l.length c j D.length x ∧ h = h39d l F' D ∧ nx = 5, ⟨D.length - 1, ?_⟩, ?_⟩
                  · refine Into_id (e0 := e39d (.slice (some ⟨1, 0, none⟩) L.length L.length) l.length c j D.length 1) (h0 := h39d l [(1, .cells true false 4 (flat elS.fl L))] D) (n0 := 5) ⟨0, 1, L, _, _, by rw [pcI_0, List.append_nil], rfl, by omega, rfl, .inr ⟨hL, rfl, rfl⟩, rfl, rfl, rfl⟩ ?_ ?_ (by decide)
                    · unfold e39d
                      ((repeat' (refine List.forall_mem_cons.2 ⟨⟨rfl, ?_⟩, ?_⟩; (first | exact scT_g rfl | exact ⟨by decide, rfl⟩ | exact ⟨by decide, fun h => (by cases h)⟩))); exact fun _ h => (by cases h))
                    · unfold h39d
                      ((repeat' (refine List.forall_mem_cons.2 ⟨⟨Nat.le_of_ble_eq_true rfl, _, rfl, ?_⟩, ?_⟩; (first | exact ObjRen_g (flat_g _ _) | exact ObjRen_j rfl rfl))); exact fun _ h => (by cases h))
                  · rintro n e h nx ⟨m, x, L', O', F', hL', hx, hm, rfl, hO', rfl, rfl, rfl⟩
                    have hLl : L'.length = L.length + m := by rw [hL', List.length_append, pcI_len]
                    rcases hO' with ⟨hLn, rfl, rfl⟩ | ⟨hLn, rfl, rfl⟩
                    · unfold e39d h39d
                      ((conv => whnf); refine bm (fun g7 => ?_) (fun g7 => ?_))
                      · have hmt : m + 1 < D.length := by simp only [cA_lt, cA_num, decide_eq_true_eq] at g7; omega
                        have hm0 : m < D.length := by omega
                        repeat' first
                          | (exfalso; simp only [cA_add, cA_sub, cA_fits, cA_lt, cA_le, cA_eq, cA_notB, cA_andB, cA_num, cA_subN, cA_toN, cA_eqB, fitsK, ble_t, ble_f, flat2, flat4, Bool.not_eq_false', Bool.not_eq_true', Bool.and_eq_false_iff, Bool.and_eq_true, decide_eq_true_eq, decide_eq_false_iff_not, List.length_append, List.length_nil, List.length_cons, cA_ix] at g; omega)
                          | (((conv => whnf); refine bm (fun g => ?_) (fun g => ?_)))
                          | ((conv => whnf)
                             refine boL (getP D hm0 ?_) ?_
                             · simp [cfgS, std]; omega)
                          | ((conv => whnf)
                             refine boL (getP D hmt ?_) ?_
                             · simp [cfgS, std]; omega)
                        all_goals (conv => whnf)
                        subst hLn
                        refine ⟨D.length - 1 - (m + 1), by omega, ?_⟩
                        refine Into_mv (e0 := e39d (.slice (some ⟨1, 0, none⟩) 1 1) l.length c j D.length (x + 1)) (h0 := h39d l [(1, .cells true false 4 (flat elS.fl [(at2 D m, at2 D (m + 1))]))] D) (n0 := 5) 1 6 (by decide) (by decide) ⟨m + 1, x + 1, [(at2 D m, at2 D (m + 1))], _, _, by rw [pcI_s, ← List.append_assoc, ← hL']; rfl, by omega, by omega, rfl, .inr ⟨Nat.one_pos, rfl, rfl⟩, rfl, rfl, rfl⟩ ?_ ?_ ?_
                        · unfold e39d
                          ((repeat' (refine List.forall_mem_cons.2 ⟨⟨rfl, ?_⟩, ?_⟩; (first | exact scT_g rfl | exact ⟨by decide, rfl⟩ | exact ⟨by decide, fun h => (by cases h)⟩))); exact fun _ h => (by cases h))
                        · unfold h39d
                          ((repeat' (refine List.forall_mem_cons.2 ⟨⟨Nat.le_of_ble_eq_true rfl, _, rfl, ?_⟩, ?_⟩; (first | exact ObjRen_g (flat_g _ _) | exact ObjRen_j rfl rfl))); exact fun _ h => (by cases h))
                        · unfold h39d
                          ((repeat' (refine List.forall_mem_cons.2 ⟨?_, ?_⟩; (intro _ h; revert h; simp))); exact fun _ h => (by cases h))
                      · exfalso
                        have hmt : m + 1 = D.length := by simp only [cA_lt, cA_num, decide_eq_false_iff_not] at g7; omega
                        rw [hLn] at hLl
                        simp only [List.length_nil] at hLl
                        omega
                    · unfold e39d h39d
                      ((conv => whnf); refine bm (fun g7 => ?_) (fun g7 => ?_))
                      · have hmt : m + 1 < D.length := by simp only [cA_lt, cA_num, decide_eq_true_eq] at g7; omega
                        have hm0 : m < D.length := by omega
                        repeat' first
                          | (exfalso; simp only [cA_add, cA_sub, cA_fits, cA_lt, cA_le, cA_eq, cA_notB, cA_andB, cA_num, cA_subN, cA_toN, cA_eqB, fitsK, ble_t, ble_f, flat2, flat4, Bool.not_eq_false', Bool.not_eq_true', Bool.and_eq_false_iff, Bool.and_eq_true, decide_eq_true_eq, decide_eq_false_iff_not, List.length_append, List.length_nil, List.length_cons, cA_ix] at g; omega)
                          | (((conv => whnf); refine bm (fun g => ?_) (fun g => ?_)))
                          | ((conv => whnf)
                             refine boL (getP D hm0 ?_) ?_
                             · simp [cfgS, std]; omega)
                          | ((conv => whnf)
                             refine boL (getP D hmt ?_) ?_
                             · simp [cfgS, std]; omega)
                        all_goals (conv => whnf)
                        rotate_left
                        · exfalso
                          have hf : (flat elS.fl L').length = L'.length * 4 := flat4 L'
                          simp only [cA_andB, hf] at g
                          revert g
                          simp
                          omega
                        refine ⟨D.length - 1 - (m + 1), by omega, ?_⟩
                        refine Into_mv (e0 := e39d (.slice (some ⟨1, 0, none⟩) (L'.length + 1) (L'.length + 1)) l.length c j D.length (x + 1)) (h0 := h39d l [(1, .cells true false 4 (flat elS.fl (L' ++ [(at2 D m, at2 D (m + 1))])))] D) (n0 := 5) 1 6 (by decide) (by decide) ⟨m + 1, x + 1, L' ++ [(at2 D m, at2 D (m + 1))], _, _, by rw [pcI_s, ← List.append_assoc, ← hL'], by omega, by omega, rfl, .inr ⟨by rw [List.length_append]; exact Nat.succ_pos _, by rw [List.length_append, List.length_singleton], rfl⟩, rfl, rfl, rfl⟩ ?_ ?_ ?_
                        · unfold e39d
                          ((repeat' (refine List.forall_mem_cons.2 ⟨⟨rfl, ?_⟩, ?_⟩; (first | exact scT_g rfl | exact ⟨by decide, rfl⟩ | exact ⟨by decide, fun h => (by cases h)⟩))); exact fun _ h => (by cases h))
                        · unfold h39d
                          ((repeat' (refine List.forall_mem_cons.2 ⟨⟨Nat.le_of_ble_eq_true rfl, _, rfl, ?_⟩, ?_⟩; (first | exact (ObjRen_j (flat_g elS _) (flat_growG L' (at2 D m, at2 D (m + 1)))) | exact ObjRen_g (flat_g _ _) | exact ObjRen_j rfl rfl))); exact fun _ h => (by cases h))
                        · unfold h39d
                          ((repeat' (refine List.forall_mem_cons.2 ⟨?_, ?_⟩; (intro _ h; revert h; simp))); exact fun _ h => (by cases h))
                      · have hmt : m + 1 = D.length := by simp only [cA_lt, cA_num, decide_eq_false_iff_not] at g7; omega
                        have hLo : L' = outS l (i + 1) := by rw [hos, ← hL0, hL', show D.length - 1 = m by omega]
                        repeat' first
                          | (exfalso; simp only [cA_add, cA_sub, cA_fits, cA_lt, cA_le, cA_eq, cA_notB, cA_andB, cA_num, cA_subN, cA_toN, cA_eqB, fitsK, ble_t, ble_f, flat2, flat4, Bool.not_eq_false', Bool.not_eq_true', Bool.and_eq_false_iff, Bool.and_eq_true, decide_eq_true_eq, decide_eq_false_iff_not, List.length_append, List.length_nil, List.length_cons, cA_ix] at g; omega)
                          | (((conv => whnf); refine bm (fun g => ?_) (fun g => ?_)))
                        all_goals (conv => whnf)
                        refine ⟨l.length - (i + 1), by omega, ?_⟩
                        refine Into_id (e0 := e39 (.slice (some ⟨1, 0, none⟩) L'.length L'.length) l.length c (j + 1)) (h0 := h39 l [(1, .cells true false 4 (flat elS.fl L'))]) (n0 := 2) ⟨i + 1, j + 1, L', _, _, by omega, by omega, rfl, hLo, .inr ⟨hLn, rfl, rfl⟩, rfl, rfl, rfl⟩ ?_ ?_ (by decide)
                        · unfold e39
                          ((repeat' (refine List.forall_mem_cons.2 ⟨⟨rfl, ?_⟩, ?_⟩; (first | exact scT_g rfl | exact ⟨by decide, rfl⟩ | exact ⟨by decide, fun h => (by cases h)⟩))); exact fun _ h => (by cases h))
                        · unfold h39
                          ((repeat' (refine List.forall_mem_cons.2 ⟨⟨Nat.le_of_ble_eq_true rfl, _, rfl, ?_⟩, ?_⟩; (first | exact ObjRen_g (flat_g _ _) | exact ObjRen_j rfl rfl))); exact fun _ h => (by cases h))
            · have hge : i = l.length := by simp only [cA_lt, cA_num, decide_eq_false_iff_not] at g4; omega
              subst hge
              have hb := outS_len l l.length
              have hb2 : l.length * (1 + 2 * l.length) ≤ 400 * 801 := Nat.mul_le_mul h400 (by omega)
              rw [← hL0] at hb ⊢
              (conv => whnf)
              refine ⟨L, rfl, rfl, by omega, by omega, ?_⟩
              (conv => whnf)
              refine ⟨sortG L, by rw [sortG_len], by rw [sortG_len], rfl, rfl, by rw [sortG_len]; omega, by rw [sortG_len]; omega, ?_⟩
              rw [dedG_def L]
              have hdp := dedG_pos hL
              (conv => whnf)
              exact Yields_own (l := dedG L) (e := some 0) (q := 2) (nx := 0) elS hdp rfl
  · exfalso
    have hg : decide (l.length ≤ 1000000000) = false := g1
    rw [decide_eq_false_iff_not] at hg
    omega
end Go.Aw
