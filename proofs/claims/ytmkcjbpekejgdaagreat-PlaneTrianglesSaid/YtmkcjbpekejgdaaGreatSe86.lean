/-
  Triangles: the reference's. No condition.
-/
import Derived.Test.YtmkcjbpekejgdaaGreatSe85
set_option linter.unusedSimpArgs false
set_option linter.unusedVariables false
noncomputable section
namespace Go.Aw
set_option maxRecDepth 100000
def eR (n : Nat) (v : Value) : List (Nat × Value) := [(4, .slice (some ⟨1, 0, none⟩) n n), (6, v)]
def eRi (n : Nat) (v : Value) (a i : Int) : List (Nat × Value) := [(4, .slice (some ⟨1, 0, none⟩) n n), (6, v), (7, iv n), (8, iv a), (9, iv i)]
def hR (l rest : List (Int × Int)) : Heap := [(0, .cells false true 2 (flat elP.fl l)), (1, .cells true false 2 (flat elP.fl rest))]
def hRo (l rest : List (Int × Int)) (out : List Tg) : Heap := [(0, .cells false true 2 (flat elP.fl l)), (1, .cells true false 2 (flat elP.fl rest)), (2, .cells true false 6 (flat elT.fl out))]
def sT (n : Nat) : Value := .slice (some ⟨2, 0, none⟩) n n
attribute [local irreducible] earB fE triN triL norO polyE norR delI triE prv nxt at2 in
theorem d26 : XOK Go.Proofs.Tryz.prog 26 (rfX elP elT S51) := rfX_ok elP elT (s := S51) (f := 26) (body_calls (xl := [(23, rfX elP elP S50), D68]) (.cons x50 (.cons d68 .nil))) fun l r out e hs => by
  obtain ⟨rfl, hlen, rfl, rfl⟩ := S51_inv hs
  refine ⟨rfl, fun c => ?_⟩
  clear hs
  (conv => whnf)
  refine ⟨l, LsAt_own elP rfl, ?_⟩
  ((conv => whnf); refine bm (fun h1 => ?_) (fun h1 => ?_))
  · by_cases hz : polyE l = 0
    · obtain ⟨hg, hsim⟩ := polyE_ok hz
      have h3 := norR_three hg hsim
      have hr := norR_right hg
      have hl : (norR l).length ≤ 200 := Nat.le_trans (norR_len l) hg.2.1
      rw [show triO l = triN (norR l) by unfold triO; rw [if_pos hz], show norO l = norR l by unfold norO; rw [if_pos hz], hz]
      generalize norR l = N at h3 hr hl ⊢
      refine outK_own elP (show 0 < N.length by omega) ?_
      (conv => whnf)
      refine ⟨fun n e h nx => ∃ (rest : List (Int × Int)) (out : List Tg), n = rest.length ∧ 3 ≤ rest.length ∧ rest.length + out.length ≤ 200 ∧ rest.all rightS = true ∧ triL rest.length rest out = triN N ∧
        ((out = [] ∧ e = eR rest.length (.slice none 0 0) ∧ h = hR l rest ∧ nx = 2) ∨ (0 < out.length ∧ e = eR rest.length (sT out.length) ∧ h = hRo l rest out ∧ nx = 3)), ⟨N.length, ?_⟩, ?_⟩
      · refine Into_id (e0 := eR N.length (.slice none 0 0)) (h0 := hR l N) (n0 := 2) ⟨N, [], rfl, h3, hl, hr, by unfold triN; rfl, .inl ⟨rfl, rfl, rfl, rfl⟩⟩ ?_ ?_ (by decide)
        · unfold eR
          ((repeat' (refine List.forall_mem_cons.2 ⟨⟨rfl, ?_⟩, ?_⟩; (first | exact scT_g rfl | exact ⟨by decide, rfl⟩ | exact ⟨by decide, fun h => (by cases h)⟩))); exact fun _ h => (by cases h))
        · unfold hR
          ((repeat' (refine List.forall_mem_cons.2 ⟨⟨Nat.le_of_ble_eq_true rfl, _, rfl, ?_⟩, ?_⟩; (first | exact ObjRen_g (flat_g _ _) | exact ObjRen_j rfl rfl))); exact fun _ h => (by cases h))
      · clear hr hl h3 hg hsim hz h1
        rintro n e h nx ⟨rest, out, rfl, h3, hlo, hr, hT, ⟨ho, rfl, rfl, rfl⟩ | ⟨ho, rfl, rfl, rfl⟩⟩
        · subst ho
          unfold eR hR
          ((conv => whnf); refine bm (fun g1 => ?_) (fun g1 => ?_))
          · have h4 : 3 < rest.length := by simp only [cA_lt, cA_num, decide_eq_true_eq] at g1; omega
            ((conv => whnf); refine bm (fun g2 => ?_) (fun g2 => ?_))
            · (conv => whnf)
              refine ⟨fun m e h nx => ∃ (k : Nat) (i a : Int), i = (rest.length : Int) - 1 - k ∧ k ≤ rest.length ∧ m = rest.length - k ∧ a = fE rest k ∧ e = eRi rest.length (.slice none 0 0) a i ∧ h = hR l rest ∧ nx = 2, ⟨rest.length, ?_⟩, ?_⟩
              · refine Into_id (e0 := eRi rest.length (.slice none 0 0) (-1) ((rest.length : Int) - 1)) (h0 := hR l rest) (n0 := 2) ⟨0, (rest.length : Int) - 1, -1, by omega, Nat.zero_le _, rfl, by unfold fE; rfl, rfl, rfl, rfl⟩ ?_ ?_ (by decide)
                · unfold eRi
                  ((repeat' (refine List.forall_mem_cons.2 ⟨⟨rfl, ?_⟩, ?_⟩; (first | exact scT_g rfl | exact ⟨by decide, rfl⟩ | exact ⟨by decide, fun h => (by cases h)⟩))); exact fun _ h => (by cases h))
                · unfold hR
                  ((repeat' (refine List.forall_mem_cons.2 ⟨⟨Nat.le_of_ble_eq_true rfl, _, rfl, ?_⟩, ?_⟩; (first | exact ObjRen_g (flat_g _ _) | exact ObjRen_j rfl rfl))); exact fun _ h => (by cases h))
              · rintro m e h nx ⟨k, i, a, hi, hk, rfl, ha, rfl, rfl, rfl⟩
                have hab := fE_B rest (by omega) k
                rw [← ha] at hab
                unfold eRi hR
                ((conv => whnf); refine bm (fun g3 => ?_) (fun g3 => ?_))
                · have hkl : k < rest.length := by simp only [cA_le, decide_eq_true_eq] at g3; omega
                  have hin : i = ((rest.length - 1 - k : Nat) : Int) := by omega
                  (conv => whnf)
                  refine ⟨rest, LsAt_n elP rfl rfl, ?_⟩
                  ((conv => whnf); refine bm (fun g4 => ?_) (fun g4 => ?_))
                  · ((conv => whnf); refine bm (fun g5 => ?_) (fun g5 => ?_))
                    · ((conv => whnf); refine bm (fun g6 => ?_) (fun g6 => ?_))
                      · (conv => whnf)
                        have hge : earB rest (rest.length - 1 - k) = true := by
                          have hg : earB rest i.toNat = true := g5
                          rwa [show i.toNat = rest.length - 1 - k by omega] at hg
                        refine ⟨rest.length - (k + 1), by omega, ?_⟩
                        refine Into_id (e0 := eRi rest.length (.slice none 0 0) i (i - 1)) (h0 := hR l rest) (n0 := 2) ⟨k + 1, i - 1, i, by omega, hkl, rfl, by rw [fE_yes hge]; exact hin, rfl, rfl, rfl⟩ ?_ ?_ (by decide)
                        · unfold eRi
                          ((repeat' (refine List.forall_mem_cons.2 ⟨⟨rfl, ?_⟩, ?_⟩; (first | exact scT_g rfl | exact ⟨by decide, rfl⟩ | exact ⟨by decide, fun h => (by cases h)⟩))); exact fun _ h => (by cases h))
                        · unfold hR
                          ((repeat' (refine List.forall_mem_cons.2 ⟨⟨Nat.le_of_ble_eq_true rfl, _, rfl, ?_⟩, ?_⟩; (first | exact ObjRen_g (flat_g _ _) | exact ObjRen_j rfl rfl))); exact fun _ h => (by cases h))
                      · exfalso; simp only [cA_sub, cA_fits, fitsK, Bool.and_eq_false_iff, decide_eq_false_iff_not] at g6; omega
                    · ((conv => whnf); refine bm (fun g6 => ?_) (fun g6 => ?_))
                      · (conv => whnf)
                        have hge : ¬ earB rest (rest.length - 1 - k) = true := by
                          have hg : earB rest i.toNat = false := g5
                          rw [show i.toNat = rest.length - 1 - k by omega] at hg
                          rw [hg]; decide
                        refine ⟨rest.length - (k + 1), by omega, ?_⟩
                        refine Into_id (e0 := eRi rest.length (.slice none 0 0) a (i - 1)) (h0 := hR l rest) (n0 := 2) ⟨k + 1, i - 1, a, by omega, hkl, rfl, by rw [fE_not hge]; exact ha, rfl, rfl, rfl⟩ ?_ ?_ (by decide)
                        · unfold eRi
                          ((repeat' (refine List.forall_mem_cons.2 ⟨⟨rfl, ?_⟩, ?_⟩; (first | exact scT_g rfl | exact ⟨by decide, rfl⟩ | exact ⟨by decide, fun h => (by cases h)⟩))); exact fun _ h => (by cases h))
                        · unfold hR
                          ((repeat' (refine List.forall_mem_cons.2 ⟨⟨Nat.le_of_ble_eq_true rfl, _, rfl, ?_⟩, ?_⟩; (first | exact ObjRen_g (flat_g _ _) | exact ObjRen_j rfl rfl))); exact fun _ h => (by cases h))
                      · exfalso; simp only [cA_sub, cA_fits, fitsK, Bool.and_eq_false_iff, decide_eq_false_iff_not] at g6; omega
                  · exfalso
                    have hg : (decide (0 ≤ i) && decide (i < rest.length) && decide (rest.length ≤ 1000000) && rest.all rightS) = false := g4
                    rw [hr, decide_eq_true (by omega), decide_eq_true (by omega), decide_eq_true (by omega)] at hg
                    cases hg
                · have hkl : k = rest.length := by simp only [cA_le, decide_eq_false_iff_not] at g3; omega
                  subst hkl
                  clear g3 hk hi
                  ((conv => whnf); refine bm (fun g5 => ?_) (fun g5 => ?_))
                  · have hs : fE rest rest.length < 0 := by
                      rw [← ha]
                      simpa only [cA_lt, decide_eq_true_eq] using g5
                    (conv => whnf)
                    rw [triL_stop h4 rfl hs] at hT
                    rw [← hT]
                    rfl
                  · have ha0 : 0 ≤ a := by simp only [cA_lt, decide_eq_false_iff_not] at g5; omega
                    obtain ⟨q, rfl⟩ : ∃ q : Nat, a = q := ⟨a.toNat, by omega⟩
                    rw [triL_step h4 rfl ha.symm] at hT
                    have hq : q < rest.length := by omega
                    have hn : (q + 1) % rest.length < rest.length := Nat.mod_lt _ (by omega)
                    have hp : (q + rest.length - 1) % rest.length < rest.length := Nat.mod_lt _ (by omega)
                    obtain ⟨j, hj⟩ : ∃ j : Int, j = q := ⟨_, rfl⟩
                    have tn : (j + 1).tmod (rest.length : Int) = ((q + 1) % rest.length : Nat) := by rw [hj]; exact tmod_nat
                    have tp : (j + (rest.length : Int) - 1).tmod (rest.length : Int) = ((q + rest.length - 1) % rest.length : Nat) := by rw [hj]; exact tmod_prev (by omega)
                    have ep : at2 rest ((q + rest.length - 1) % rest.length) = prv rest q := by unfold prv; rfl
                    have en : at2 rest ((q + 1) % rest.length) = nxt rest q := by unfold nxt; rfl
                    rw [← hj] at g5 ⊢
                    rcases (show q = 0 ∨ (0 < q ∧ q + 1 < rest.length) ∨ (0 < q ∧ q + 1 = rest.length) by omega) with c1 | c1 | c1
                    all_goals repeat' first
                      | (exfalso
                         simp only [cA_add, cA_sub, cA_rem, cA_fits, cA_lt, cA_le, cA_eq, cA_notB, cA_andB, cA_num, cA_subN, cA_toN, fitsK, ble_t, ble_f, beq_t, beq_f, flat2, flatT, tn, tp, Bool.not_eq_false', Bool.not_eq_true', Bool.and_eq_false_iff, Bool.and_eq_true, decide_eq_true_eq, decide_eq_false_iff_not, List.length_append, List.length_take, List.length_drop, List.length_nil, List.length_cons, Array.toList, Value.cells, cA_ix, rep_len, putN] at g
                         omega)
                      | (((conv => whnf); refine bm (fun g => ?_) (fun g => ?_)))
                      | ((conv => whnf)
                         refine boL (getP rest hq ?_) ?_
                         · simp [cfgS, std]; omega)
                      | ((conv => whnf)
                         refine boL (getP rest hn ?_) ?_
                         · show 0 + ((j + 1).tmod (rest.length : Int)).toNat * 2 = _
                           rw [tn, Int.toNat_natCast, Nat.zero_add])
                      | ((conv => whnf)
                         refine boL (getP rest hp ?_) ?_
                         · show 0 + ((j + (rest.length : Int) - 1).tmod (rest.length : Int)).toNat * 2 = _
                           rw [tp, Int.toNat_natCast, Nat.zero_add])
                    all_goals (conv => whnf)
                    all_goals
                      (have hdl := delI_len hq
                       have hrl : (([] : List Tg) ++ [triE rest q]).length = 1 := by simp)
                    · have hX : 0 + cfgS.A.toN j + cfgS.A.subN rest.length (cfgS.A.toN (cfgS.A.add j 1)) = (delI rest q).length := by
                        simp only [cA_toN, cA_subN, cA_add]
                        omega
                      rw [hX]
                      refine ⟨(delI rest q).length, by omega, ?_⟩
                      refine Into_mv2 (e0 := eR (delI rest q).length (sT (1))) (o0 := .cells false true 2 (flat elP.fl l)) (o1 := .cells true false 2 (flat elP.fl (delI rest q))) (o2 := .cells true false 6 (flat elT.fl (([] : List Tg) ++ [triE rest q]))) (n0 := 3) 5 3 (by decide) (by decide)
                        ⟨delI rest q, ([] : List Tg) ++ [triE rest q], rfl, by omega, by rw [hrl]; simp only [List.length_nil] at hlo; omega, delI_right hr q, by rw [hdl]; exact hT, .inr ⟨by rw [hrl]; exact Nat.succ_pos _, by rw [hrl]; rfl, rfl, rfl⟩⟩ ?_ ?_
                      · unfold eR sT
                        ((repeat' (refine List.forall_mem_cons.2 ⟨⟨rfl, ?_⟩, ?_⟩; (first | exact scT_g rfl | exact ⟨by decide, rfl⟩ | exact ⟨by decide, fun h => (by cases h)⟩))); exact fun _ h => (by cases h))
                      · refine List.forall_mem_cons.2 ⟨⟨Nat.le_of_ble_eq_true rfl, _, rfl, ObjRen_g (flat_g _ _)⟩, List.forall_mem_cons.2 ⟨⟨Nat.le_of_ble_eq_true rfl, _, rfl, ObjRen_j (flat_g elP _) (delA c1 ?_ ?_ ?_)⟩, List.forall_mem_cons.2 ⟨⟨Nat.le_of_ble_eq_true rfl, _, rfl, ObjRen_j (flat_g elT _) ?_⟩, fun _ h => (by cases h)⟩⟩⟩
                        · simp only [cA_toN, cA_subN, cA_add, cA_ix, ← hX]; omega
                        · simp only [cA_toN, cA_subN, cA_add, cA_ix]; omega
                        · simp only [cA_toN, cA_subN, cA_add, cA_ix]; omega
                        · show _ = elT.fl (triE rest q) ++ []; unfold triE; rw [← ep, ← en]; rfl
                    · have hX : 0 + cfgS.A.toN j + cfgS.A.subN rest.length (cfgS.A.toN (cfgS.A.add j 1)) = (delI rest q).length := by
                        simp only [cA_toN, cA_subN, cA_add]
                        omega
                      rw [hX]
                      refine ⟨(delI rest q).length, by omega, ?_⟩
                      refine Into_mv2 (e0 := eR (delI rest q).length (sT (1))) (o0 := .cells false true 2 (flat elP.fl l)) (o1 := .cells true false 2 (flat elP.fl (delI rest q))) (o2 := .cells true false 6 (flat elT.fl (([] : List Tg) ++ [triE rest q]))) (n0 := 3) 6 3 (by decide) (by decide)
                        ⟨delI rest q, ([] : List Tg) ++ [triE rest q], rfl, by omega, by rw [hrl]; simp only [List.length_nil] at hlo; omega, delI_right hr q, by rw [hdl]; exact hT, .inr ⟨by rw [hrl]; exact Nat.succ_pos _, by rw [hrl]; rfl, rfl, rfl⟩⟩ ?_ ?_
                      · unfold eR sT
                        ((repeat' (refine List.forall_mem_cons.2 ⟨⟨rfl, ?_⟩, ?_⟩; (first | exact scT_g rfl | exact ⟨by decide, rfl⟩ | exact ⟨by decide, fun h => (by cases h)⟩))); exact fun _ h => (by cases h))
                      · refine List.forall_mem_cons.2 ⟨⟨Nat.le_of_ble_eq_true rfl, _, rfl, ObjRen_g (flat_g _ _)⟩, List.forall_mem_cons.2 ⟨⟨Nat.le_of_ble_eq_true rfl, _, rfl, ObjRen_j (flat_g elP _) (delB hq ?_ ?_ ?_ ?_ ?_ ?_ ?_)⟩, List.forall_mem_cons.2 ⟨⟨Nat.le_of_ble_eq_true rfl, _, rfl, ObjRen_j (flat_g elT _) ?_⟩, fun _ h => (by cases h)⟩⟩⟩
                        · simp only [cA_toN, cA_subN, cA_add, cA_ix]; omega
                        · simp only [cA_toN, cA_subN, cA_add, cA_ix]; omega
                        · simp only [cA_toN, cA_subN, cA_add, cA_ix]
                        · rfl
                        · rfl
                        · simp only [cA_toN, cA_subN, cA_add, cA_ix]; omega
                        · simp only [cA_toN, cA_subN, cA_add, cA_ix]; omega
                        · show _ = elT.fl (triE rest q) ++ []; unfold triE; rw [← ep, ← en]; rfl
                    · have hX1 : 0 + cfgS.A.toN j + 0 = (delI rest q).length := by
                        simp only [cA_toN]
                        omega
                      have hX2 : 0 + cfgS.A.toN j = (delI rest q).length := by
                        simp only [cA_toN]
                        omega
                      rw [hX1, hX2]
                      refine ⟨(delI rest q).length, by omega, ?_⟩
                      refine Into_mv2 (e0 := eR (delI rest q).length (sT (1))) (o0 := .cells false true 2 (flat elP.fl l)) (o1 := .cells true false 2 (flat elP.fl (delI rest q))) (o2 := .cells true false 6 (flat elT.fl (([] : List Tg) ++ [triE rest q]))) (n0 := 3) 6 3 (by decide) (by decide)
                        ⟨delI rest q, ([] : List Tg) ++ [triE rest q], rfl, by omega, by rw [hrl]; simp only [List.length_nil] at hlo; omega, delI_right hr q, by rw [hdl]; exact hT, .inr ⟨by rw [hrl]; exact Nat.succ_pos _, by rw [hrl]; rfl, rfl, rfl⟩⟩ ?_ ?_
                      · unfold eR sT
                        ((repeat' (refine List.forall_mem_cons.2 ⟨⟨rfl, ?_⟩, ?_⟩; (first | exact scT_g rfl | exact ⟨by decide, rfl⟩ | exact ⟨by decide, fun h => (by cases h)⟩))); exact fun _ h => (by cases h))
                      · refine List.forall_mem_cons.2 ⟨⟨Nat.le_of_ble_eq_true rfl, _, rfl, ObjRen_g (flat_g _ _)⟩, List.forall_mem_cons.2 ⟨⟨Nat.le_of_ble_eq_true rfl, _, rfl, ObjRen_j (flat_g elP _) (delC c1.2 ?_ ?_ ?_ ?_)⟩, List.forall_mem_cons.2 ⟨⟨Nat.le_of_ble_eq_true rfl, _, rfl, ObjRen_j (flat_g elT _) ?_⟩, fun _ h => (by cases h)⟩⟩⟩
                        · simp only [cA_toN, cA_subN, cA_add, cA_ix]; omega
                        · simp only [cA_toN, cA_subN, cA_add, cA_ix]
                        · rfl
                        · simp only [cA_toN, cA_subN, cA_add, cA_ix]; omega
                        · show _ = elT.fl (triE rest q) ++ []; unfold triE; rw [← ep, ← en]; rfl
            · exfalso; simp only [cA_sub, cA_num, cA_fits, fitsK, Bool.and_eq_false_iff, decide_eq_false_iff_not] at g2; omega
          · have h4 : rest.length = 3 := by simp only [cA_lt, cA_num, decide_eq_false_iff_not] at g1; omega
            rw [triL_end h4 rfl] at hT
            rw [← hT]
            repeat' first
              | (exfalso
                 simp only [cA_lt, cA_le, cA_andB, cA_num, ble_t, ble_f, beq_t, beq_f, flatT, Bool.and_eq_false_iff, Bool.and_eq_true, decide_eq_true_eq, decide_eq_false_iff_not, List.length_append, List.length_take, List.length_drop, List.length_nil, List.length_cons] at g
                 omega)
              | (((conv => whnf); refine bm (fun g => ?_) (fun g => ?_)))
              | ((conv => whnf)
                 refine boL (getP rest (i := 0) (by omega) rfl) ?_)
              | ((conv => whnf)
                 refine boL (getP rest (i := 1) (by omega) rfl) ?_)
              | ((conv => whnf)
                 refine boL (getP rest (i := 2) (by omega) rfl) ?_)
            all_goals (conv => whnf)
            all_goals first
              | exact ⟨3, rfl, rfl⟩
              | (refine Yields_atT (q := 3) (nx := 4) ?_ ?_ ?_ ⟨_, rfl, ?_⟩
                 · simp
                 · simp
                 · simp
                 · rfl)
        · unfold eR hRo sT
          ((conv => whnf); refine bm (fun g1 => ?_) (fun g1 => ?_))
          · have h4 : 3 < rest.length := by simp only [cA_lt, cA_num, decide_eq_true_eq] at g1; omega
            ((conv => whnf); refine bm (fun g2 => ?_) (fun g2 => ?_))
            · (conv => whnf)
              refine ⟨fun m e h nx => ∃ (k : Nat) (i a : Int), i = (rest.length : Int) - 1 - k ∧ k ≤ rest.length ∧ m = rest.length - k ∧ a = fE rest k ∧ e = eRi rest.length (sT out.length) a i ∧ h = hRo l rest out ∧ nx = 3, ⟨rest.length, ?_⟩, ?_⟩
              · refine Into_id (e0 := eRi rest.length (sT out.length) (-1) ((rest.length : Int) - 1)) (h0 := hRo l rest out) (n0 := 3) ⟨0, (rest.length : Int) - 1, -1, by omega, Nat.zero_le _, rfl, by unfold fE; rfl, rfl, rfl, rfl⟩ ?_ ?_ (by decide)
                · unfold eRi sT
                  ((repeat' (refine List.forall_mem_cons.2 ⟨⟨rfl, ?_⟩, ?_⟩; (first | exact scT_g rfl | exact ⟨by decide, rfl⟩ | exact ⟨by decide, fun h => (by cases h)⟩))); exact fun _ h => (by cases h))
                · unfold hRo
                  ((repeat' (refine List.forall_mem_cons.2 ⟨⟨Nat.le_of_ble_eq_true rfl, _, rfl, ?_⟩, ?_⟩; (first | exact ObjRen_g (flat_g _ _) | exact ObjRen_j rfl rfl))); exact fun _ h => (by cases h))
              · rintro m e h nx ⟨k, i, a, hi, hk, rfl, ha, rfl, rfl, rfl⟩
                have hab := fE_B rest (by omega) k
                rw [← ha] at hab
                unfold eRi hRo sT
                ((conv => whnf); refine bm (fun g3 => ?_) (fun g3 => ?_))
                · have hkl : k < rest.length := by simp only [cA_le, decide_eq_true_eq] at g3; omega
                  have hin : i = ((rest.length - 1 - k : Nat) : Int) := by omega
                  (conv => whnf)
                  refine ⟨rest, LsAt_n elP rfl rfl, ?_⟩
                  ((conv => whnf); refine bm (fun g4 => ?_) (fun g4 => ?_))
                  · ((conv => whnf); refine bm (fun g5 => ?_) (fun g5 => ?_))
                    · ((conv => whnf); refine bm (fun g6 => ?_) (fun g6 => ?_))
                      · (conv => whnf)
                        have hge : earB rest (rest.length - 1 - k) = true := by
                          have hg : earB rest i.toNat = true := g5
                          rwa [show i.toNat = rest.length - 1 - k by omega] at hg
                        refine ⟨rest.length - (k + 1), by omega, ?_⟩
                        refine Into_id (e0 := eRi rest.length (sT out.length) i (i - 1)) (h0 := hRo l rest out) (n0 := 3) ⟨k + 1, i - 1, i, by omega, hkl, rfl, by rw [fE_yes hge]; exact hin, rfl, rfl, rfl⟩ ?_ ?_ (by decide)
                        · unfold eRi sT
                          ((repeat' (refine List.forall_mem_cons.2 ⟨⟨rfl, ?_⟩, ?_⟩; (first | exact scT_g rfl | exact ⟨by decide, rfl⟩ | exact ⟨by decide, fun h => (by cases h)⟩))); exact fun _ h => (by cases h))
                        · unfold hRo
                          ((repeat' (refine List.forall_mem_cons.2 ⟨⟨Nat.le_of_ble_eq_true rfl, _, rfl, ?_⟩, ?_⟩; (first | exact ObjRen_g (flat_g _ _) | exact ObjRen_j rfl rfl))); exact fun _ h => (by cases h))
                      · exfalso; simp only [cA_sub, cA_fits, fitsK, Bool.and_eq_false_iff, decide_eq_false_iff_not] at g6; omega
                    · ((conv => whnf); refine bm (fun g6 => ?_) (fun g6 => ?_))
                      · (conv => whnf)
                        have hge : ¬ earB rest (rest.length - 1 - k) = true := by
                          have hg : earB rest i.toNat = false := g5
                          rw [show i.toNat = rest.length - 1 - k by omega] at hg
                          rw [hg]; decide
                        refine ⟨rest.length - (k + 1), by omega, ?_⟩
                        refine Into_id (e0 := eRi rest.length (sT out.length) a (i - 1)) (h0 := hRo l rest out) (n0 := 3) ⟨k + 1, i - 1, a, by omega, hkl, rfl, by rw [fE_not hge]; exact ha, rfl, rfl, rfl⟩ ?_ ?_ (by decide)
                        · unfold eRi sT
                          ((repeat' (refine List.forall_mem_cons.2 ⟨⟨rfl, ?_⟩, ?_⟩; (first | exact scT_g rfl | exact ⟨by decide, rfl⟩ | exact ⟨by decide, fun h => (by cases h)⟩))); exact fun _ h => (by cases h))
                        · unfold hRo
                          ((repeat' (refine List.forall_mem_cons.2 ⟨⟨Nat.le_of_ble_eq_true rfl, _, rfl, ?_⟩, ?_⟩; (first | exact ObjRen_g (flat_g _ _) | exact ObjRen_j rfl rfl))); exact fun _ h => (by cases h))
                      · exfalso; simp only [cA_sub, cA_fits, fitsK, Bool.and_eq_false_iff, decide_eq_false_iff_not] at g6; omega
                  · exfalso
                    have hg : (decide (0 ≤ i) && decide (i < rest.length) && decide (rest.length ≤ 1000000) && rest.all rightS) = false := g4
                    rw [hr, decide_eq_true (by omega), decide_eq_true (by omega), decide_eq_true (by omega)] at hg
                    cases hg
                · have hkl : k = rest.length := by simp only [cA_le, decide_eq_false_iff_not] at g3; omega
                  subst hkl
                  clear g3 hk hi
                  ((conv => whnf); refine bm (fun g5 => ?_) (fun g5 => ?_))
                  · have hs : fE rest rest.length < 0 := by
                      rw [← ha]
                      simpa only [cA_lt, decide_eq_true_eq] using g5
                    (conv => whnf)
                    rw [triL_stop h4 rfl hs] at hT
                    rw [← hT]
                    exact Yields_own (l := out) (e := some 0) (q := 2) (nx := 0) elT ho rfl
                  · have ha0 : 0 ≤ a := by simp only [cA_lt, decide_eq_false_iff_not] at g5; omega
                    obtain ⟨q, rfl⟩ : ∃ q : Nat, a = q := ⟨a.toNat, by omega⟩
                    rw [triL_step h4 rfl ha.symm] at hT
                    have hq : q < rest.length := by omega
                    have hn : (q + 1) % rest.length < rest.length := Nat.mod_lt _ (by omega)
                    have hp : (q + rest.length - 1) % rest.length < rest.length := Nat.mod_lt _ (by omega)
                    obtain ⟨j, hj⟩ : ∃ j : Int, j = q := ⟨_, rfl⟩
                    have tn : (j + 1).tmod (rest.length : Int) = ((q + 1) % rest.length : Nat) := by rw [hj]; exact tmod_nat
                    have tp : (j + (rest.length : Int) - 1).tmod (rest.length : Int) = ((q + rest.length - 1) % rest.length : Nat) := by rw [hj]; exact tmod_prev (by omega)
                    have ep : at2 rest ((q + rest.length - 1) % rest.length) = prv rest q := by unfold prv; rfl
                    have en : at2 rest ((q + 1) % rest.length) = nxt rest q := by unfold nxt; rfl
                    rw [← hj] at g5 ⊢
                    rcases (show q = 0 ∨ (0 < q ∧ q + 1 < rest.length) ∨ (0 < q ∧ q + 1 = rest.length) by omega) with c1 | c1 | c1
                    all_goals repeat' first
                      | (exfalso
                         simp only [cA_add, cA_sub, cA_rem, cA_fits, cA_lt, cA_le, cA_eq, cA_notB, cA_andB, cA_num, cA_subN, cA_toN, fitsK, ble_t, ble_f, beq_t, beq_f, flat2, flatT, tn, tp, Bool.not_eq_false', Bool.not_eq_true', Bool.and_eq_false_iff, Bool.and_eq_true, decide_eq_true_eq, decide_eq_false_iff_not, List.length_append, List.length_take, List.length_drop, List.length_nil, List.length_cons, Array.toList, Value.cells, cA_ix, rep_len, putN] at g
                         omega)
                      | (((conv => whnf); refine bm (fun g => ?_) (fun g => ?_)))
                      | ((conv => whnf)
                         refine boL (getP rest hq ?_) ?_
                         · simp [cfgS, std]; omega)
                      | ((conv => whnf)
                         refine boL (getP rest hn ?_) ?_
                         · show 0 + ((j + 1).tmod (rest.length : Int)).toNat * 2 = _
                           rw [tn, Int.toNat_natCast, Nat.zero_add])
                      | ((conv => whnf)
                         refine boL (getP rest hp ?_) ?_
                         · show 0 + ((j + (rest.length : Int) - 1).tmod (rest.length : Int)).toNat * 2 = _
                           rw [tp, Int.toNat_natCast, Nat.zero_add])
                    all_goals (conv => whnf)
                    all_goals
                      (have hdl := delI_len hq
                       have hrl : (out ++ [triE rest q]).length = out.length + 1 := by simp)
                    · have hX : 0 + cfgS.A.toN j + cfgS.A.subN rest.length (cfgS.A.toN (cfgS.A.add j 1)) = (delI rest q).length := by
                        simp only [cA_toN, cA_subN, cA_add]
                        omega
                      rw [hX]
                      refine ⟨(delI rest q).length, by omega, ?_⟩
                      refine Into_mv2 (e0 := eR (delI rest q).length (sT (out.length + 1))) (o0 := .cells false true 2 (flat elP.fl l)) (o1 := .cells true false 2 (flat elP.fl (delI rest q))) (o2 := .cells true false 6 (flat elT.fl (out ++ [triE rest q]))) (n0 := 3) 6 4 (by decide) (by decide)
                        ⟨delI rest q, out ++ [triE rest q], rfl, by omega, by rw [hrl]; omega, delI_right hr q, by rw [hdl]; exact hT, .inr ⟨by rw [hrl]; exact Nat.succ_pos _, by rw [hrl]; rfl, rfl, rfl⟩⟩ ?_ ?_
                      · unfold eR sT
                        ((repeat' (refine List.forall_mem_cons.2 ⟨⟨rfl, ?_⟩, ?_⟩; (first | exact scT_g rfl | exact ⟨by decide, rfl⟩ | exact ⟨by decide, fun h => (by cases h)⟩))); exact fun _ h => (by cases h))
                      · refine List.forall_mem_cons.2 ⟨⟨Nat.le_of_ble_eq_true rfl, _, rfl, ObjRen_g (flat_g _ _)⟩, List.forall_mem_cons.2 ⟨⟨Nat.le_of_ble_eq_true rfl, _, rfl, ObjRen_j (flat_g elP _) (delA c1 ?_ ?_ ?_)⟩, List.forall_mem_cons.2 ⟨⟨Nat.le_of_ble_eq_true rfl, _, rfl, ObjRen_j (flat_g elT _) ?_⟩, fun _ h => (by cases h)⟩⟩⟩
                        · simp only [cA_toN, cA_subN, cA_add, cA_ix, ← hX]; omega
                        · simp only [cA_toN, cA_subN, cA_add, cA_ix]; omega
                        · simp only [cA_toN, cA_subN, cA_add, cA_ix]; omega
                        · refine flatT_grow rfl rfl ?_; unfold triE; rw [← ep, ← en]; rfl
                    · have hX : 0 + cfgS.A.toN j + cfgS.A.subN rest.length (cfgS.A.toN (cfgS.A.add j 1)) = (delI rest q).length := by
                        simp only [cA_toN, cA_subN, cA_add]
                        omega
                      rw [hX]
                      refine ⟨(delI rest q).length, by omega, ?_⟩
                      refine Into_mv2 (e0 := eR (delI rest q).length (sT (out.length + 1))) (o0 := .cells false true 2 (flat elP.fl l)) (o1 := .cells true false 2 (flat elP.fl (delI rest q))) (o2 := .cells true false 6 (flat elT.fl (out ++ [triE rest q]))) (n0 := 3) 7 4 (by decide) (by decide)
                        ⟨delI rest q, out ++ [triE rest q], rfl, by omega, by rw [hrl]; omega, delI_right hr q, by rw [hdl]; exact hT, .inr ⟨by rw [hrl]; exact Nat.succ_pos _, by rw [hrl]; rfl, rfl, rfl⟩⟩ ?_ ?_
                      · unfold eR sT
                        ((repeat' (refine List.forall_mem_cons.2 ⟨⟨rfl, ?_⟩, ?_⟩; (first | exact scT_g rfl | exact ⟨by decide, rfl⟩ | exact ⟨by decide, fun h => (by cases h)⟩))); exact fun _ h => (by cases h))
                      · refine List.forall_mem_cons.2 ⟨⟨Nat.le_of_ble_eq_true rfl, _, rfl, ObjRen_g (flat_g _ _)⟩, List.forall_mem_cons.2 ⟨⟨Nat.le_of_ble_eq_true rfl, _, rfl, ObjRen_j (flat_g elP _) (delB hq ?_ ?_ ?_ ?_ ?_ ?_ ?_)⟩, List.forall_mem_cons.2 ⟨⟨Nat.le_of_ble_eq_true rfl, _, rfl, ObjRen_j (flat_g elT _) ?_⟩, fun _ h => (by cases h)⟩⟩⟩
                        · simp only [cA_toN, cA_subN, cA_add, cA_ix]; omega
                        · simp only [cA_toN, cA_subN, cA_add, cA_ix]; omega
                        · simp only [cA_toN, cA_subN, cA_add, cA_ix]
                        · rfl
                        · rfl
                        · simp only [cA_toN, cA_subN, cA_add, cA_ix]; omega
                        · simp only [cA_toN, cA_subN, cA_add, cA_ix]; omega
                        · refine flatT_grow rfl rfl ?_; unfold triE; rw [← ep, ← en]; rfl
                    · have hX1 : 0 + cfgS.A.toN j + 0 = (delI rest q).length := by
                        simp only [cA_toN]
                        omega
                      have hX2 : 0 + cfgS.A.toN j = (delI rest q).length := by
                        simp only [cA_toN]
                        omega
                      rw [hX1, hX2]
                      refine ⟨(delI rest q).length, by omega, ?_⟩
                      refine Into_mv2 (e0 := eR (delI rest q).length (sT (out.length + 1))) (o0 := .cells false true 2 (flat elP.fl l)) (o1 := .cells true false 2 (flat elP.fl (delI rest q))) (o2 := .cells true false 6 (flat elT.fl (out ++ [triE rest q]))) (n0 := 3) 7 4 (by decide) (by decide)
                        ⟨delI rest q, out ++ [triE rest q], rfl, by omega, by rw [hrl]; omega, delI_right hr q, by rw [hdl]; exact hT, .inr ⟨by rw [hrl]; exact Nat.succ_pos _, by rw [hrl]; rfl, rfl, rfl⟩⟩ ?_ ?_
                      · unfold eR sT
                        ((repeat' (refine List.forall_mem_cons.2 ⟨⟨rfl, ?_⟩, ?_⟩; (first | exact scT_g rfl | exact ⟨by decide, rfl⟩ | exact ⟨by decide, fun h => (by cases h)⟩))); exact fun _ h => (by cases h))
                      · refine List.forall_mem_cons.2 ⟨⟨Nat.le_of_ble_eq_true rfl, _, rfl, ObjRen_g (flat_g _ _)⟩, List.forall_mem_cons.2 ⟨⟨Nat.le_of_ble_eq_true rfl, _, rfl, ObjRen_j (flat_g elP _) (delC c1.2 ?_ ?_ ?_ ?_)⟩, List.forall_mem_cons.2 ⟨⟨Nat.le_of_ble_eq_true rfl, _, rfl, ObjRen_j (flat_g elT _) ?_⟩, fun _ h => (by cases h)⟩⟩⟩
                        · simp only [cA_toN, cA_subN, cA_add, cA_ix]; omega
                        · simp only [cA_toN, cA_subN, cA_add, cA_ix]
                        · rfl
                        · simp only [cA_toN, cA_subN, cA_add, cA_ix]; omega
                        · refine flatT_grow rfl rfl ?_; unfold triE; rw [← ep, ← en]; rfl
            · exfalso; simp only [cA_sub, cA_num, cA_fits, fitsK, Bool.and_eq_false_iff, decide_eq_false_iff_not] at g2; omega
          · have h4 : rest.length = 3 := by simp only [cA_lt, cA_num, decide_eq_false_iff_not] at g1; omega
            rw [triL_end h4 rfl] at hT
            rw [← hT]
            repeat' first
              | (exfalso
                 simp only [cA_lt, cA_le, cA_andB, cA_num, ble_t, ble_f, beq_t, beq_f, flatT, Bool.and_eq_false_iff, Bool.and_eq_true, decide_eq_true_eq, decide_eq_false_iff_not, List.length_append, List.length_take, List.length_drop, List.length_nil, List.length_cons] at g
                 omega)
              | (((conv => whnf); refine bm (fun g => ?_) (fun g => ?_)))
              | ((conv => whnf)
                 refine boL (getP rest (i := 0) (by omega) rfl) ?_)
              | ((conv => whnf)
                 refine boL (getP rest (i := 1) (by omega) rfl) ?_)
              | ((conv => whnf)
                 refine boL (getP rest (i := 2) (by omega) rfl) ?_)
            all_goals (conv => whnf)
            all_goals first
              | exact ⟨3, rfl, rfl⟩
              | (refine Yields_atT (q := 4) (nx := 5) ?_ ?_ ?_ ⟨_, rfl, ?_⟩
                 · simp
                 · simp
                 · simp
                 · exact flatT_grow rfl rfl rfl)
    · rw [show triO l = [] by unfold triO; rw [if_neg hz], show norO l = [] by unfold norO; rw [if_neg hz]]
      show outK elP [] _ _ _ _
      ((conv => whnf); refine bm (fun g1 => ?_) (fun g1 => ?_))
      · rfl
      · exfalso
        simp only [cA_eq, cA_notB, Bool.not_eq_false', decide_eq_true_eq] at g1
        exact hz g1
  · exfalso
    have hg : decide (l.length ≤ 1000000000) = false := h1
    rw [decide_eq_false_iff_not] at hg
    omega
end Go.Aw
