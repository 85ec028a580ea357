/-
  PlanePieces: its body, for lists that are not empty. No condition.
-/
import Derived.Test.YtmkcjbpekejgdaaGreatSe130
import Derived.Test.YtmkcjbpekejgdaaGreatSe134
import Derived.Test.YtmkcjbpekejgdaaGreatSe12
set_option linter.unusedSimpArgs false
set_option linter.unusedVariables false
noncomputable section
namespace Go.Aw
set_option maxRecDepth 100000
def anyE (p : Int × Int) (S : List Sg) : Nat → Bool
  | 0 => false
  | k + 1 => anyE p S k || (eqP p (atS S k).1 || eqP p (atS S k).2)
theorem sum0 (l : List Sg) (c : Nat) (S : List Sg) : ([(3, .slice (some ⟨1, 0, none⟩) S.length S.length), (5, iv 0), (34, .slice (some ⟨0, 0, none⟩) l.length c), (35, iv l.length), (36, iv 0)] : List (Nat × Value)) = [(3, .slice (some ⟨1, 0, none⟩) S.length S.length), (5, iv (sumG (l.take 0))), (34, .slice (some ⟨0, 0, none⟩) l.length c), (35, iv l.length), (36, iv 0)] := rfl
theorem sumG_nil : sumG [] = 0 := rfl
theorem mem_atS {S : List Sg} {x : Sg} (h : x ∈ S) : ∃ i, i < S.length ∧ atS S i = x := by
  obtain ⟨i, hi, e⟩ := List.mem_iff_getElem.1 h
  exact ⟨i, hi, (atS_eq hi).trans e⟩
theorem anyE_s (p : Int × Int) (S : List Sg) (k : Nat) : anyE p S (k + 1) = (anyE p S k || (eqP p (atS S k).1 || eqP p (atS S k).2)) := rfl
theorem anyE_0 (p : Int × Int) (S : List Sg) : anyE p S 0 = false := rfl
theorem anyE_of {p : Int × Int} {S : List Sg} : ∀ {k}, (∃ i, i < k ∧ (p = (atS S i).1 ∨ p = (atS S i).2)) → anyE p S k = true
  | 0, ⟨i, h, _⟩ => absurd h (Nat.not_lt_zero i)
  | k + 1, ⟨i, hi, h⟩ => by
    rw [anyE_s]
    by_cases hk : i = k
    · subst hk
      rcases h with h | h
      · rw [(eqP_iff _ _).2 h]; simp
      · rw [(eqP_iff _ _).2 h]; simp
    · rw [anyE_of ⟨i, by omega, h⟩, Bool.true_or]
theorem sum_low {l : List Sg} (h : ∀ x ∈ l, rightS x.1 = true ∧ rightS x.2 = true) : 0 ≤ sumG l ∧ sumG l ≤ 20000 * l.length := by
  induction l with
  | nil => exact ⟨Int.le_refl _, Int.le_refl _⟩
  | cons s r ih =>
    have h1 := ih fun x hx => h x (.tail _ hx)
    have h2 := h s (.head _)
    have h3 := dist_low h2.1 h2.2
    show 0 ≤ distS _ _ + sumG r ∧ distS _ _ + sumG r ≤ 20000 * ((r.length + 1 : Nat) : Int)
    omega
theorem sum_step {l : List Sg} {i : Nat} (hi : i < l.length) : sumG (l.take (i + 1)) = sumG (l.take i) + distS (atS l i).1 (atS l i).2 := by
  rw [show l.take (i + 1) = l.take i ++ [atS l i] by rw [atS_eq hi, List.take_append_getElem hi], sumG_app]
  show _ + (distS _ _ + 0) = _
  omega
theorem sum_take {l : List Sg} (h : ∀ x ∈ l, rightS x.1 = true ∧ rightS x.2 = true) (i : Nat) : 0 ≤ sumG (l.take i) ∧ sumG (l.take i) ≤ 20000 * l.length := by
  have h1 := sum_low (l := l.take i) fun x hx => h x (List.mem_of_mem_take hx)
  have h2 : (l.take i).length ≤ l.length := by rw [List.length_take]; omega
  omega
def sg1 (s : Sg) : List Value := [iv s.1.1, iv s.1.2, iv s.2.1, iv s.2.2]
def slv (k n c : Nat) : Value := .slice (some ⟨k, 0, none⟩) n c
def eA (l S : List Sg) (c : Nat) (L j : Int) : List (Nat × Value) := [(3, .slice (some ⟨1, 0, none⟩) S.length S.length), (5, iv L), (34, .slice (some ⟨0, 0, none⟩) l.length c), (35, iv l.length), (36, iv j)]
def hAw (l S : List Sg) : Heap := [(0, .cells false true 4 (flat elS.fl l)), (1, .cells true false 4 (flat elS.fl S))]
def eA2 (l S : List Sg) (c : Nat) (L j : Int) (a b : Bool) (k : Int) : List (Nat × Value) := [(3, .slice (some ⟨1, 0, none⟩) S.length S.length), (5, iv L), (34, .slice (some ⟨0, 0, none⟩) l.length c), (35, iv l.length), (36, iv j), (7, .pointer (some ⟨2, 0, none⟩)), (8, .bool a), (9, .bool b), (48, .slice (some ⟨1, 0, none⟩) S.length S.length), (49, iv S.length), (50, iv k)]
def hAx (l S : List Sg) (x : Sg) : Heap := [(0, .cells false true 4 (flat elS.fl l)), (1, .cells true false 4 (flat elS.fl S)), (2, .cells true false 1 [iv x.1.1, iv x.1.2, iv x.2.1, iv x.2.2])]
def eB (l S : List Sg) (L j : Int) : List (Nat × Value) := [(3, .slice (some ⟨1, 0, none⟩) S.length S.length), (5, iv L), (92, .slice (some ⟨1, 0, none⟩) S.length S.length), (93, iv S.length), (94, iv j)]
def eB2 (l S : List Sg) (L j : Int) (n : Nat) (m k : Int) : List (Nat × Value) := [(3, .slice (some ⟨1, 0, none⟩) S.length S.length), (5, iv L), (92, .slice (some ⟨1, 0, none⟩) S.length S.length), (93, iv S.length), (94, iv j), (13, .pointer (some ⟨2, 0, none⟩)), (109, .slice (some ⟨1, 0, none⟩) n S.length), (110, iv m), (111, iv k)]
set_option maxHeartbeats 4000000 in
attribute [local irreducible] splO splE atS anyE sumG lenS distS MeetV in
theorem law11 (l : List Sg) (h0 : 0 < l.length) (c : Nat) : body [X19, Y39, X30, X22] 11 [.slice (some ⟨0, 0, none⟩) l.length c] [(0, .cells false true 4 (flat elS.fl l))] 1 (fun u _ _ => u = .bool true) := by
  ((conv => whnf); refine bm (fun g1 => ?_) (fun g1 => ?_))
  · (conv => whnf)
  · have hlen : l.length ≤ 40 := by simp only [cA_lt, cA_num, decide_eq_false_iff_not] at g1; omega
    have hd : (decide (l.length ≤ 1000000000) && decide (0 < l.length)) = true := by rw [decide_eq_true h0, decide_eq_true (by omega)]; rfl
    (conv => whnf)
    refine ⟨l, LsAt_own elS rfl, ?_⟩
    ((conv => whnf); refine bm (fun g2 => ?_) (fun g2 => ?_))
    rotate_left
    · exfalso
      have hg : (decide (l.length ≤ 1000000000) && decide (0 < l.length)) = false := g2
      rw [hd] at hg
      cases hg
    by_cases hE : splE l = 0
    · have hc : chkS l = 0 ∧ scanI l l.length 0 = none := by
        unfold splE at hE
        split at hE
        · rename_i h
          refine ⟨h, ?_⟩
          split at hE
          · cases hE
          · rename_i h2
            unfold crossR at h2
            rw [if_pos h] at h2
            simpa using h2
        · exact absurd hE (by assumption)
      obtain ⟨hc, hno⟩ := hc
      obtain ⟨h400, hr⟩ := chkS_ok hc
      have hO : splO l = dedG (outS l l.length) := by unfold splO; rw [if_pos hE]
      have hSl := splO_le l
      have hsum := sum_ded hr hno
      have hmeet := fun x y hx hy hne => ded_meet hr hno (x := x) (y := y) hx hy hne
      have hrt := fun x hx => ded_right hr (x := x) hx
      have hends := fun i hi => ded_ends hr (i := i) hi
      have hnd : ∀ i j, i < j → j < (dedG (outS l l.length)).length → atS (dedG (outS l l.length)) j ≠ atS (dedG (outS l l.length)) i := by
        intro i j hij hj e
        have h1 := List.pairwise_iff_getElem.1 (dedG_asc (outS l l.length)) i j (by omega) hj hij
        rw [← atS_eq (by omega), ← atS_eq hj, e, lessG_ir] at h1
        cases h1
      have hS0 : 0 < (dedG (outS l l.length)).length := dedG_pos (outS_pos hr h0 (Nat.le_refl _))
      rw [← hO] at hsum hmeet hrt hends hnd hS0
      have hSb : (splO l).length ≤ 40 * 81 := Nat.le_trans hSl (Nat.mul_le_mul hlen (by omega))
      show outK elS (splO l) (some (splE l)) _ _ _
      rw [hE]
      generalize splO l = S at *
      clear hc hE hO hSl hd g2
      refine outK_own elS hS0 ?_
      (conv => whnf)
      have hlr : ∀ x ∈ l, rightS x.1 = true ∧ rightS x.2 = true := fun x hx => by
        have h1 := List.all_eq_true.1 hr x hx
        obtain ⟨q1, q2, -⟩ := right_two h1
        exact ⟨q1, q2⟩
      refine ⟨fun n e h nx => ∃ (i : Nat) (j : Int), j = i ∧ i ≤ l.length ∧ n = l.length - i ∧ e = eA l S c (sumG (l.take i)) j ∧ h = hAw l S ∧ nx = 2, ⟨l.length, ?_⟩, ?_⟩
      · refine Into_id (e0 := eA l S c 0 0) (h0 := hAw l S) (n0 := 2) ⟨0, 0, rfl, Nat.zero_le _, rfl, sum0 l c S, rfl, rfl⟩ ?_ ?_ (by decide)
        · unfold eA
          ((repeat' (refine List.forall_mem_cons.2 ⟨⟨rfl, ?_⟩, ?_⟩; (first | exact scT_g rfl | exact ⟨by decide, rfl⟩ | exact ⟨by decide, fun h => (by cases h)⟩))); exact fun _ h => (by cases h))
        · unfold hAw
          ((repeat' (refine List.forall_mem_cons.2 ⟨⟨Nat.le_of_ble_eq_true rfl, _, rfl, ?_⟩, ?_⟩; (first | exact ObjRen_g (flat_g _ _) | exact ObjRen_j rfl rfl))); exact fun _ h => (by cases h))
      · rintro n e h nx ⟨i, j, hj, hi, rfl, rfl, rfl, rfl⟩
        have hb1 := sum_take hlr i
        unfold eA hAw
        ((conv => whnf); refine bm (fun g3 => ?_) (fun g3 => ?_))
        · have hlt : i < l.length := by simp only [cA_lt, cA_num, decide_eq_true_eq] at g3; omega
          have hx := hlr _ (by rw [atS_eq hlt]; exact List.getElem_mem hlt : atS l i ∈ l)
          have hb2 := dist_low hx.1 hx.2
          have hst := sum_step hlt
          have hL2 := lenS_two hx.1 hx.2
          generalize hL : sumG (l.take i) = L at hb1 hst ⊢
          repeat' first
                  | (exfalso; simp only [hL2, cA_add, cA_sub, cA_fits, cA_lt, cA_le, cA_eq, cA_notB, cA_andB, cA_num, cA_subN, cA_toN, cA_eqB, beq_iff_eq, beq_eq_false_iff_ne, ne_eq, fitsK, ble_t, ble_f, flat2, flat4, Bool.not_eq_false', Bool.not_eq_true', Bool.and_eq_false_iff, Bool.and_eq_true, decide_eq_true_eq, decide_eq_false_iff_not, List.length_append, List.length_nil, List.length_cons, cA_ix] at g; omega)
                  | (((conv => whnf); refine bm (fun g => ?_) (fun g => ?_)))
                  | ((conv => whnf)
                     refine boL (getS l hlt ?_) ?_
                     · simp [cfgS, std]; omega)
                  | ((conv => whnf)
                     refine ⟨[(atS l i).1, (atS l i).2], ⟨rfl, _, _, _, _, rfl, rfl⟩, ?_⟩)
          all_goals (conv => whnf)
          refine ⟨fun n e h nx => ∃ (k : Nat) (y : Int) (p q : Bool), p = anyE (atS l i).1 S k ∧ q = anyE (atS l i).2 S k ∧ y = k ∧ k ≤ S.length ∧ n = S.length - k ∧ e = eA2 l S c (cfgS.A.add L (lenS [(atS l i).1, (atS l i).2])) j p q y ∧ h = hAx l S (atS l i) ∧ nx = 3, ⟨S.length, ?_⟩, ?_⟩
          · refine Into_id (e0 := eA2 l S c (cfgS.A.add L (lenS [(atS l i).1, (atS l i).2])) j false false 0) (h0 := hAx l S (atS l i)) (n0 := 3) ⟨0, 0, false, false, (anyE_0 _ _).symm, (anyE_0 _ _).symm, rfl, Nat.zero_le _, rfl, rfl, rfl, rfl⟩ ?_ ?_ (by decide)
            · unfold eA2
              ((repeat' (refine List.forall_mem_cons.2 ⟨⟨rfl, ?_⟩, ?_⟩; (first | exact scT_g rfl | exact ⟨by decide, rfl⟩ | exact ⟨by decide, fun h => (by cases h)⟩))); exact fun _ h => (by cases h))
            · unfold hAx
              ((repeat' (refine List.forall_mem_cons.2 ⟨⟨Nat.le_of_ble_eq_true rfl, _, rfl, ?_⟩, ?_⟩; (first | exact ObjRen_g (flat_g _ _) | exact ObjRen_j rfl rfl))); exact fun _ h => (by cases h))
          · rintro n e h nx ⟨k, y, p, q, hp, hq, hy, hk, rfl, rfl, rfl, rfl⟩
            unfold eA2 hAx
            ((conv => whnf); refine bm (fun g4 => ?_) (fun g4 => ?_))
            · have hlk : k < S.length := by simp only [cA_lt, cA_num, decide_eq_true_eq] at g4; omega
              have hp1 := anyE_s (atS l i).1 S k
              have hq1 := anyE_s (atS l i).2 S k
              rw [← hp] at hp1
              rw [← hq] at hq1
              cases p <;> cases q
              all_goals
                repeat' first
                  | (exfalso; simp only [cA_add, cA_sub, cA_fits, cA_lt, cA_le, cA_eq, cA_notB, cA_andB, cA_num, cA_subN, cA_toN, cA_eqB, beq_iff_eq, beq_eq_false_iff_ne, ne_eq, fitsK, ble_t, ble_f, flat2, flat4, Bool.not_eq_false', Bool.not_eq_true', Bool.and_eq_false_iff, Bool.and_eq_true, decide_eq_true_eq, decide_eq_false_iff_not, List.length_append, List.length_nil, List.length_cons, cA_ix] at g; omega)
                  | (((conv => whnf); refine bm (fun g => ?_) (fun g => ?_)))
                  | ((conv => whnf)
                     refine boL (getS S hlk ?_) ?_
                     · simp [cfgS, std]; omega)
              all_goals (conv => whnf)
              all_goals
                refine ⟨S.length - (k + 1), by omega, ?_⟩
                refine Into_id (e0 := eA2 l S c (cfgS.A.add L (lenS [(atS l i).1, (atS l i).2])) j _ _ (y + 1)) (h0 := hAx l S (atS l i)) (n0 := 3) ⟨k + 1, y + 1, _, _, ?_, ?_, by omega, by omega, rfl, rfl, rfl, rfl⟩ (by unfold eA2; ((repeat' (refine List.forall_mem_cons.2 ⟨⟨rfl, ?_⟩, ?_⟩; (first | exact scT_g rfl | exact ⟨by decide, rfl⟩ | exact ⟨by decide, fun h => (by cases h)⟩))); exact fun _ h => (by cases h))) (by unfold hAx; ((repeat' (refine List.forall_mem_cons.2 ⟨⟨Nat.le_of_ble_eq_true rfl, _, rfl, ?_⟩, ?_⟩; (first | exact ObjRen_g (flat_g _ _) | exact ObjRen_j rfl rfl))); exact fun _ h => (by cases h))) (by decide)
                · rw [hp1]
                  try simp only [eqPJ, cA_eqB] at *
                  simp_all
                · rw [hq1]
                  try simp only [eqPJ, cA_eqB] at *
                  simp_all
            · have hge : k = S.length := by simp only [cA_lt, cA_num, decide_eq_false_iff_not] at g4; omega
              subst hge
              have hpt : p = true := by
                rw [hp]
                obtain ⟨z, hz, e⟩ := (hends i hlt).1
                obtain ⟨m, hm, rfl⟩ := mem_atS hz
                exact anyE_of ⟨m, hm, e⟩
              have hqt : q = true := by
                rw [hq]
                obtain ⟨z, hz, e⟩ := (hends i hlt).2
                obtain ⟨m, hm, rfl⟩ := mem_atS hz
                exact anyE_of ⟨m, hm, e⟩
              subst hpt hqt
              repeat' first
                | (exfalso; simp only [cA_add, cA_sub, cA_fits, cA_lt, cA_le, cA_eq, cA_notB, cA_andB, cA_num, cA_subN, cA_toN, cA_eqB, beq_iff_eq, beq_eq_false_iff_ne, ne_eq, fitsK, ble_t, ble_f, flat2, flat4, Bool.not_eq_false', Bool.not_eq_true', Bool.and_eq_false_iff, Bool.and_eq_true, decide_eq_true_eq, decide_eq_false_iff_not, List.length_append, List.length_nil, List.length_cons, cA_ix] at g; omega)
                | (((conv => whnf); refine bm (fun g => ?_) (fun g => ?_)))
              all_goals (conv => whnf)
              refine ⟨l.length - (i + 1), by omega, ?_⟩
              refine Into_id (e0 := eA l S c (cfgS.A.add L (lenS [(atS l i).1, (atS l i).2])) (j + 1)) (h0 := hAw l S) (n0 := 2) ⟨i + 1, j + 1, by omega, by omega, rfl, ?_, rfl, rfl⟩ ?_ ?_ (by decide)
              · rw [hst, hL2]
                rfl
              · unfold eA
                ((repeat' (refine List.forall_mem_cons.2 ⟨⟨rfl, ?_⟩, ?_⟩; (first | exact scT_g rfl | exact ⟨by decide, rfl⟩ | exact ⟨by decide, fun h => (by cases h)⟩))); exact fun _ h => (by cases h))
              · unfold hAw
                ((repeat' (refine List.forall_mem_cons.2 ⟨⟨Nat.le_of_ble_eq_true rfl, _, rfl, ?_⟩, ?_⟩; (first | exact ObjRen_g (flat_g _ _) | exact ObjRen_j rfl rfl))); exact fun _ h => (by cases h))
        · have hge : i = l.length := by simp only [cA_lt, cA_num, decide_eq_false_iff_not] at g3; omega
          subst hge
          rw [List.take_length, ← hsum]
          clear g3 hb1
          have hb0 := sum_low hrt
          (conv => whnf)
          refine ⟨fun n e h nx => ∃ (i : Nat) (j : Int), j = i ∧ i ≤ S.length ∧ n = S.length - i ∧ e = eB l S (sumG S - sumG (S.take i)) j ∧ h = hAw l S ∧ nx = 2, ⟨S.length, ?_⟩, ?_⟩
          · refine Into_id (e0 := eB l S (sumG S) 0) (h0 := hAw l S) (n0 := 2) ⟨0, 0, rfl, Nat.zero_le _, rfl, ?_, rfl, rfl⟩ ?_ ?_ (by decide)
            · rw [List.take_zero, sumG_nil, Int.sub_zero]
            · unfold eB
              ((repeat' (refine List.forall_mem_cons.2 ⟨⟨rfl, ?_⟩, ?_⟩; (first | exact scT_g rfl | exact ⟨by decide, rfl⟩ | exact ⟨by decide, fun h => (by cases h)⟩))); exact fun _ h => (by cases h))
            · unfold hAw
              ((repeat' (refine List.forall_mem_cons.2 ⟨⟨Nat.le_of_ble_eq_true rfl, _, rfl, ?_⟩, ?_⟩; (first | exact ObjRen_g (flat_g _ _) | exact ObjRen_j rfl rfl))); exact fun _ h => (by cases h))
          · rintro n e h nx ⟨i, j, hj, hi, rfl, rfl, rfl, rfl⟩
            have hb1 := sum_take hrt i
            unfold eB hAw
            ((conv => whnf); refine bm (fun g3 => ?_) (fun g3 => ?_))
            · have hlt : i < S.length := by simp only [cA_lt, cA_num, decide_eq_true_eq] at g3; omega
              have hxm : atS S i ∈ S := by rw [atS_eq hlt]; exact List.getElem_mem hlt
              have hx := hrt _ hxm
              have hb2 := dist_low hx.1 hx.2
              have hst := sum_step hlt
              have hL2 := lenS_two hx.1 hx.2
              have hb3 := sum_take hrt (i + 1)
              generalize hL : sumG S - sumG (S.take i) = L at hst ⊢
              repeat' first
                  | (exfalso; simp only [hL2, cA_add, cA_sub, cA_fits, cA_lt, cA_le, cA_eq, cA_notB, cA_andB, cA_num, cA_subN, cA_toN, cA_eqB, beq_iff_eq, beq_eq_false_iff_ne, ne_eq, fitsK, ble_t, ble_f, flat2, flat4, Bool.not_eq_false', Bool.not_eq_true', Bool.and_eq_false_iff, Bool.and_eq_true, decide_eq_true_eq, decide_eq_false_iff_not, List.length_append, List.length_nil, List.length_cons, cA_ix] at g; omega)
                  | (((conv => whnf); refine bm (fun g => ?_) (fun g => ?_)))
                  | ((conv => whnf)
                     refine boL (getS S hlt ?_) ?_
                     · simp [cfgS, std]; omega)
                  | ((conv => whnf)
                     refine ⟨[(atS S i).1, (atS S i).2], ⟨rfl, _, _, _, _, rfl, rfl⟩, ?_⟩)
              all_goals (conv => whnf)
              refine ⟨fun n e h nx => ∃ (k : Nat) (y : Int), y = k ∧ k ≤ i ∧ n = i - k ∧ e = eB2 l S (cfgS.A.sub L (lenS [(atS S i).1, (atS S i).2])) j j.toNat j.toNat y ∧ h = hAx l S (atS S i) ∧ nx = 3, ⟨i, ?_⟩, ?_⟩
              · refine Into_id (e0 := eB2 l S (cfgS.A.sub L (lenS [(atS S i).1, (atS S i).2])) j j.toNat j.toNat 0) (h0 := hAx l S (atS S i)) (n0 := 3) ⟨0, 0, rfl, Nat.zero_le _, rfl, rfl, rfl, rfl⟩ ?_ ?_ (by decide)
                · unfold eB2
                  ((repeat' (refine List.forall_mem_cons.2 ⟨⟨rfl, ?_⟩, ?_⟩; (first | exact scT_g rfl | exact ⟨by decide, rfl⟩ | exact ⟨by decide, fun h => (by cases h)⟩))); exact fun _ h => (by cases h))
                · unfold hAx
                  ((repeat' (refine List.forall_mem_cons.2 ⟨⟨Nat.le_of_ble_eq_true rfl, _, rfl, ?_⟩, ?_⟩; (first | exact ObjRen_g (flat_g _ _) | exact ObjRen_j rfl rfl))); exact fun _ h => (by cases h))
              · rintro n e h nx ⟨k, y, hy, hk, rfl, rfl, rfl, rfl⟩
                have hjn : j.toNat = i := by omega
                rw [hjn]
                unfold eB2 hAx
                ((conv => whnf); refine bm (fun g4 => ?_) (fun g4 => ?_))
                · have hlk : k < i := by simp only [cA_lt, cA_num, decide_eq_true_eq] at g4; omega
                  have hlS : k < S.length := by omega
                  have hm := hmeet (atS S i) (atS S k) hxm (by rw [atS_eq hlS]; exact List.getElem_mem hlS) (hnd k i hlk hlt)
                  repeat' first
                    | (exfalso; simp only [cA_add, cA_sub, cA_fits, cA_lt, cA_le, cA_eq, cA_notB, cA_andB, cA_num, cA_subN, cA_toN, cA_eqB, beq_iff_eq, beq_eq_false_iff_ne, ne_eq, fitsK, ble_t, ble_f, flat2, flat4, Bool.not_eq_false', Bool.not_eq_true', Bool.and_eq_false_iff, Bool.and_eq_true, decide_eq_true_eq, decide_eq_false_iff_not, List.length_append, List.length_nil, List.length_cons, cA_ix] at g; omega)
                    | (((conv => whnf); refine bm (fun g => ?_) (fun g => ?_)))
                    | ((conv => whnf)
                       refine boL (getS S hlS ?_) ?_
                       · simp [cfgS, std]; omega)
                  all_goals (conv => whnf)
                  all_goals first
                    | (refine ⟨i - (k + 1), by omega, ?_⟩
                       refine Into_id (e0 := eB2 l S (cfgS.A.sub L (lenS [(atS S i).1, (atS S i).2])) j i i (y + 1)) (h0 := hAx l S (atS S i)) (n0 := 3) ⟨k + 1, y + 1, by omega, by omega, rfl, rfl, rfl, rfl⟩ ?_ ?_ (by decide)
                       · unfold eB2
                         ((repeat' (refine List.forall_mem_cons.2 ⟨⟨rfl, ?_⟩, ?_⟩; (first | exact scT_g rfl | exact ⟨by decide, rfl⟩ | exact ⟨by decide, fun h => (by cases h)⟩))); exact fun _ h => (by cases h))
                       · unfold hAx
                         ((repeat' (refine List.forall_mem_cons.2 ⟨⟨Nat.le_of_ble_eq_true rfl, _, rfl, ?_⟩, ?_⟩; (first | exact ObjRen_g (flat_g _ _) | exact ObjRen_j rfl rfl))); exact fun _ h => (by cases h)))
                    | (exfalso
                       have hg1 : cfgS.A.notB (cfgS.A.eq (MeetV (atS S i) (atS S k)) 1) = true := by assumption
                       have hg0 : cfgS.A.eqB (cfgS.A.notB (cfgS.A.eq (MeetV (atS S i) (atS S k)) 0)) true = true := by assumption
                       simp only [cA_notB, cA_eq, cA_eqB, Bool.not_eq_true', decide_eq_false_iff_not, beq_iff_eq] at hg1 hg0
                       omega)
                · have hge : k = i := by simp only [cA_lt, cA_num, decide_eq_false_iff_not] at g4; omega
                  subst hge
                  repeat' first
                    | (exfalso; simp only [cA_add, cA_sub, cA_fits, cA_lt, cA_le, cA_eq, cA_notB, cA_andB, cA_num, cA_subN, cA_toN, cA_eqB, beq_iff_eq, beq_eq_false_iff_ne, ne_eq, fitsK, ble_t, ble_f, flat2, flat4, Bool.not_eq_false', Bool.not_eq_true', Bool.and_eq_false_iff, Bool.and_eq_true, decide_eq_true_eq, decide_eq_false_iff_not, List.length_append, List.length_nil, List.length_cons, cA_ix] at g; omega)
                    | (((conv => whnf); refine bm (fun g => ?_) (fun g => ?_)))
                  all_goals (conv => whnf)
                  refine ⟨S.length - (k + 1), by omega, ?_⟩
                  refine Into_id (e0 := eB l S (cfgS.A.sub L (lenS [(atS S k).1, (atS S k).2])) (j + 1)) (h0 := hAw l S) (n0 := 2) ⟨k + 1, j + 1, by omega, by omega, rfl, ?_, rfl, rfl⟩ ?_ ?_ (by decide)
                  · have e4 : cfgS.A.sub L (lenS [(atS S k).1, (atS S k).2]) = sumG S - sumG (S.take (k + 1)) := by
                      rw [hL2, cA_sub]; omega
                    rw [e4]
                    rfl
                  · unfold eB
                    ((repeat' (refine List.forall_mem_cons.2 ⟨⟨rfl, ?_⟩, ?_⟩; (first | exact scT_g rfl | exact ⟨by decide, rfl⟩ | exact ⟨by decide, fun h => (by cases h)⟩))); exact fun _ h => (by cases h))
                  · unfold hAw
                    ((repeat' (refine List.forall_mem_cons.2 ⟨⟨Nat.le_of_ble_eq_true rfl, _, rfl, ?_⟩, ?_⟩; (first | exact ObjRen_g (flat_g _ _) | exact ObjRen_j rfl rfl))); exact fun _ h => (by cases h))
            · have hge : i = S.length := by simp only [cA_lt, cA_num, decide_eq_false_iff_not] at g3; omega
              subst hge
              rw [List.take_length, Int.sub_self]
              repeat' first
                | (exfalso; simp only [cA_add, cA_sub, cA_fits, cA_lt, cA_le, cA_eq, cA_notB, cA_andB, cA_num, cA_subN, cA_toN, cA_eqB, beq_iff_eq, beq_eq_false_iff_ne, ne_eq, fitsK, ble_t, ble_f, flat2, flat4, Bool.not_eq_false', Bool.not_eq_true', Bool.and_eq_false_iff, Bool.and_eq_true, decide_eq_true_eq, decide_eq_false_iff_not, List.length_append, List.length_nil, List.length_cons, cA_ix] at g; omega)
                | (((conv => whnf); refine bm (fun g => ?_) (fun g => ?_)))
              all_goals (conv => whnf)
              all_goals rfl
    · have hO : splO l = [] := by unfold splO; rw [if_neg hE]
      show outK elS (splO l) (some (splE l)) _ _ _
      rw [hO]
      repeat' first
        | (((conv => whnf); refine bm (fun g => ?_) (fun g => ?_)))
      all_goals (conv => whnf)
      all_goals first
        | rfl
        | (exfalso
           have hg : cfgS.A.notB (cfgS.A.eq (splE l) 0) = false := by assumption
           rw [cA_notB, cA_eq, decide_eq_false hE] at hg
           cases hg)
end Go.Aw
