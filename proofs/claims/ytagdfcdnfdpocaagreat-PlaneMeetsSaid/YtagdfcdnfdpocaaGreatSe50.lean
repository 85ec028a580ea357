/-
  Cross: the program's. No condition.
-/
import Derived.Test.YtagdfcdnfdpocaaGreatSe49
set_option linter.unusedSimpArgs false
set_option linter.unusedVariables false
noncomputable section
namespace Go.Aw
set_option maxRecDepth 100000
def CrossV (s t : Sg) : Value := .tuple #[ptv (crX s t), ptv (crY s t), .bool (crOk s t)]
theorem CrossV_no {s t : Sg} (h : crOk s t = false) : CrossV s t = .tuple #[ptv (0, 0), ptv (0, 0), .bool false] := by
  simp only [CrossV, crX, crY, h, Bool.false_eq_true, if_false]
theorem CrossV_yes {s t : Sg} (h : crOk s t = true) : CrossV s t = .tuple #[ptv (ratV (crD s t).1.1 (crD s t).2), ptv (ratV (crD s t).1.2 (crD s t).2), .bool true] := by
  simp only [CrossV, crX, crY, h, if_true]
theorem meetV_three {s t : Sg} (hs : rightG s = true) (ht : rightG t = true) (h0 : ¬ MeetV s t = 0) (h4 : ¬ MeetV s t = 4) (hf : firstP s t = none) : MeetV s t = 3 := by
  obtain ⟨_, _, hm⟩ := MeetV_right h0
  rw [first_head hs ht] at hf
  have h1 : ¬ (meetS s t = 1 ∨ meetS s t = 2) := by
    intro h
    obtain ⟨p, hp⟩ := ends_one s t hs ht h
    rw [hp] at hf
    cases hf
  have := meetR_cases s t
  rw [← meet_eq s t hs ht] at this
  omega
def e23 (j : Int) : List (Nat × Value) := [(2, .pointer (some ⟨0, 0, none⟩)), (3, .pointer (some ⟨1, 0, none⟩)), (4, .pointer (some ⟨2, 0, none⟩)), (5, .pointer (some ⟨3, 0, none⟩)), (31, .slice (some ⟨4, 0, none⟩) 4 4), (32, iv 4), (33, iv j)]
def h23 (s t : Sg) (ps : List (Int × Int)) : Heap := [(0, .cells true false 1 (cellsS s)), (1, .cells true false 1 (cellsS t)), (2, .cells true false 1 [iv 0, iv 0]), (3, .cells true false 1 [iv 0, iv 0]), (4, .cells true false 2 (flat elP.fl ps))]
def X23 : Nat × XF := (23, gX (s2 cS cS fun s t => (true, CrossV s t)))
attribute [local irreducible] MeetV onS ratV CrossV in
theorem x23 : XOK Go.Proofs.Tryz.prog X23.1 X23.2 := x2 cS cS (xl := [X22, X65, X69]) (.cons x22 (.cons x65 (.cons x69 .nil))) (fun _ _ => by unfold CrossV; rfl) fun s t _ => by
  have hok : crOk s t = (decide (MeetV s t ≠ 0) && decide (MeetV s t ≠ 4)) := rfl
  have hno := @CrossV_no s t
  have hyes := @CrossV_yes s t
  have hR := @MeetV_right s t
  obtain ⟨ps, hps⟩ : ∃ ps : List (Int × Int), ps = ptsS s t := ⟨_, rfl⟩
  have hfirst : firstP s t = ps.find? (hitQ s t) := by rw [hps]; rfl
  have hl4 : ps.length = 4 := by rw [hps]; rfl
  obtain ⟨⟨ax, ay⟩, ⟨bx, b2⟩⟩ := s
  obtain ⟨⟨cx, cy⟩, ⟨dx, dy⟩⟩ := t
  unfold Does1
  repeat' ((conv => whnf); refine bm (fun g => ?_) (fun g => ?_))
  all_goals (conv => whnf)
  · refine Eq.trans ?_ (hno ?_).symm
    · rfl
    · have g' : MeetV ((ax, ay), (bx, b2)) ((cx, cy), (dx, dy)) = 0 := by simpa only [cA_eq, decide_eq_true_eq] using g
      rw [hok, g']; rfl
  · exfalso
    rename_i g0
    rw [show _ = true from g0] at g
    cases g
  · refine Eq.trans ?_ (hno ?_).symm
    · rfl
    · have g' : MeetV ((ax, ay), (bx, b2)) ((cx, cy), (dx, dy)) = 4 := by simpa only [cA_eq, decide_eq_true_eq] using g
      rw [hok, g']; rfl
  · rename_i g0
    have g0' : ¬ MeetV ((ax, ay), (bx, b2)) ((cx, cy), (dx, dy)) = 0 := by simpa only [cA_eq, decide_eq_false_iff_not] using g0
    have g4' : ¬ MeetV ((ax, ay), (bx, b2)) ((cx, cy), (dx, dy)) = 4 := by simpa only [cA_eq, decide_eq_false_iff_not] using g
    have hyes' := hyes (by rw [hok]; simp [g0', g4'])
    obtain ⟨hs, ht, hm⟩ := hR g0'
    clear g0 g hno hyes hok hR
    refine ⟨fun n e h nx => ∃ (i : Nat) (j : Int), j = i ∧ i ≤ 4 ∧ n = 4 - i ∧ ps.find? (hitQ ((ax, ay), (bx, b2)) ((cx, cy), (dx, dy))) = (ps.drop i).find? (hitQ ((ax, ay), (bx, b2)) ((cx, cy), (dx, dy))) ∧ e = e23 j ∧ h = h23 ((ax, ay), (bx, b2)) ((cx, cy), (dx, dy)) ps ∧ nx = 5, ⟨4, ?_⟩, ?_⟩
    · refine Into_id (e0 := e23 0) (h0 := h23 ((ax, ay), (bx, b2)) ((cx, cy), (dx, dy)) ps) (n0 := 5) ⟨0, 0, rfl, Nat.zero_le _, rfl, rfl, rfl, rfl, rfl⟩ ?_ ?_ (by decide)
      · unfold e23
        ((repeat' (refine List.forall_mem_cons.2 ⟨⟨rfl, ?_⟩, ?_⟩; (first | exact scT_g rfl | exact ⟨by decide, rfl⟩ | exact ⟨by decide, fun h => (by cases h)⟩))); exact fun _ h => (by cases h))
      · rw [hps]
        unfold h23
        ((repeat' (refine List.forall_mem_cons.2 ⟨⟨Nat.le_of_ble_eq_true rfl, _, rfl, ?_⟩, ?_⟩; (first | exact ObjRen_g (flat_g _ _) | exact ObjRen_j rfl rfl))); exact fun _ h => (by cases h))
    · have hww : ∀ p ∈ ps, rightS p = true := by
        rw [hps]
        obtain ⟨r1, r2, _⟩ := right_two hs
        obtain ⟨r3, r4, _⟩ := right_two ht
        exact List.forall_mem_cons.2 ⟨r1, List.forall_mem_cons.2 ⟨r2, List.forall_mem_cons.2 ⟨r3, List.forall_mem_cons.2 ⟨r4, fun _ h => by cases h⟩⟩⟩⟩
      have w1 := rightG_wide hs
      have w2 := rightG_wide ht
      rintro n e h nx ⟨i, j, hj, hi, rfl, hb, rfl, rfl, rfl⟩
      unfold e23 h23
      ((conv => whnf); refine bm (fun g1 => ?_) (fun g1 => ?_))
      · have hlt : i < ps.length := by simp [cfgS, std] at g1; omega
        have hwr : rightS (at2 ps i) = true := by rw [at2_eq hlt]; exact hww _ (List.getElem_mem hlt)
        have hwp : wide (at2 ps i) = true := rightS_wide hwr
        have hr := right_low hwr
        have hd : ps.drop i = at2 ps i :: ps.drop (i + 1) := by rw [at2_eq hlt]; exact List.drop_eq_getElem_cons hlt
        have hq : hitQ ((ax, ay), (bx, b2)) ((cx, cy), (dx, dy)) (at2 ps i) = (onS (at2 ps i) ((ax, ay), (bx, b2)) && onS (at2 ps i) ((cx, cy), (dx, dy))) := rfl
        ((conv => whnf); refine bm (fun g2 => ?_) (fun g2 => ?_))
        · (conv => whnf)
          refine boL (getP ps hlt ?_) ?_
          · simp [cfgS, std]; omega
          repeat' ((conv => whnf); refine bm (fun g => ?_) (fun g => ?_))
          all_goals (conv => whnf)
          · rename_i ga _ gb _
            simp only [pEta, cA_eqB, beq_iff_eq] at ga gb
            have hf : firstP ((ax, ay), (bx, b2)) ((cx, cy), (dx, dy)) = some (at2 ps i) := by
              rw [hfirst, hb, hd, List.find?_cons, hq, show onS (at2 ps i) ((ax, ay), (bx, b2)) = true from ga, show onS (at2 ps i) ((cx, cy), (dx, dy)) = true from gb]
              rfl
            have hD : crD ((ax, ay), (bx, b2)) ((cx, cy), (dx, dy)) = (at2 ps i, 1) := by
              unfold crD
              rw [hf]
            refine Eq.trans ?_ hyes'.symm
            rw [hD]
            rfl
          · exact absurd (rat1_OK (n := (at2 ps i).2) (by omega)) (by rw [show ratOK (at2 ps i).2 1 = false from g]; decide)
          · exact absurd (rat1_OK (n := (at2 ps i).1) (by omega)) (by rw [show ratOK (at2 ps i).1 1 = false from g]; decide)
          · rename_i ga _ gb
            simp only [pEta, cA_eqB, beq_iff_eq] at ga gb
            refine ⟨4 - (i + 1), by omega, ?_⟩
            refine Into_id (e0 := e23 (j + 1)) (h0 := h23 ((ax, ay), (bx, b2)) ((cx, cy), (dx, dy)) ps) (n0 := 5) ⟨i + 1, j + 1, by omega, by omega, rfl, ?_, rfl, rfl, rfl⟩ ?_ ?_ (by decide)
            · rw [hb, hd, List.find?_cons, hq, show onS (at2 ps i) ((cx, cy), (dx, dy)) = false from gb, Bool.and_false]
            · unfold e23
              ((repeat' (refine List.forall_mem_cons.2 ⟨⟨rfl, ?_⟩, ?_⟩; (first | exact scT_g rfl | exact ⟨by decide, rfl⟩ | exact ⟨by decide, fun h => (by cases h)⟩))); exact fun _ h => (by cases h))
            · unfold h23
              ((repeat' (refine List.forall_mem_cons.2 ⟨⟨Nat.le_of_ble_eq_true rfl, _, rfl, ?_⟩, ?_⟩; (first | exact ObjRen_g (flat_g _ _) | exact ObjRen_j rfl rfl))); exact fun _ h => (by cases h))
          · exfalso; simp only [cA_add, cA_fits, fitsK, Bool.eq_false_iff, ne_eq, Bool.and_eq_true, decide_eq_true_eq] at g; omega
          · exfalso; simp only [pEta, hwp, w2] at g; cases g
          · rename_i ga
            simp only [pEta, cA_eqB, beq_eq_false_iff_ne, ne_eq, Bool.not_eq_true] at ga
            refine ⟨4 - (i + 1), by omega, ?_⟩
            refine Into_id (e0 := e23 (j + 1)) (h0 := h23 ((ax, ay), (bx, b2)) ((cx, cy), (dx, dy)) ps) (n0 := 5) ⟨i + 1, j + 1, by omega, by omega, rfl, ?_, rfl, rfl, rfl⟩ ?_ ?_ (by decide)
            · rw [hb, hd, List.find?_cons, hq, show onS (at2 ps i) ((ax, ay), (bx, b2)) = false from ga, Bool.false_and]
            · unfold e23
              ((repeat' (refine List.forall_mem_cons.2 ⟨⟨rfl, ?_⟩, ?_⟩; (first | exact scT_g rfl | exact ⟨by decide, rfl⟩ | exact ⟨by decide, fun h => (by cases h)⟩))); exact fun _ h => (by cases h))
            · unfold h23
              ((repeat' (refine List.forall_mem_cons.2 ⟨⟨Nat.le_of_ble_eq_true rfl, _, rfl, ?_⟩, ?_⟩; (first | exact ObjRen_g (flat_g _ _) | exact ObjRen_j rfl rfl))); exact fun _ h => (by cases h))
          · exfalso; simp only [cA_add, cA_fits, fitsK, Bool.eq_false_iff, ne_eq, Bool.and_eq_true, decide_eq_true_eq] at g; omega
          · exfalso; simp only [pEta, hwp, w1] at g; cases g
        · exfalso; simp only [cA_lt, cA_le, cA_andB, cA_num, Bool.eq_false_iff, ne_eq, Bool.and_eq_true, decide_eq_true_eq] at g1 g2; omega
      · have hge : i = ps.length := by simp [cfgS, std] at g1; omega
        subst hge
        rw [List.drop_length] at hb
        have hf : firstP ((ax, ay), (bx, b2)) ((cx, cy), (dx, dy)) = none := by rw [hfirst, hb]; rfl
        have hD : crD ((ax, ay), (bx, b2)) ((cx, cy), (dx, dy)) = (crN ((ax, ay), (bx, b2)) ((cx, cy), (dx, dy)), denS ((ax, ay), (bx, b2)) ((cx, cy), (dx, dy))) := by
          unfold crD
          rw [hf]
        have h3 : MeetV ((ax, ay), (bx, b2)) ((cx, cy), (dx, dy)) = 3 := meetV_three hs ht g0' g4' hf
        have hB := cr_B hs ht
        obtain ⟨o1, o2, o3⟩ := cr_OK h3
        obtain ⟨r1, r2, _⟩ := right_two hs
        obtain ⟨r3, r4, _⟩ := right_two ht
        have q1 := right_low r1
        have q2 := right_low r2
        have q3 := right_low r3
        have q4 := right_low r4
        simp only [denS, numS, dxS, dyS, crN] at hB o1 o2
        rw [hD] at hyes'
        clear hfirst hb hww g0' g4' h3 hf hD hs ht hm w1 w2 r1 r2 r3 r4 o3
        repeat' ((conv => whnf); refine bm (fun g => ?_) (fun g => ?_))
        all_goals (conv => whnf)
        all_goals first
          | (exact hyes'.symm)
          | (exfalso; simp only [cA_mul, cA_sub, cA_add, cA_fits, fitsK, Bool.eq_false_iff, ne_eq, Bool.and_eq_true, decide_eq_true_eq] at g; simp only at q1 q2 q3 q4; omega)
          | (exfalso; simp only [cA_mul, cA_sub, cA_add, o1, o2] at g; cases g; done)
          | trace_state
end Go.Aw
