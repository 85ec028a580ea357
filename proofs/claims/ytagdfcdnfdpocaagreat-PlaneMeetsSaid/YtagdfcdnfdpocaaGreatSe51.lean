/-
  Cross: the reference's. No condition.
-/
import Derived.Test.YtagdfcdnfdpocaaGreatSe50
set_option linter.unusedSimpArgs false
set_option linter.unusedVariables false
noncomputable section
namespace Go.Aw
set_option maxRecDepth 100000
theorem sEta' (s : Sg) : (s.1, s.2) = s := rfl
def X24 : Nat × XF := (24, gX (s2 cS cS fun s t => (true, CrossV s t)))
attribute [local irreducible] MeetV endsL ratV CrossV in
theorem x24 : XOK Go.Proofs.Tryz.prog X24.1 X24.2 := x2 cS cS (xl := [X25, X70, X71]) (.cons x25 (.cons x70 (.cons x71 .nil))) (fun _ _ => by unfold CrossV; rfl) fun s t _ => by
  have hok : crOk s t = (decide (MeetV s t ≠ 0) && decide (MeetV s t ≠ 4)) := rfl
  have hno := @CrossV_no s t
  have hyes := @CrossV_yes s t
  have hR := @MeetV_right s t
  have hone := @ends_one s t
  have hfh := @first_head s t
  have hB := @cr_B s t
  have hcr := @cr_OK s t
  have hcs := meetR_cases s t
  have hme := meet_eq s t
  have h3n := @meetR_three s t
  obtain ⟨⟨ax, ay⟩, ⟨bx, b2⟩⟩ := s
  obtain ⟨⟨cx, cy⟩, ⟨dx, dy⟩⟩ := t
  unfold Does1
  ((conv => whnf); refine bm (fun g1 => ?_) (fun g1 => ?_))
  · ((conv => whnf); refine bm (fun g2 => ?_) (fun g2 => ?_))
    · have hk : MeetV ((ax, ay), (bx, b2)) ((cx, cy), (dx, dy)) = 2 := by simpa only [cA_eq, cA_eqB, beq_eq_false_iff_ne, ne_eq, Bool.not_eq_false, decide_eq_true_eq] using g2
      obtain ⟨hs, ht, hm⟩ := hR (by omega)
      have hyes' := hyes (by rw [hok, hk]; rfl)
      obtain ⟨p, hp⟩ := hone hs ht (by omega)
      have hpm : p ∈ endsL ((ax, ay), (bx, b2)) ((cx, cy), (dx, dy)) := by rw [hp]; exact List.mem_singleton.2 rfl
      have hpr := right_low (hit_right hs (ends_mem.1 hpm).2.1)
      have hD : crD ((ax, ay), (bx, b2)) ((cx, cy), (dx, dy)) = (p, 1) := by
        unfold crD
        rw [hfh hs ht, hp]
        rfl
      ((conv => whnf); refine bm (fun g4 => ?_) (fun g4 => ?_))
      · (conv => whnf)
        generalize he : endsL _ _ = L
        have hL : L = [p] := he.symm.trans hp
        subst hL
        ((conv => whnf); refine bm (fun g5 => ?_) (fun g5 => ?_))
        · ((conv => whnf); refine bm (fun g6 => ?_) (fun g6 => ?_))
          · (conv => whnf)
            refine Eq.trans ?_ hyes'.symm
            rw [hD]
            rfl
          · exact absurd (rat1_OK (n := p.2) (by omega)) (by rw [show ratOK p.2 1 = false from g6]; decide)
        · exact absurd (rat1_OK (n := p.1) (by omega)) (by rw [show ratOK p.1 1 = false from g5]; decide)
      · exfalso; simp only [pEta, sEta', rightG_wide hs, rightG_wide ht] at g4; cases g4
    · ((conv => whnf); refine bm (fun g3 => ?_) (fun g3 => ?_))
      · (conv => whnf)
        refine Eq.trans ?_ (hno ?_).symm
        · rfl
        · simp only [cA_eq, cA_eqB, cA_notB, beq_iff_eq, Bool.not_eq_true', decide_eq_false_iff_not, pEta, sEta'] at g1 g2 g3
          rw [hok]
          by_cases h0 : MeetV ((ax, ay), (bx, b2)) ((cx, cy), (dx, dy)) = 0
          · rw [h0]; rfl
          · have h4 : MeetV ((ax, ay), (bx, b2)) ((cx, cy), (dx, dy)) = 4 := by
              obtain ⟨hs, ht, hm⟩ := hR h0
              rw [← hme hs ht] at hcs
              omega
            rw [h4]; rfl
      · have h3 : MeetV ((ax, ay), (bx, b2)) ((cx, cy), (dx, dy)) = 3 := by simpa only [cA_eq, cA_notB, Bool.not_eq_false', decide_eq_true_eq] using g3
        obtain ⟨hs, ht, hm⟩ := hR (by omega)
        have hyes' := hyes (by rw [hok, h3]; rfl)
        have hD : crD ((ax, ay), (bx, b2)) ((cx, cy), (dx, dy)) = (crN ((ax, ay), (bx, b2)) ((cx, cy), (dx, dy)), denS ((ax, ay), (bx, b2)) ((cx, cy), (dx, dy))) := by
          unfold crD
          rw [hfh hs ht, h3n (by rw [← hme hs ht]; omega)]
          rfl
        have hB' := hB hs ht
        obtain ⟨o1, o2, o3⟩ := hcr h3
        obtain ⟨r1, r2, _⟩ := right_two hs
        obtain ⟨r3, r4, _⟩ := right_two ht
        have q1 := right_low r1
        have q2 := right_low r2
        have q3 := right_low r3
        have q4 := right_low r4
        simp only [denS, numS, dxS, dyS, crN] at hB' o1 o2
        rw [hD] at hyes'
        clear g1 g2 g3 h3 hB hcr hno hyes hok hR hone hfh hcs hme h3n hD hs ht hm r1 r2 r3 r4 o3
        repeat' ((conv => whnf); refine bm (fun g => ?_) (fun g => ?_))
        all_goals (conv => whnf)
        all_goals first
          | (exact hyes'.symm)
          | (exfalso; simp only [cA_mul, cA_sub, cA_add, cA_fits, fitsK, Bool.eq_false_iff, ne_eq, Bool.and_eq_true, decide_eq_true_eq] at g; simp only at q1 q2 q3 q4; omega)
          | (exfalso; simp only [cA_mul, cA_sub, cA_add, o1, o2] at g; cases g; done)
          | trace_state
  · have hk : MeetV ((ax, ay), (bx, b2)) ((cx, cy), (dx, dy)) = 1 := by simpa only [cA_eq, cA_eqB, beq_eq_false_iff_ne, ne_eq, Bool.not_eq_false, decide_eq_true_eq] using g1
    obtain ⟨hs, ht, hm⟩ := hR (by omega)
    have hyes' := hyes (by rw [hok, hk]; rfl)
    obtain ⟨p, hp⟩ := hone hs ht (by omega)
    have hpm : p ∈ endsL ((ax, ay), (bx, b2)) ((cx, cy), (dx, dy)) := by rw [hp]; exact List.mem_singleton.2 rfl
    have hpr := right_low (hit_right hs (ends_mem.1 hpm).2.1)
    have hD : crD ((ax, ay), (bx, b2)) ((cx, cy), (dx, dy)) = (p, 1) := by
      unfold crD
      rw [hfh hs ht, hp]
      rfl
    ((conv => whnf); refine bm (fun g4 => ?_) (fun g4 => ?_))
    · (conv => whnf)
      generalize he : endsL _ _ = L
      have hL : L = [p] := he.symm.trans hp
      subst hL
      ((conv => whnf); refine bm (fun g5 => ?_) (fun g5 => ?_))
      · ((conv => whnf); refine bm (fun g6 => ?_) (fun g6 => ?_))
        · (conv => whnf)
          refine Eq.trans ?_ hyes'.symm
          rw [hD]
          rfl
        · exact absurd (rat1_OK (n := p.2) (by omega)) (by rw [show ratOK p.2 1 = false from g6]; decide)
      · exact absurd (rat1_OK (n := p.1) (by omega)) (by rw [show ratOK p.1 1 = false from g5]; decide)
    · exfalso; simp only [pEta, sEta', rightG_wide hs, rightG_wide ht] at g4; cases g4
end Go.Aw
