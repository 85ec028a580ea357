/-
  Above: the reference's. No condition.
-/
import Derived.Test.YtagdfcdnfdpocaaGreatSe32
set_option linter.unusedSimpArgs false
set_option linter.unusedVariables false
noncomputable section
namespace Go.Aw
set_option maxRecDepth 100000
def X27 : Nat × XF := (27, gX (s2 cS cS fun s t => (true, AboveV s t)))
theorem x27 : XOK Go.Proofs.Tryz.prog X27.1 X27.2 := x2 cS cS (xl := [X66, X72', X77, X79, X78]) (.cons x66 (.cons x72' (.cons x77 (.cons x79 (.cons x78 .nil))))) (fun _ _ => rfl) fun s t _ => by
  have hmn : vertS s = false → vertS t = false → mn (mx s.1.1 s.2.1) (mx t.1.1 t.2.1) = toX s t := fun h1 h2 => by rw [← (ends_mn h1).2, ← (ends_mn h2).2]; rfl
  have hmx : vertS s = false → vertS t = false → mx (mn s.1.1 s.2.1) (mn t.1.1 t.2.1) = fromX s t := fun h1 h2 => by rw [← (ends_mn h1).1, ← (ends_mn h2).1]; rfl
  have hh1 := @hat_hei s
  have hh2 := @hat_hei t
  have hx := @x_OK s t
  have k1 := @above_no s t
  have k2 := @above_yes s t
  have hei1 := @hei_OK s
  have hei2 := @hei_OK t
  have hok : abOk s t = (rightG s && rightG t && !(vertS s) && !(vertS t) && decide (fromX s t < toX s t) && !(hitS s t)) := rfl
  have hhit : hitS s t = (decide (meetS s t = 3) || decide (meetS s t = 4)) := rfl
  have w1 := @rightG_wide s
  have w2 := @rightG_wide t
  have w3 := @rightG_W s
  have w4 := @rightG_W t
  obtain ⟨⟨ax, ay⟩, ⟨bx, b2⟩⟩ := s
  obtain ⟨⟨cx, cy⟩, ⟨dx, dy⟩⟩ := t
  unfold Does1
  repeat' ((conv => whnf); refine bm (fun g => ?_) (fun g => ?_))
  all_goals (conv => whnf)
  all_goals (simp only [cA_eq, cA_eqB, cA_notB, cA_le, cA_lt, cA_min, cA_max, cA_add, cA_fits, fitsK, Bool.not_eq_true', beq_iff_eq, beq_eq_false_iff_ne, ne_eq, Bool.not_eq_false, Bool.not_eq_true, Bool.not_eq_false', decide_eq_true_eq, decide_eq_false_iff_not, pEta] at *)
  all_goals (simp only [vertS, decide_eq_false_iff_not] at hmn hmx hh1 hh2)
  all_goals (try (have u1 := hmn (by assumption) (by assumption); have u2 := hmx (by assumption) (by assumption); have u3 := hh1 (by assumption); have u4 := hh2 (by assumption); simp only [u1, u2, u3, u4] at *))
  all_goals first
    | (rw [k1 (by rw [hok]; clear k1 k2 hx hei1 hei2 w1 w2 w3 w4 hok; simp [vertS, *] <;> intros <;> omega)]; rfl)
    | (rw [k2 (by rw [hok]; clear k1 k2 hx hei1 hei2 w1 w2 w3 w4 hok; simp [vertS, *]; omega)]; done)
    | (exfalso
       have h1 := hx (by assumption) (by assumption)
       have h2 := w3 (by assumption)
       have h3 := w4 (by assumption)
       have h6 := hei1 h2 h1.1
       have h7 := hei2 h3 h1.1
       first
         | (simp [h2, h3, h6, h7, h1.1, denOK] at g; done)
         | (simp only [Bool.and_eq_false_iff, decide_eq_false_iff_not] at g; omega)
         | (obtain ⟨h8, h9⟩ := h1; clear hx k1 k2 hok hei1 hei2 w1 w2 w3 w4 hmn hmx hh1 hh2 u1 u2 u3 u4 hhit; simp_all [rightT, denOK]; done)
         | (obtain ⟨h8, h9⟩ := h1; clear hx k1 k2 hok hei1 hei2 w1 w2 w3 w4 hmn hmx hh1 hh2 u1 u2 u3 u4 hhit; simp only [Bool.and_eq_false_iff, decide_eq_false_iff_not] at *; omega))
    | trace_state
end Go.Aw
