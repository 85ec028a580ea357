/-
  Above of both. No condition.
-/
import Derived.Test.YtagdfcdnfdpocaaGreatSe31
set_option linter.unusedSimpArgs false
set_option linter.unusedVariables false
noncomputable section
namespace Go.Aw
set_option maxRecDepth 100000
theorem cA_min (a b : Int) : cfgS.A.min a b = mn a b := rfl
def X77 : Nat × XF := (77, gX (s1 cS fun s => (true, .tuple #[iv (mn s.1.1 s.2.1), iv (mx s.1.1 s.2.1)])))
theorem x77 : XOK Go.Proofs.Tryz.prog X77.1 X77.2 := x1 cS (xl := []) .nil (fun _ => rfl) fun s _ => by
  obtain ⟨⟨ax, ay⟩, ⟨bx, b2⟩⟩ := s
  unfold Does1
  repeat' ((conv => whnf); refine bm (fun g => ?_) (fun g => ?_))
  all_goals (conv => whnf)
  all_goals first | (rfl; done) | trace_state
/-- the reference's ends: by x alone -/
def loE (s : Sg) : Int × Int := if s.2.1 < s.1.1 then s.2 else s.1
def hiE (s : Sg) : Int × Int := if s.2.1 < s.1.1 then s.1 else s.2
def hatS (s : Sg) (x den : Int) : Int × Int := ((loE s).2 * ((hiE s).1 - (loE s).1) * den + ((hiE s).2 - (loE s).2) * (x - (loE s).1 * den), ((hiE s).1 - (loE s).1) * den)
def denOK (d : Int) : Bool := decide (0 ≤ d) && decide (d ≤ 2)
theorem hat_B {a b : Int × Int} (ha : rightS a = true) (hb : rightS b = true) {x d : Int} (h1 : 0 ≤ x) (h2 : x ≤ 20000) (h3 : 0 ≤ d) (h4 : d ≤ 2) :
    (-100000000 ≤ a.2 * (b.1 - a.1) ∧ a.2 * (b.1 - a.1) ≤ 100000000) ∧ (-200000000 ≤ a.2 * (b.1 - a.1) * d ∧ a.2 * (b.1 - a.1) * d ≤ 200000000) ∧ (-20000 ≤ a.1 * d ∧ a.1 * d ≤ 20000) ∧
    (-400000000 ≤ (b.2 - a.2) * (x - a.1 * d) ∧ (b.2 - a.2) * (x - a.1 * d) ≤ 400000000) ∧ (-20000 ≤ (b.1 - a.1) * d ∧ (b.1 - a.1) * d ≤ 20000) := by
  obtain ⟨a1, a2, a3, a4⟩ := right_low ha
  obtain ⟨b1, b2, b3, b4⟩ := right_low hb
  have m1 := mulB (a := a.2) (b := b.1 - a.1) (A := 10000) (B := 10000) (by omega) (by omega) (by omega) (by omega)
  have m2 := mulB (a := a.2 * (b.1 - a.1)) (b := d) (A := 100000000) (B := 2) (by omega) (by omega) (by omega) (by omega)
  have m3 := mulB (a := a.1) (b := d) (A := 10000) (B := 2) (by omega) (by omega) (by omega) (by omega)
  have m4 := mulB (a := b.2 - a.2) (b := x - a.1 * d) (A := 10000) (B := 40000) (by omega) (by omega) (by omega) (by omega)
  have m5 := mulB (a := b.1 - a.1) (b := d) (A := 10000) (B := 2) (by omega) (by omega) (by omega) (by omega)
  refine ⟨?_, ?_, ?_, ?_, ?_⟩ <;> omega
def X79 : Nat × XF := (79, gX (s3 cS cI cI fun s x d => (rightW s && xOK x && denOK d, ptv (hatS s x d))))
theorem x79 : XOK Go.Proofs.Tryz.prog X79.1 X79.2 := x3 cS cI cI (xl := []) .nil (fun _ _ _ => rfl) fun s x d hp => by
  simp only [Bool.and_eq_true, rightW, xOK, denOK, decide_eq_true_eq] at hp
  obtain ⟨⟨⟨ha, hb⟩, hx⟩, hd⟩ := hp
  have h1 := hat_B ha hb hx.1 hx.2 hd.1 hd.2
  have h2 := hat_B hb ha hx.1 hx.2 hd.1 hd.2
  have la := right_low ha
  have lb := right_low hb
  clear ha hb
  obtain ⟨⟨ax, ay⟩, ⟨bx, b2⟩⟩ := s
  unfold Does1
  repeat' ((conv => whnf); refine bm (fun g => ?_) (fun g => ?_))
  all_goals (conv => whnf)
  all_goals (simp only [cA_mul, cA_sub, cA_add, cA_fits, cA_lt, fitsK, pEta, Bool.eq_false_iff, ne_eq, Bool.and_eq_true, decide_eq_true_eq] at *)
  all_goals first
    | (simp only [hatS, loE, hiE, *, if_true, if_false]; rfl; done)
    | omega
    | (rw [k1 (by rw [hok]; clear k1 k2 hx hei1 hei2 w1 w2 w3 w4 hok; simp [vertS, *])]; rfl)
    | trace_state
theorem ends_lo {s : Sg} (hv : vertS s = false) : endsS s = (loE s, hiE s) := by
  simp only [vertS, decide_eq_false_iff_not] at hv
  have ho := ordS_le s.1 s.2
  unfold endsS loE hiE
  by_cases h : s.2.1 < s.1.1
  · rw [if_pos (show 0 < ordS s.1 s.2 by omega), if_pos h, if_pos h]
  · rw [if_neg (show ¬ 0 < ordS s.1 s.2 by omega), if_neg h, if_neg h]
theorem hat_hei {s : Sg} (hv : vertS s = false) (x : Int) : hatS s x 2 = heiS s x := by
  unfold hatS heiS atH
  rw [ends_lo hv]
  simp only
  apply Prod.ext
  · simp only
    rw [Int.mul_assoc 2, Int.mul_comm 2 ((loE s).2 * _), Int.mul_comm 2 (loE s).1]
  · exact Int.mul_comm _ _
theorem ends_mn {s : Sg} (hv : vertS s = false) : (endsS s).1.1 = mn s.1.1 s.2.1 ∧ (endsS s).2.1 = mx s.1.1 s.2.1 := by
  rw [ends_lo hv]
  unfold loE hiE mn mx
  by_cases h : s.2.1 < s.1.1 <;> by_cases h2 : s.1.1 < s.2.1 <;> simp [h, h2] <;> omega
def AboveV (s t : Sg) : Value := .tuple #[iv (abN s t), .bool (abOk s t)]
theorem above_no {s t : Sg} (h : abOk s t = false) : AboveV s t = .tuple #[iv 0, .bool false] := by
  simp only [AboveV, abN, h, Bool.false_eq_true, if_false]
theorem above_yes {s t : Sg} (h : abOk s t = true) : AboveV s t = .tuple #[iv (cmpH (heiS s (fromX s t + toX s t)) (heiS t (fromX s t + toX s t))), .bool true] := by
  simp only [AboveV, abN, h, if_true]
theorem x_OK {s t : Sg} (hs : rightG s = true) (ht : rightG t = true) : xOK (fromX s t + toX s t) = true ∧ 0 ≤ fromX s t ∧ fromX s t ≤ 10000 ∧ 0 ≤ toX s t ∧ toX s t ≤ 10000 := by
  obtain ⟨ra, rb, _⟩ := ends_key s hs
  obtain ⟨rc, rd, _⟩ := ends_key t ht
  have la := right_low ra
  have lb := right_low rb
  have lc := right_low rc
  have ld := right_low rd
  have h : 0 ≤ fromX s t ∧ fromX s t ≤ 10000 ∧ 0 ≤ toX s t ∧ toX s t ≤ 10000 := by
    unfold fromX toX mx mn
    split <;> split <;> omega
  refine ⟨?_, h⟩
  simp only [xOK, Bool.and_eq_true, decide_eq_true_eq]
  omega
theorem rightG_W {s : Sg} (h : rightG s = true) : rightW s = true := by
  simp only [rightG, rightW, Bool.and_eq_true] at *
  exact h.1
def X26 : Nat × XF := (26, gX (s2 cS cS fun s t => (true, AboveV s t)))
theorem x26 : XOK Go.Proofs.Tryz.prog X26.1 X26.2 := x2 cS cS (xl := [X64, X73, X74, X68, X75, X76]) (.cons x64 (.cons x73 (.cons x74 (.cons x68 (.cons x75 (.cons x76 .nil)))))) (fun _ _ => rfl) fun s t _ => by
  have hmn : toX s t = mn (endsS s).2.1 (endsS t).2.1 := rfl
  have hmx : fromX s t = mx (endsS s).1.1 (endsS t).1.1 := rfl
  have hx := @x_OK s t
  have k1 := @above_no s t
  have k2 := @above_yes s t
  have hei1 := @hei_OK s
  have hei2 := @hei_OK t
  have hok : abOk s t = (rightG s && rightG t && !(vertS s) && !(vertS t) && decide (fromX s t < toX s t) && !(hitS s t)) := rfl
  have hhit : hitS s t = (decide (meetS s t = 3) || decide (meetS s t = 4)) := rfl
  have w1 := @rightG_wide s
  have w2 := @rightG_wide t
  have w3 := @rightG_W s
  have w4 := @rightG_W t
  obtain ⟨⟨ax, ay⟩, ⟨bx, b2⟩⟩ := s
  obtain ⟨⟨cx, cy⟩, ⟨dx, dy⟩⟩ := t
  unfold Does1
  repeat' ((conv => whnf); refine bm (fun g => ?_) (fun g => ?_))
  all_goals (conv => whnf)
  all_goals (simp only [cA_eq, cA_eqB, cA_notB, cA_le, cA_lt, cA_min, cA_max, cA_add, cA_fits, fitsK, Bool.not_eq_true', beq_iff_eq, beq_eq_false_iff_ne, ne_eq, Bool.not_eq_false, Bool.not_eq_true, Bool.not_eq_false', decide_eq_true_eq, decide_eq_false_iff_not, pEta, ← hmn, ← hmx] at *)
  all_goals first
    | (rw [k1 (by rw [hok]; clear k1 k2 hx hei1 hei2 w1 w2 w3 w4 hok; simp [vertS, *] <;> intros <;> omega)]; rfl)
    | (rw [k2 (by rw [hok]; clear k1 k2 hx hei1 hei2 w1 w2 w3 w4 hok; simp [vertS, *]; omega)]; done)
    | (exfalso
       have h1 := hx (by assumption) (by assumption)
       have h2 := w3 (by assumption)
       have h3 := w4 (by assumption)
       have h4 := w1 (by assumption)
       have h5 := w2 (by assumption)
       have h6 := hei1 h2 h1.1
       have h7 := hei2 h3 h1.1
       first
         | (simp [h2, h3, h4, h5, h6, h7, h1.1] at g; done)
         | (simp only [Bool.and_eq_false_iff, decide_eq_false_iff_not] at g; omega)
         | (simp_all; done))
    | trace_state
end Go.Aw
