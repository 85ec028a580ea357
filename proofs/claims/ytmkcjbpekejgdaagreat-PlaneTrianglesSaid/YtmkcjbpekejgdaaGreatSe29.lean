/-
  Heights of segments: both. No condition.
-/
import Derived.Test.YtmkcjbpekejgdaaGreatSeE
set_option linter.unusedSimpArgs false
set_option linter.unusedVariables false
noncomputable section
namespace Go.Aw
set_option maxRecDepth 100000
def X73 : Nat × XF := (125, gX (s1 cS fun s => (true, .bool (decide (s.1.1 = s.2.1)))))
theorem x73 : XOK Go.Proofs.Tryz.prog X73.1 X73.2 := x1 cS (xl := []) .nil (fun _ => rfl) fun s _ => by
  obtain ⟨⟨ax, ay⟩, ⟨bx, b2⟩⟩ := s
  unfold Does1
  (conv => whnf)
  rfl
def hOK (h : Int × Int) : Bool := decide (-10000000000 ≤ h.1) && decide (h.1 ≤ 10000000000) && decide (-1000000 ≤ h.2) && decide (h.2 ≤ 1000000)
theorem hOK_iff {h : Int × Int} (e : hOK h = true) : -10000000000 ≤ h.1 ∧ h.1 ≤ 10000000000 ∧ -1000000 ≤ h.2 ∧ h.2 ≤ 1000000 := by
  simp only [hOK, Bool.and_eq_true, decide_eq_true_eq] at e
  omega
def cmpH (h o : Int × Int) : Int := cmpI (h.1 * o.2) (o.1 * h.2)
def X76 : Nat × XF := (107, gX (s2 cP cP fun h o => (hOK h && hOK o, iv (cmpH h o))))
theorem x76 : XOK Go.Proofs.Tryz.prog X76.1 X76.2 := x2 cP cP (xl := [X101]) (.cons x101 .nil) (fun _ _ => rfl) fun h o hp => by
  obtain ⟨a, b⟩ := h
  obtain ⟨c, d⟩ := o
  simp only [Bool.and_eq_true] at hp
  obtain ⟨a1, a2, b1, b2⟩ := hOK_iff hp.1
  obtain ⟨c1, c2, d1, d2⟩ := hOK_iff hp.2
  have m1 := mulB (A := 10000000000) (B := 1000000) a1 a2 d1 d2
  have m2 := mulB (A := 10000000000) (B := 1000000) c1 c2 b1 b2
  unfold Does1
  repeat' ((conv => whnf); refine bm (fun g => ?_) (fun g => ?_))
  all_goals (conv => whnf)
  all_goals first
    | (rfl; done)
    | (simp only [cA_mul, cA_fits, fitsK, Bool.eq_false_iff, ne_eq, Bool.and_eq_true, decide_eq_true_eq] at g; simp only at m1 m2; omega)
theorem cmp_sgn (a b : Int) : sgn (a - b) = cmpI a b := by
  unfold sgn cmpI
  split <;> split <;> (try split) <;> (try split) <;> omega
def X78 : Nat × XF := (111, gX (s2 cP cP fun h o => (hOK h && hOK o, iv (cmpH h o))))
theorem x78 : XOK Go.Proofs.Tryz.prog X78.1 X78.2 := x2 cP cP (xl := [X103]) (.cons x103 .nil) (fun _ _ => rfl) fun h o hp => by
  obtain ⟨a, b⟩ := h
  obtain ⟨c, d⟩ := o
  simp only [Bool.and_eq_true] at hp
  obtain ⟨a1, a2, b1, b2⟩ := hOK_iff hp.1
  obtain ⟨c1, c2, d1, d2⟩ := hOK_iff hp.2
  have m1 := mulB (A := 10000000000) (B := 1000000) a1 a2 d1 d2
  have m2 := mulB (A := 10000000000) (B := 1000000) c1 c2 b1 b2
  unfold Does1
  repeat' ((conv => whnf); refine bm (fun g => ?_) (fun g => ?_))
  all_goals (conv => whnf)
  all_goals first
    | (rw [cmpH, ← cmp_sgn]; rfl; done)
    | (simp only [cA_mul, cA_sub, cA_fits, fitsK, Bool.eq_false_iff, ne_eq, Bool.and_eq_true, decide_eq_true_eq] at g; simp only at m1 m2; omega)
/-! ### the height over a place -/
def atH (a b : Int × Int) (x2 : Int) : Int × Int := (2 * a.2 * (b.1 - a.1) + (b.2 - a.2) * (x2 - 2 * a.1), 2 * (b.1 - a.1))
def heiS (s : Sg) (x2 : Int) : Int × Int := atH (endsS s).1 (endsS s).2 x2
def xOK (x2 : Int) : Bool := decide (0 ≤ x2) && decide (x2 ≤ 20000)
def rightW (s : Sg) : Bool := rightS s.1 && rightS s.2
theorem ends_right {s : Sg} (h : rightW s = true) : rightS (endsS s).1 = true ∧ rightS (endsS s).2 = true := by
  simp only [rightW, Bool.and_eq_true] at h
  unfold endsS
  split
  · exact ⟨h.2, h.1⟩
  · exact h
theorem atH_B {a b : Int × Int} (ha : rightS a = true) (hb : rightS b = true) {x2 : Int} (h1 : 0 ≤ x2) (h2 : x2 ≤ 20000) :
    -200000000 ≤ 2 * a.2 * (b.1 - a.1) ∧ 2 * a.2 * (b.1 - a.1) ≤ 200000000 ∧ -400000000 ≤ (b.2 - a.2) * (x2 - 2 * a.1) ∧ (b.2 - a.2) * (x2 - 2 * a.1) ≤ 400000000 := by
  obtain ⟨a1, a2, a3, a4⟩ := right_low ha
  obtain ⟨b1, b2, b3, b4⟩ := right_low hb
  have m1 := mulB (a := 2 * a.2) (b := b.1 - a.1) (A := 20000) (B := 10000) (by omega) (by omega) (by omega) (by omega)
  have m2 := mulB (a := b.2 - a.2) (b := x2 - 2 * a.1) (A := 10000) (B := 40000) (by omega) (by omega) (by omega) (by omega)
  omega
theorem hei_OK {s : Sg} (h : rightW s = true) {x2 : Int} (hx : xOK x2 = true) : hOK (heiS s x2) = true := by
  obtain ⟨ha, hb⟩ := ends_right h
  simp only [xOK, Bool.and_eq_true, decide_eq_true_eq] at hx
  have := atH_B ha hb hx.1 hx.2
  obtain ⟨a1, a2, a3, a4⟩ := right_low ha
  obtain ⟨b1, b2, b3, b4⟩ := right_low hb
  unfold hOK heiS atH
  simp only [Bool.and_eq_true, decide_eq_true_eq]
  omega
def X75 : Nat × XF := (104, gX (s2 cS cI fun s x2 => (rightW s && xOK x2, ptv (heiS s x2))))
theorem x75 : XOK Go.Proofs.Tryz.prog X75.1 X75.2 := x2 cS cI (xl := [X74]) (.cons x74 .nil) (fun _ _ => rfl) fun s x2 hp => by
  simp only [Bool.and_eq_true] at hp
  obtain ⟨ha, hb⟩ := ends_right hp.1
  have hx := hp.2
  simp only [xOK, Bool.and_eq_true, decide_eq_true_eq] at hx
  have hB := atH_B ha hb hx.1 hx.2
  have la := right_low ha
  have lb := right_low hb
  have he : heiS s x2 = atH (endsS s).1 (endsS s).2 x2 := rfl
  clear hp ha hb
  obtain ⟨⟨ax, ay⟩, ⟨bx, b2⟩⟩ := s
  unfold Does1
  repeat' ((conv => whnf); refine bm (fun g => ?_) (fun g => ?_))
  all_goals (conv => whnf)
  all_goals first
    | (rfl; done)
    | (simp only [cA_mul, cA_sub, cA_add, cA_fits, fitsK, pEta, Bool.eq_false_iff, ne_eq, Bool.and_eq_true, decide_eq_true_eq] at g; omega)
end Go.Aw
