/-
  Contracts: turns. No condition.
-/
import Derived.Test.YtagdfcdnfdpocaaGreatSe5
set_option linter.unusedSimpArgs false
set_option linter.unusedVariables false
noncomputable section
namespace Go.Aw
theorem mulB {a b A B : Int} (h1 : -A ≤ a) (h2 : a ≤ A) (h3 : -B ≤ b) (h4 : b ≤ B) : -(A * B) ≤ a * b ∧ a * b ≤ A * B := by
  have e1 := Int.mul_nonneg (show 0 ≤ A - a by omega) (show 0 ≤ B + b by omega)
  have e2 := Int.mul_nonneg (show 0 ≤ A + a by omega) (show 0 ≤ B - b by omega)
  have e3 := Int.mul_nonneg (show 0 ≤ A - a by omega) (show 0 ≤ B - b by omega)
  have e4 := Int.mul_nonneg (show 0 ≤ A + a by omega) (show 0 ≤ B + b by omega)
  simp only [Int.sub_mul, Int.mul_sub, Int.add_mul, Int.mul_add] at e1 e2 e3 e4
  omega
set_option maxRecDepth 100000
def X56 : Nat × XF := (56, gX (s1P fun p => (true, .bool (rightS p))))
theorem x56 : XOK Go.Proofs.Tryz.prog X56.1 X56.2 := x1P .nil (fun _ => rfl) fun p _ => by
  obtain ⟨x, y⟩ := p
  unfold Does1
  repeat' (conv => whnf
           refine bm (fun h => ?_) (fun h => ?_))
  all_goals (conv => whnf)
  all_goals (simp [cfgS, std] at *; simp [rightS, *] <;> omega)
def X133 : Nat × XF := (133, gX (s1I fun p => (true, .bool false)))
theorem x133 : XOK Go.Proofs.Tryz.prog X133.1 X133.2 := x1I .nil (fun _ => rfl) fun p _ => by
  unfold Does1
  repeat' (conv => whnf
           refine bm (fun h => ?_) (fun h => ?_))
  all_goals (conv => whnf)
  all_goals (simp [cfgS, std] at *)
def X101 : Nat × XF := (101, gX (s2I fun p q => (true, iv (cmpI p q))))
theorem x101 : XOK Go.Proofs.Tryz.prog X101.1 X101.2 := x2I (xl := [X133]) (.cons x133 .nil) (fun _ _ => rfl) fun p q _ => by
  unfold Does1
  repeat' (conv => whnf
           refine bm (fun h => ?_) (fun h => ?_))
  all_goals (conv => whnf)
  all_goals (simp [cfgS, std] at *; simp [cmpI, iv] <;> omega)
def X103 : Nat × XF := (103, gX (s1I fun p => (true, iv (sgn p))))
theorem x103 : XOK Go.Proofs.Tryz.prog X103.1 X103.2 := x1I .nil (fun _ => rfl) fun p _ => by
  unfold Does1
  repeat' (conv => whnf
           refine bm (fun h => ?_) (fun h => ?_))
  all_goals (conv => whnf)
  all_goals (simp [cfgS, std] at *; simp [sgn, iv] <;> omega)
def X102 : Nat × XF := (102, gX (s3P fun a b c => (wide a && wide b && wide c, iv (crossI a b c))))
theorem x102 : XOK Go.Proofs.Tryz.prog X102.1 X102.2 := x3P .nil (fun _ _ _ => rfl) fun a b c hp => by
  obtain ⟨ax, ay⟩ := a
  obtain ⟨bx, «by»⟩ := b
  obtain ⟨cx, cy⟩ := c
  simp only [wide, Bool.and_eq_true, decide_eq_true_eq] at hp
  have m1 := mulB (a := bx - ax) (b := cy - ay) (A := 2000000) (B := 2000000) (by omega) (by omega) (by omega) (by omega)
  have m2 := mulB (a := «by» - ay) (b := cx - ax) (A := 2000000) (B := 2000000) (by omega) (by omega) (by omega) (by omega)
  unfold Does1
  repeat' (conv => whnf
           refine bm (fun h => ?_) (fun h => ?_))
  all_goals (conv => whnf)
  all_goals (simp [cfgS, std, fitsK] at *)
  all_goals first | omega | simp [crossI, iv]
def X55 : Nat × XF := (55, gX (s3P fun a b c => (wide a && wide b && wide c, iv (turnS a b c))))
theorem x55 : XOK Go.Proofs.Tryz.prog X55.1 X55.2 := x3P (xl := [X101, X102]) (.cons x101 (.cons x102 .nil)) (fun _ _ _ => rfl) fun a b c hp => by
  obtain ⟨ax, ay⟩ := a
  obtain ⟨bx, «by»⟩ := b
  obtain ⟨cx, cy⟩ := c
  unfold Does1
  repeat' (conv => whnf
           refine bm (fun h => ?_) (fun h => ?_))
  all_goals (conv => whnf)
  all_goals (simp at *)
  · simp [turnS, cmpI, sgn, iv]
  · simp_all
def X57 : Nat × XF := (57, gX (s3P fun a b c => (wide a && wide b && wide c, iv (turnS a b c))))
theorem x57 : XOK Go.Proofs.Tryz.prog X57.1 X57.2 := x3P (xl := [X103]) (.cons x103 .nil) (fun _ _ _ => rfl) fun a b c hp => by
  obtain ⟨ax, ay⟩ := a
  obtain ⟨bx, «by»⟩ := b
  obtain ⟨cx, cy⟩ := c
  simp only [wide, Bool.and_eq_true, decide_eq_true_eq] at hp
  have m1 := mulB (a := bx - ax) (b := cy - ay) (A := 2000000) (B := 2000000) (by omega) (by omega) (by omega) (by omega)
  have m2 := mulB (a := «by» - ay) (b := cx - ax) (A := 2000000) (B := 2000000) (by omega) (by omega) (by omega) (by omega)
  unfold Does1
  repeat' (conv => whnf
           refine bm (fun h => ?_) (fun h => ?_))
  all_goals (conv => whnf)
  all_goals (simp [cfgS, std, fitsK] at *)
  all_goals first | omega | simp [turnS, crossI, sgn, iv]
def ErrV (n : Int) : Value := iv n
def X17 : Nat × XF := (17, gX (s1P fun p => (true, iv (if rightS p then 0 else 1))))
theorem x17 : XOK Go.Proofs.Tryz.prog X17.1 X17.2 := x1P (xl := [X58]) (.cons x58 .nil) (fun _ => rfl) fun p _ => by
  obtain ⟨x, y⟩ := p
  unfold Does1
  repeat' (conv => whnf
           refine bm (fun h => ?_) (fun h => ?_))
  all_goals (conv => whnf)
  all_goals (simp [cfgS, std] at *; simp [iv, *])
def X18 : Nat × XF := (18, gX (s1P fun p => (true, iv (if rightS p then 0 else 1))))
theorem x18 : XOK Go.Proofs.Tryz.prog X18.1 X18.2 := x1P (xl := [X56]) (.cons x56 .nil) (fun _ => rfl) fun p _ => by
  obtain ⟨x, y⟩ := p
  unfold Does1
  repeat' (conv => whnf
           refine bm (fun h => ?_) (fun h => ?_))
  all_goals (conv => whnf)
  all_goals (simp [cfgS, std] at *; simp [iv, *])
theorem rightS_wide {p : Int × Int} (h : rightS p = true) : wide p = true := by
  simp only [rightS, wide, Bool.and_eq_true, decide_eq_true_eq] at *
  omega
def tS (a b c : Int × Int) : Int := if rightS a && rightS b && rightS c then turnS a b c else 0
def X16 : Nat × XF := (16, gX (s3P fun a b c => (true, iv (tS a b c))))
theorem x16 : XOK Go.Proofs.Tryz.prog X16.1 X16.2 := x3P (xl := [X56, X57]) (.cons x56 (.cons x57 .nil)) (fun _ _ _ => rfl) fun a b c hp => by
  obtain ⟨ax, ay⟩ := a
  obtain ⟨bx, «by»⟩ := b
  obtain ⟨cx, cy⟩ := c
  unfold Does1
  repeat' (conv => whnf
           refine bm (fun h => ?_) (fun h => ?_))
  all_goals (conv => whnf)
  all_goals (clear hp; simp [cfgS, std, tS] at *)
  all_goals first | (simp [iv, *]; done) | (simp_all [rightS_wide])
def X100 : Nat × XF := (100, gX (s1P fun p => (true, .bool (!rightS p))))
theorem x100 : XOK Go.Proofs.Tryz.prog X100.1 X100.2 := x1P (xl := [X58]) (.cons x58 .nil) (fun _ => rfl) fun p _ => by
  obtain ⟨x, y⟩ := p
  unfold Does1
  repeat' (conv => whnf
           refine bm (fun h => ?_) (fun h => ?_))
  all_goals (conv => whnf)
  all_goals (simp [cfgS, std] at *)
end Go.Aw
