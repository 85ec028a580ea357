/-
  Quicker arithmetic for the kernel. No condition.
-/
import Derived.Test.YtagdfcdnfdpocaaGreatAw38
set_option linter.unusedSimpArgs false
set_option linter.unusedVariables false
noncomputable section
namespace Go.Aw
def ltF : Int → Int → Bool
  | .ofNat m, .ofNat n => Nat.blt m n
  | .ofNat _, .negSucc _ => false
  | .negSucc _, .ofNat _ => true
  | .negSucc m, .negSucc n => Nat.blt n m
def leF : Int → Int → Bool
  | .ofNat m, .ofNat n => Nat.ble m n
  | .ofNat _, .negSucc _ => false
  | .negSucc _, .ofNat _ => true
  | .negSucc m, .negSucc n => Nat.ble n m
def eqF : Int → Int → Bool
  | .ofNat m, .ofNat n => Nat.beq m n
  | .ofNat _, .negSucc _ => false
  | .negSucc _, .ofNat _ => false
  | .negSucc m, .negSucc n => Nat.beq m n
def fitsF : IntKind → Int → Bool
  | .i64, .ofNat m => Nat.ble m 9223372036854775807
  | .i64, .negSucc m => Nat.ble m 9223372036854775807
  | k, n => fitsK k n
theorem blt_dec (m n : Nat) : Nat.blt m n = decide (m < n) := by
  cases h : Nat.blt m n with
  | true => exact (decide_eq_true (blt_true h)).symm
  | false =>
    refine (decide_eq_false fun hl => ?_).symm
    have : Nat.blt m n = true := Nat.ble_eq_true_of_le hl
    rw [h] at this; cases this
theorem ble_dec (m n : Nat) : Nat.ble m n = decide (m ≤ n) := by
  cases h : Nat.ble m n with
  | true => exact (decide_eq_true (Nat.le_of_ble_eq_true h)).symm
  | false =>
    refine (decide_eq_false fun hl => ?_).symm
    have : Nat.ble m n = true := Nat.ble_eq_true_of_le hl
    rw [h] at this; cases this
theorem beq_dec (m n : Nat) : Nat.beq m n = decide (m = n) := by
  cases h : Nat.beq m n with
  | true => exact (decide_eq_true (beq_true h)).symm
  | false => exact (decide_eq_false (beq_false h)).symm
theorem ltF_eq (a b : Int) : ltF a b = decide (a < b) := by
  rw [Bool.eq_iff_iff]
  cases a <;> cases b <;> simp only [ltF, blt_dec, decide_eq_true_eq, Int.ofNat_eq_natCast, Int.negSucc_eq, Bool.false_eq_true, false_iff, true_iff] <;> omega
theorem leF_eq (a b : Int) : leF a b = decide (a ≤ b) := by
  rw [Bool.eq_iff_iff]
  cases a <;> cases b <;> simp only [leF, ble_dec, decide_eq_true_eq, Int.ofNat_eq_natCast, Int.negSucc_eq, Bool.false_eq_true, false_iff, true_iff] <;> omega
theorem eqF_eq (a b : Int) : eqF a b = decide (a = b) := by
  rw [Bool.eq_iff_iff]
  cases a <;> cases b <;> simp only [eqF, beq_dec, decide_eq_true_eq, Int.ofNat_eq_natCast, Int.negSucc_eq, Bool.false_eq_true, false_iff, true_iff] <;> omega
theorem fitsF_eq (k : IntKind) (n : Int) : fitsF k n = fitsK k n := by
  cases k <;> try rfl
  rw [Bool.eq_iff_iff]
  cases n <;> simp only [fitsF, fitsK, ble_dec, Bool.and_eq_true, decide_eq_true_eq, Int.ofNat_eq_natCast, Int.negSucc_eq] <;> omega
def fastA : Ar := { std with
  add := Int.add, sub := Int.sub, mul := Int.mul
  lt := ltF, le := leF, eq := eqF, fits := fitsF
  ix := fun o i s => Nat.add o (Nat.mul i.toNat s)
  num := Int.ofNat, toN := Int.toNat, subN := Nat.sub }
theorem fastA_eq : fastA = std := by
  unfold fastA
  rw [show ltF = std.lt from funext fun a => funext fun b => ltF_eq a b, show leF = std.le from funext fun a => funext fun b => leF_eq a b,
    show eqF = std.eq from funext fun a => funext fun b => eqF_eq a b, show fitsF = std.fits from funext fun a => funext fun b => fitsF_eq a b]
  rfl
end Go.Aw
