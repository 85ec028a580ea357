/-
  Slices: parts of them, and appending. No condition.
-/
import Derived.Test.YtagdfcdnfdpocaaGreatAw9
set_option linter.unusedSimpArgs false
set_option linter.unusedVariables false
noncomputable section
namespace Go.Aw
open Go.RowKit

def rem (h : Heap) (k : Nat) : Heap :=
  match h with
  | [] => []
  | (j, o) :: r => match Nat.beq j k with | true => rem r k | false => (j, o) :: rem r k
theorem look_rem (h : Heap) (k j : Nat) : look (rem h k) j = if j = k then none else look h j := by
  induction h with
  | nil => simp [rem, look_nil]
  | cons x r ih =>
    obtain ⟨i, o⟩ := x
    by_cases hik : i = k
    · subst hik
      have e1 : rem ((i, o) :: r) i = rem r i := by simp [rem]
      rw [e1, ih]
      by_cases hji : j = i
      · rw [if_pos hji, if_pos hji]
      · have : i.beq j = false := by
          cases hb : i.beq j with
          | false => rfl
          | true => exact absurd (beq_true hb).symm hji
        rw [if_neg hji, if_neg hji]
        simp only [look_cons, this]
    · have hb : i.beq k = false := by
        cases hb : i.beq k with
        | false => rfl
        | true => exact absurd (beq_true hb) hik
      have e1 : rem ((i, o) :: r) k = (i, o) :: rem r k := by simp only [rem, hb]
      rw [e1]
      simp only [look_cons]
      cases hij : i.beq j with
      | true =>
        have := beq_true hij
        subst this
        rw [if_neg hik]
      | false => exact ih

section
variable {P : Program} {T : Tab} {ι : Nat → Loc} {B nx : Nat} {h : Heap}

theorem RelH.rem {w : World} (H : RelH ι B h nx w) (k : Nat) : RelH ι B (rem h k) nx w := by
  have key : ∀ j o, look (Aw.rem h k) j = some o → look h j = some o := fun j o hj => by
    rw [look_rem] at hj
    split at hj
    · cases hj
    · exact hj
  exact ⟨fun j o hj => H.obj j o (key j o hj), fun j j' o o' h1 h2 => H.sep j j' o o' (key _ _ h1) (key _ _ h2), fun j o hj => H.low j o (key _ _ hj), H.size, fun j o hj => H.sc j o (key _ _ hj)⟩

/-! ### appending: the machine's side -/
structure Src (P : Program) (w : World) (size : Nat) (x : Value) (m : Nat) (news : List Value) : Prop where
  len : (Builtin.lenOf x).run P w = .ok m w
  one : ∀ c, (Builtin.firstCells size m x).run P { w with drawn := c } = .ok news.toArray { w with drawn := c }

theorem run_append_in {t u e : TypeId} {ty : TypeId} {i : TypeInfo} {d : TypeDesc} (ht : P.underlying t = some (.slice e)) (hu : P.underlying u = some d) (hd : ∀ k, d ≠ .int k) (hi : P.info? e = some i)
    (w : World) (base : Option Addr) (n c m : Nat) (x : Value) (news : List Value) (hx : Src P w i.size x m news) (hroom : n + m ≤ c) :
    (Builtin.append_ #[t, u] ty #[.slice base n c, x]).run P w =
      (match base with | some a => (storeCells (a.add (n * i.size)) news).run P w | none => .ok () w).andThen fun _ w' => .ok (.slice base (n + m) c) w' := by
  have h1 := hx.len
  have h2 : (Builtin.firstCells i.size m x).run P w = .ok news.toArray w := hx.one w.drawn
  have hz : (match d with | .int _ => true | _ => false) = false := by
    cases d <;> first | rfl | exact absurd rfl (hd _)
  cases base with
  | none => simp [Builtin.append_, run_underlying ht, run_underlying hu, sizeOf, typeInfo, hi, hz, h1, h2, hroom]
  | some a => simp [Builtin.append_, run_underlying ht, run_underlying hu, sizeOf, typeInfo, hi, hz, h1, h2, hroom]

theorem run_append_out {t u e : TypeId} {ty : TypeId} {i : TypeInfo} {z : Value} {d : TypeDesc} (ht : P.underlying t = some (.slice e)) (hu : P.underlying u = some d) (hd : ∀ k, d ≠ .int k) (hi : P.info? e = some i) (hz : i.zero = some z)
    (w : World) (base : Option Addr) (n c m : Nat) (x : Value) (news olds : List Value) (hx : Src P w i.size x m news) (ho : (Builtin.firstCells i.size n (.slice base n c)).run P w.drew = .ok olds.toArray w.drew)
    (hroom : c < n + m) (hb : i.bytes ≤ 1000) (hm : n + m ≤ 1000000000) :
    ∃ cap, n + m ≤ cap ∧ (Builtin.append_ #[t, u] ty #[.slice base n c, x]).run P w =
      .ok (.slice (some ⟨w.heap.size, 0, none⟩) (n + m) cap) (w.drew.alloc (.cells (olds ++ news ++ (Builtin.zeroCells z.cells (cap - (n + m))).toList).toArray e)) := by
  have h1 := hx.len
  have h2 : (Builtin.firstCells i.size m x).run P w.drew = .ok news.toArray w.drew := hx.one (w.drawn + 1)
  have hzz : (match d with | .int _ => true | _ => false) = false := by
    cases d <;> first | rfl | exact absurd rfl (hd _)
  have hfit : Builtin.nextslicecap (n + m) c * i.bytes ≤ 281474976710656 := growslice_fits hroom (by
    have := Nat.mul_le_mul hm hb; omega)
  have hn : ¬ (n + m ≤ c) := by omega
  have h63' : ¬ (9223372036854775807 < ((n : Int) + (m : Int))) := by omega
  have h48' : ¬ (281474976710656 < Builtin.nextslicecap (n + m) c * i.bytes) := by omega
  refine ⟨grownCap w (n + m) c e, grownCap_ge _ _ _ _, ?_⟩
  simp [Builtin.append_, run_underlying ht, run_underlying hu, sizeOf, typeInfo, zeroValue, hi, hz, hzz, h1, h2, ho, hn, h63', h48', Question.forced, newRow, grownCap]
  congr 2
  apply Array.ext'
  simp [List.append_assoc]
end
end Go.Aw
