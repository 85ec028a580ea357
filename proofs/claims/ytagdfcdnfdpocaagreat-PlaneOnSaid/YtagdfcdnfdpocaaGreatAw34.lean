/-
  A types' table, checked. No condition.
-/
import Derived.Test.YtagdfcdnfdpocaaGreatAw33
set_option linter.unusedSimpArgs false
set_option linter.unusedVariables false
noncomputable section
namespace Go.Aw
open Go.RowKit

def vSame : Value → Value → Bool
  | .int k a, .int k' b => kEq k k' && decide (a = b)
  | .bool a, .bool b => a == b
  | .pointer none, .pointer none => true
  | .slice none n c, .slice none m d => Nat.beq n m && Nat.beq c d
  | .map none, .map none => true
  | .nilFunc, .nilFunc => true
  | .nilIface, .nilIface => true
  | .string a, .string b => (match a.data.toList, b.data.toList with | [], [] => true | _, _ => false)
  | _, _ => false
def allSame : List Value → List Value → Bool
  | [], [] => true
  | x :: r, y :: s => vSame x y && allSame r s
  | _, _ => false
def aSame : Value → Value → Bool
  | .agg xs, .agg ys => allSame xs.toList ys.toList
  | x, y => vSame x y

theorem vSame_eq {x y : Value} (h : vSame x y = true) : x = y := by
  unfold vSame at h
  split at h
  · simp only [Bool.and_eq_true, decide_eq_true_eq] at h
    rw [kEq_true h.1, h.2]
  · simpa using h
  · rfl
  · simp only [Bool.and_eq_true] at h
    rw [beq_true h.1, beq_true h.2]
  · rfl
  · rfl
  · rfl
  · rename_i a b
    split at h
    · rename_i h1 h2
      obtain ⟨⟨a⟩⟩ := a
      obtain ⟨⟨b⟩⟩ := b
      simp at h1 h2
      rw [h1, h2]
    · cases h
  · cases h
theorem allSame_eq : ∀ {x y : List Value}, allSame x y = true → x = y
  | [], [], _ => rfl
  | [], _ :: _, h => by cases h
  | _ :: _, [], h => by cases h
  | x :: r, y :: s, h => by
    simp only [allSame, Bool.and_eq_true] at h
    rw [vSame_eq h.1, allSame_eq h.2]
theorem aSame_eq {x y : Value} (h : aSame x y = true) : x = y := by
  unfold aSame at h
  split at h
  · congr 1
    apply Array.ext'
    exact allSame_eq h
  · exact vSame_eq h

def tyB (P : Program) (t : TypeId) (i : TyI) : Bool :=
  (match P.info? t with | some x => Nat.beq x.size i.size && Nat.beq x.bytes i.bytes && (match x.zero with | some z => aSame z i.zv | none => false) | none => false) &&
  (match P.underlying t with | some d => KOK d i.kind | none => false) &&
  Nat.beq i.zv.cells.size i.size && gA i.zv && !P.stoodInHeld t && !P.eqGuardType P.depth t && Nat.blt 0 i.size
def tabB (P : Program) : Tab → Bool
  | [] => true
  | (t, i) :: r => tyB P t i && tabB P r

theorem tyB_ok {P : Program} {t : TypeId} {i : TyI} (h : tyB P t i = true) : TyOK P t i := by
  unfold tyB at h
  simp only [Bool.and_eq_true, Bool.not_eq_true'] at h
  obtain ⟨⟨⟨⟨⟨⟨h1, h2⟩, h3⟩, h4⟩, h5⟩, h6⟩, h7⟩ := h
  split at h1
  case h_2 => cases h1
  rename_i x hx
  simp only [Bool.and_eq_true] at h1
  obtain ⟨⟨h8, h9⟩, h10⟩ := h1
  split at h10
  case h_2 => cases h10
  rename_i z hz
  split at h2
  case h_2 => cases h2
  rename_i d hd
  exact ⟨⟨x, hx, beq_true h8, beq_true h9, by rw [hz, aSame_eq h10]⟩, ⟨d, hd, h2⟩, beq_true h3, h4, h5, h6, blt_true h7⟩
theorem tabB_ok {P : Program} : ∀ {T : Tab}, tabB P T = true → TabOK P T
  | [], _, t, i, h => by cases h
  | (u, j) :: r, hb, t, i, h => by
    simp only [tabB, Bool.and_eq_true] at hb
    simp only [look_cons] at h
    split at h
    · rename_i hu
      have := beq_true hu
      subst this
      injection h with h
      subst h
      exact tyB_ok hb.1
    · exact tabB_ok hb.2 t i h
end Go.Aw
