/-
  Changed lists: what is asked; the reference's. No condition.
-/
import Derived.Test.YtmkcjbpekejgdaaGreatSe54
import Derived.Test.YtmkcjbpekejgdaaGreatSe37
set_option linter.unusedSimpArgs false
set_option linter.unusedVariables false
noncomputable section
namespace Go.Aw
set_option maxRecDepth 100000
def chgO (l : List (Int × Int)) (bad : Bool) (F : Int × Int → Int × Int) : List (Int × Int) := if l.length ≤ 400 ∧ l.all rightS = true ∧ bad = false ∧ (l.map F).all rightS = true then l.map F else []
def chgE (l : List (Int × Int)) (bad : Bool) (F : Int × Int → Int × Int) : Int := if 400 < l.length then 2 else if l.all rightS = true ∧ bad = false ∧ (l.map F).all rightS = true then 0 else 1
theorem chg_limit {l : List (Int × Int)} {bad : Bool} {F : Int × Int → Int × Int} (h : 400 < l.length) : chgO l bad F = [] ∧ chgE l bad F = 2 := by
  rw [chgO, chgE, if_neg (by omega), if_pos h]
  exact ⟨rfl, rfl⟩
theorem chg_arg {l : List (Int × Int)} {bad : Bool} {F : Int × Int → Int × Int} (h : ¬ 400 < l.length) (h2 : ¬ (l.all rightS = true ∧ bad = false ∧ (l.map F).all rightS = true)) : chgO l bad F = [] ∧ chgE l bad F = 1 := by
  rw [chgO, chgE, if_neg (fun h3 => h2 h3.2), if_neg h, if_neg h2]
  exact ⟨rfl, rfl⟩
theorem chg_ok {l : List (Int × Int)} {bad : Bool} {F : Int × Int → Int × Int} (h : ¬ 400 < l.length) (h2 : l.all rightS = true ∧ bad = false ∧ (l.map F).all rightS = true) : chgO l bad F = l.map F ∧ chgE l bad F = 0 := by
  rw [chgO, chgE, if_pos ⟨by omega, h2⟩, if_neg h, if_pos h2]
  exact ⟨rfl, rfl⟩
def outI (n : Int) : Bool := decide (n < -20000) || decide (20000 < n)
def affF (a b c d : Int) (p : Int × Int) : Int × Int := (a * p.1 + b, c * p.2 + d)
def S92 (l : List (Int × Int)) : List Value → Option (Bool × List (Int × Int) × Option Int)
  | [.int .i64 a, .int .i64 b, .int .i64 c, .int .i64 d] => some (decide (l.length ≤ 1000000000), chgO l ([a, b, c, d].any outI) (affF a b c d), some (chgE l ([a, b, c, d].any outI) (affF a b c d)))
  | _ => none
theorem S92_inv {l : List (Int × Int)} {r : List Value} {out : List (Int × Int)} {e : Option Int} (hs : S92 l r = some (true, out, e)) : ∃ a b c d, r = [iv a, iv b, iv c, iv d] ∧ l.length ≤ 1000000000 ∧ out = chgO l ([a, b, c, d].any outI) (affF a b c d) ∧ e = some (chgE l ([a, b, c, d].any outI) (affF a b c d)) := by
  unfold S92 at hs
  split at hs
  · rename_i a b c d
    injection hs with hs
    injection hs with h1 h2
    injection h2 with h2 h3
    exact ⟨a, b, c, d, rfl, by simpa using h1, h2.symm, h3.symm⟩
  · cases hs
theorem Yields_no {α : Type} (E : El α) {e : Option Int} {h : Heap} {nx : Nat} : Yields E [] e (wrapV e (.slice none 0 0)) h nx := rfl
def atI (l : List Int) (i : Nat) : Int := l.getD i 0
theorem getI (l : List Int) {i o : Nat} (hi : i < l.length) (ho : o = i) : nth (flat elI.fl l) o = some (iv (atI l i)) := by
  have : atI l i = l[i] := by
    unfold atI
    rw [List.getD_eq_getElem?_getD, List.getElem?_eq_getElem hi]
    rfl
  rw [this]
  exact nth_flat elI l (k := 0) hi rfl (by decide) (by simp [ho, elI])
def e92a (l : List (Int × Int)) (cc : Nat) (a b c d j : Int) : List (Nat × Value) := [(0, .slice (some ⟨0, 0, none⟩) l.length cc), (1, iv a), (2, iv b), (3, iv c), (4, iv d), (29, .slice (some ⟨1, 0, none⟩) 4 4), (30, iv 4), (31, iv j)]
def h92a (l : List (Int × Int)) (ns : List Int) : Heap := [(0, .cells false true 2 (flat elP.fl l)), (1, .cells true false 1 (flat elI.fl ns))]
def e92b (l : List (Int × Int)) (cc : Nat) (a b c d : Int) (v : Value) (j : Int) : List (Nat × Value) := [(0, .slice (some ⟨0, 0, none⟩) l.length cc), (1, iv a), (2, iv b), (3, iv c), (4, iv d), (15, v), (16, iv j)]
def h92b (l out : List (Int × Int)) : Heap := [(0, .cells false true 2 (flat elP.fl l)), (1, .cells true false 2 (flat elP.fl out))]
theorem take_map_next {l : List (Int × Int)} {i : Nat} (h : i < l.length) (F : Int × Int → Int × Int) : (l.take (i + 1)).map F = (l.take i).map F ++ [F (at2 l i)] := by
  rw [List.take_add_one, List.getElem?_eq_getElem h, at2_eq h, List.map_append]
  rfl
end Go.Aw
