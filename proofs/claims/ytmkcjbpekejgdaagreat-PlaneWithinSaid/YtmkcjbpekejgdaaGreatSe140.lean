/-
  Within: the reference's. No condition.
-/
import Derived.Test.YtmkcjbpekejgdaaGreatSe139
set_option linter.unusedSimpArgs false
set_option linter.unusedVariables false
noncomputable section
namespace Go.Aw
set_option maxRecDepth 100000
theorem stF_mem {l : List (Int × Int)} {s : Sg} {x : Int × Int} : ∀ {i}, x ∈ stF l s i ↔ x = (0, 1) ∨ x = (1, 1) ∨ ∃ k, k < i ∧ onR (at2 l k) s = true ∧ x = frP s (at2 l k)
  | 0 => by
    rw [stF_0]
    constructor
    · intro h
      rcases List.mem_cons.1 h with h | h
      · exact .inl h
      · exact .inr (.inl (List.mem_singleton.1 h))
    · rintro (h | h | ⟨k, h, -⟩)
      · rw [h]; exact .head _
      · rw [h]; exact .tail _ (.head _)
      · exact absurd h (Nat.not_lt_zero _)
  | i + 1 => by
    cases h : onR (at2 l i) s with
    | true =>
      rw [stF_yes h, List.mem_append, stF_mem (i := i), List.mem_singleton]
      constructor
      · rintro ((e | e | ⟨k, hk, e⟩) | e)
        · exact .inl e
        · exact .inr (.inl e)
        · exact .inr (.inr ⟨k, by omega, e⟩)
        · exact .inr (.inr ⟨i, by omega, h, e⟩)
      · rintro (e | e | ⟨k, hk, e1, e2⟩)
        · exact .inl (.inl e)
        · exact .inl (.inr (.inl e))
        · by_cases hki : k = i
          · subst hki; exact .inr e2
          · exact .inl (.inr (.inr ⟨k, by omega, e1, e2⟩))
    | false =>
      rw [stF_no h, stF_mem (i := i)]
      constructor
      · rintro (e | e | ⟨k, hk, e⟩)
        · exact .inl e
        · exact .inr (.inl e)
        · exact .inr (.inr ⟨k, by omega, e⟩)
      · rintro (e | e | ⟨k, hk, e1, e2⟩)
        · exact .inl e
        · exact .inr (.inl e)
        · by_cases hki : k = i
          · subst hki; rw [h] at e1; cases e1
          · exact .inr (.inr ⟨k, by omega, e1, e2⟩)
theorem btw_iff {n a b : Int} : btw n a b = true ↔ (a ≤ n ∧ n ≤ b) ∨ (b ≤ n ∧ n ≤ a) := by
  unfold btw
  simp only [Bool.and_eq_true, decide_eq_true_eq]
  split <;> split <;> omega
theorem onR_btw {p : Int × Int} {s : Sg} (h : onR p s = true) : btw p.1 s.1.1 s.2.1 = true ∧ btw p.2 s.1.2 s.2.2 = true ∧ crossI s.1 s.2 p = 0 := by
  unfold onR at h
  simp only [Bool.and_eq_true, decide_eq_true_eq] at h
  exact ⟨h.1.1, h.1.2, (turn_zero _ _ _).1 h.2⟩
theorem frP_B {s : Sg} (hs : rightG s = true) {p : Int × Int} (h : onR p s = true) : 0 ≤ (frP s p).1 ∧ (frP s p).1 ≤ 10000 ∧ 0 < (frP s p).2 ∧ (frP s p).2 ≤ 10000 := by
  obtain ⟨hra, hrb, hab⟩ := right_two hs
  have ha := right_low hra
  have hb := right_low hrb
  obtain ⟨h1, h2, -⟩ := onR_btw h
  rw [btw_iff] at h1 h2
  have key : ∀ {q d : Int}, d ≠ 0 → -10000 ≤ d ∧ d ≤ 10000 → ((0 ≤ q ∧ q ≤ d) ∨ (d ≤ q ∧ q ≤ 0)) → 0 ≤ q * sgn d ∧ q * sgn d ≤ 10000 ∧ 0 < d * sgn d ∧ d * sgn d ≤ 10000 := by
    intro q d h0 hB hq
    unfold sgn
    split
    · omega
    · split
      · omega
      · omega
  unfold frP
  split
  · rename_i h0
    have h3 : s.2.2 - s.1.2 ≠ 0 := fun e => hab (Prod.ext (by omega) (by omega))
    exact key h3 (by omega) (by omega)
  · rename_i h0
    exact key h0 (by omega) (by omega)
theorem at_memP {D : List (Int × Int)} {i : Nat} (h : i < D.length) : at2 D i ∈ D := by
  rw [at2_eq h]; exact List.getElem_mem _
theorem stF_B {l : List (Int × Int)} {s : Sg} (hs : rightG s = true) {k n : Nat} (hk : k < (stF l s n).length) : 0 ≤ (at2 (stF l s n) k).1 ∧ (at2 (stF l s n) k).1 ≤ 10000 ∧ 0 < (at2 (stF l s n) k).2 ∧ (at2 (stF l s n) k).2 ≤ 10000 := by
  rcases stF_mem.1 (at_memP hk) with e | e | ⟨i, -, h, e⟩
  · rw [e]; decide
  · rw [e]; decide
  · rw [e]; exact frP_B hs h
def behB (a b : Int × Int) : Bool := decide (a.1 * b.2 < b.1 * a.2)
def nearB (o : Option (Int × Int)) (b : Int × Int) : Bool := match o with | none => true | some x => decide (b.1 * x.2 < x.1 * b.2)
def nxF (T : List (Int × Int)) (a : Int × Int) : Nat → Option (Int × Int)
  | 0 => none
  | k + 1 => if behB a (at2 T k) = true ∧ nearB (nxF T a k) (at2 T k) = true then some (at2 T k) else nxF T a k
theorem nxF_yes {T : List (Int × Int)} {a : Int × Int} {k : Nat} {o : Option (Int × Int)} (ho : o = nxF T a k) (h1 : behB a (at2 T k) = true) (h2 : nearB o (at2 T k) = true) : nxF T a (k + 1) = some (at2 T k) := by
  subst ho
  conv => lhs; unfold nxF
  rw [if_pos ⟨h1, h2⟩]
theorem nxF_no {T : List (Int × Int)} {a : Int × Int} {k : Nat} {o : Option (Int × Int)} (ho : o = nxF T a k) (h : behB a (at2 T k) = false ∨ nearB o (at2 T k) = false) : nxF T a (k + 1) = o := by
  subst ho
  conv => lhs; unfold nxF
  rw [if_neg]
  rintro ⟨h1, h2⟩
  rcases h with h | h
  · rw [h1] at h; cases h
  · rw [h2] at h; cases h
theorem nxF_in {T : List (Int × Int)} {a x : Int × Int} : ∀ {k}, nxF T a k = some x → ∃ i, i < k ∧ x = at2 T i
  | 0, h => by cases h
  | k + 1, h => by
    unfold nxF at h
    split at h
    · injection h with h; exact ⟨k, by omega, h.symm⟩
    · obtain ⟨i, hi, e⟩ := nxF_in h
      exact ⟨i, by omega, e⟩
def okR (l : List (Int × Int)) (s : Sg) (a : Int × Int) (o : Option (Int × Int)) : Bool := match o with | none => true | some b => midV l s (a.1 * b.2 + b.1 * a.2) (2 * a.2 * b.2)
def WR (l : List (Int × Int)) (s : Sg) : Prop := rightG s = true ∧ polyE l = 0 ∧ whI l s.1 ≠ 0 ∧ whI l s.2 ≠ 0 ∧ noX l s ∧ ∀ i, i < (stF l s l.length).length → okR l s (at2 (stF l s l.length) i) (nxF (stF l s l.length) (at2 (stF l s l.length) i) (stF l s l.length).length) = true
open Classical in
def wR (l : List (Int × Int)) (s : Sg) : Bool := decide (WR l s)
open Classical in
theorem wR_no {l : List (Int × Int)} {s : Sg} (h : ¬ WR l s) : wR l s = false := by unfold wR; exact decide_eq_false h
open Classical in
theorem wR_yes {l : List (Int × Int)} {s : Sg} (h : WR l s) : wR l s = true := by unfold wR; exact decide_eq_true h
def SWr (l : List (Int × Int)) : List Value → Option (Bool × Value)
  | [v] => (decS v).map fun s => (decide (l.length ≤ 1000000000), .bool (wR l s))
  | _ => none
theorem SWr_inv {l : List (Int × Int)} {r : List Value} {v : Value} (hs : SWr l r = some (true, v)) : ∃ s : Sg, r = [sgv s] ∧ l.length ≤ 1000000000 ∧ v = .bool (wR l s) := by
  unfold SWr at hs
  split at hs
  · rename_i v
    obtain ⟨s, h1, h2⟩ := Option.map_eq_some_iff.1 hs
    injection h2 with h2 h3
    exact ⟨s, by rw [decS_eq h1], of_decide_eq_true h2, h3.symm⟩
  · cases hs
def eV0 (l : List (Int × Int)) (c : Nat) (j : Int) : List (Nat × Value) := [(0, .slice (some ⟨0, 0, none⟩) l.length c), (3, .pointer (some ⟨1, 0, none⟩)), (6, iv j)]
def hV0 (l : List (Int × Int)) (s : Sg) : Heap := [(0, .cells false true 2 (flat elP.fl l)), (1, .cells true false 1 [iv s.1.1, iv s.1.2, iv s.2.1, iv s.2.2])]
def eV1 (l T : List (Int × Int)) (c : Nat) (j : Int) : List (Nat × Value) := [(0, .slice (some ⟨0, 0, none⟩) l.length c), (3, .pointer (some ⟨1, 0, none⟩)), (7, .slice (some ⟨2, 0, none⟩) T.length T.length), (8, iv j)]
def hV1 (l T : List (Int × Int)) (s : Sg) : Heap := [(0, .cells false true 2 (flat elP.fl l)), (1, .cells true false 1 [iv s.1.1, iv s.1.2, iv s.2.1, iv s.2.2]), (2, .cells true false 2 (flat elP.fl T))]
def eV2 (l T : List (Int × Int)) (c : Nat) (j : Int) (b : Bool) (k : Int) : List (Nat × Value) := [(0, .slice (some ⟨0, 0, none⟩) l.length c), (3, .pointer (some ⟨1, 0, none⟩)), (7, .slice (some ⟨2, 0, none⟩) T.length T.length), (8, iv j), (9, .pointer (some ⟨3, 0, none⟩)), (10, .bool b), (11, iv k)]
def hV2 (l T : List (Int × Int)) (s : Sg) (x : Int × Int) : Heap := [(0, .cells false true 2 (flat elP.fl l)), (1, .cells true false 1 [iv s.1.1, iv s.1.2, iv s.2.1, iv s.2.2]), (2, .cells true false 2 (flat elP.fl T)), (3, .cells true false 1 [iv x.1, iv x.2])]
def oB : Option (Int × Int) → Bool | none => false | some _ => true
def oN : Option (Int × Int) → Int × Int | none => (0, 0) | some x => x
end Go.Aw
