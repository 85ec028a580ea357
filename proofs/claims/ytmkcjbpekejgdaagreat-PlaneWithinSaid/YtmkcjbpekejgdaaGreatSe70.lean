/-
  Normal forms: the reference's, what it computes. No condition.
-/
import Derived.Test.YtmkcjbpekejgdaaGreatSe69
set_option linter.unusedSimpArgs false
set_option linter.unusedVariables false
noncomputable section
namespace Go.Aw
set_option maxRecDepth 100000
def lessB (a b : Int × Int) : Bool := decide (a.1 < b.1) || (decide (a.1 = b.1) && decide (a.2 < b.2))
def X95 : Nat × XF := (65, gX (s2 cP cP fun a b => (true, .bool (lessB a b))))
theorem x95 : XOK Go.Proofs.Tryz.prog X95.1 X95.2 := x2 cP cP (xl := []) .nil (fun _ _ => rfl) fun a b _ => by
  unfold Does1
  repeat' ((conv => whnf); refine bm (fun g => ?_) (fun g => ?_))
  all_goals (conv => whnf)
  all_goals (show Value.bool _ = .bool _; congr 1)
  all_goals (simp only [cA_lt, cA_eq, cA_num, cA_eqB, beq_iff_eq, beq_eq_false_iff_ne, ne_eq, Bool.not_eq_false, Bool.not_eq_true, decide_eq_true_eq, decide_eq_false_iff_not] at *)
  all_goals (simp only [lessB, cA_lt, cA_eq])
  all_goals first
    | (simp [*]; done)
    | (rename_i g; rw [Classical.not_not] at g; simp [g]; done)
    | (rw [Classical.not_not] at g; simp [g]; done)
    | trace_state
def fillI (l : List (Int × Int)) (i : Nat) : List (Int × Int) := (dirI l).take i ++ List.replicate (l.length - i) (0, 0)
theorem dirI_len (l : List (Int × Int)) : (dirI l).length = l.length := by
  unfold dirI
  split
  · rw [List.length_reverse]
  · rfl
theorem fillI_len {l : List (Int × Int)} {i : Nat} (hi : i ≤ l.length) : (fillI l i).length = l.length := by
  unfold fillI
  rw [List.length_append, List.length_take, List.length_replicate, dirI_len, Nat.min_eq_left hi]
  omega
theorem fillI_at {l : List (Int × Int)} {i k : Nat} (hi : i ≤ l.length) (hk : k < l.length) : at2 (fillI l i) k = if k < i then at2 (dirI l) k else (0, 0) := by
  have hl : (List.take i (dirI l)).length = i := by rw [List.length_take, dirI_len, Nat.min_eq_left hi]
  rw [at2_eq (by rw [fillI_len hi]; exact hk)]
  unfold fillI
  by_cases h : k < i
  · rw [if_pos h, List.getElem_append_left (by rw [hl]; exact h), List.getElem_take, at2_eq]
  · rw [if_neg h, List.getElem_append_right (by rw [hl]; omega), List.getElem_replicate]
theorem fillI_zero (l : List (Int × Int)) : fillI l 0 = List.replicate l.length (0, 0) := by
  unfold fillI
  rw [List.take_zero, List.nil_append, Nat.sub_zero]
theorem fillI_end (l : List (Int × Int)) : fillI l l.length = dirI l := by
  unfold fillI
  rw [List.take_of_length_le (by rw [dirI_len]; exact Nat.le_refl _), Nat.sub_self, List.replicate_zero, List.append_nil]
theorem fillI_set {l : List (Int × Int)} {i : Nat} (hi : i < l.length) : (fillI l i).set i (at2 (dirI l) i) = fillI l (i + 1) := by
  refine ext_at (by rw [List.length_set, fillI_len (by omega), fillI_len (by omega)]) fun k hk => ?_
  rw [List.length_set, fillI_len (by omega)] at hk
  rw [at2_set _ _ _ _ (by rw [fillI_len (by omega)]; exact hk), fillI_at (by omega) hk, fillI_at (by omega) hk]
  by_cases h : i = k
  · rw [if_pos h, if_pos (by omega), h]
  · rw [if_neg h]
    by_cases h2 : k < i
    · rw [if_pos h2, if_pos (by omega)]
    · rw [if_neg h2, if_neg (by omega)]
theorem set_set2 (l : List (Int × Int)) (i : Nat) (a b : Int × Int) : (l.set i a).set i b = l.set i b := List.set_set ..
theorem rep_flat (n : Nat) : rep n [iv 0, iv 0] = flat elP.fl (List.replicate n (0, 0)) := by
  induction n with
  | zero => rfl
  | succ n ih =>
    unfold rep at ih ⊢
    rw [List.replicate_succ, List.flatten_cons, ih, List.replicate_succ]
    rfl
def leastI (o : List (Int × Int)) : Nat → Nat
  | 0 => 0
  | i + 1 => if lessB (at2 o i) (at2 o (leastI o i)) = true then i else leastI o i
theorem leastI_lt (o : List (Int × Int)) : ∀ i, leastI o i ≤ i - 1
  | 0 => Nat.le_refl _
  | i + 1 => by
    have := leastI_lt o i
    unfold leastI
    split <;> omega
def keptO (o : List (Int × Int)) (k : Nat) : Bool := !decide (turnS (at2 o ((k + o.length - 1) % o.length)) (at2 o (k % o.length)) (at2 o ((k + 1) % o.length)) = 0)
def segI (o : List (Int × Int)) (f : Nat) : Nat → List (Int × Int)
  | 0 => []
  | n + 1 => segI o f n ++ (if keptO o (f + n) = true then [at2 o ((f + n) % o.length)] else [])
theorem segI_len (o : List (Int × Int)) (f : Nat) : ∀ n, (segI o f n).length ≤ n
  | 0 => Nat.le_refl _
  | n + 1 => by
    have := segI_len o f n
    unfold segI
    rw [List.length_append]
    split
    · simp; omega
    · simp; omega
def norR (l : List (Int × Int)) : List (Int × Int) := segI (dirI l) (leastI (dirI l) l.length) l.length
def norO (l : List (Int × Int)) : List (Int × Int) := if polyE l = 0 then norR l else []
def S50 (l : List (Int × Int)) : List Value → Option (Bool × List (Int × Int) × Option Int)
  | [] => some (decide (l.length ≤ 1000000000), norO l, some (polyE l))
  | _ => none
theorem S50_inv {l out : List (Int × Int)} {r : List Value} {e : Option Int} (hs : S50 l r = some (true, out, e)) : r = [] ∧ l.length ≤ 1000000000 ∧ out = norO l ∧ e = some (polyE l) := by
  unfold S50 at hs
  split at hs
  · injection hs with hs; injection hs with h1 h2; injection h2 with h2 h3
    exact ⟨rfl, by simpa using h1, h2.symm, h3.symm⟩
  · cases hs
end Go.Aw
