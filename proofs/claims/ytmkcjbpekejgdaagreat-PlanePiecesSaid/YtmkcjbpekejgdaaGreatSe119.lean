/-
  Split: the program's. No condition.
-/
import Derived.Test.YtmkcjbpekejgdaaGreatSe116
set_option linter.unusedSimpArgs false
set_option linter.unusedVariables false
noncomputable section
namespace Go.Aw
set_option maxRecDepth 100000
def splE (l : List Sg) : Int := if chkS l = 0 then (if (crossR l).isSome = true then 10 else 0) else chkS l
def splO (l : List Sg) : List Sg := if splE l = 0 then dedG (outS l l.length) else []
def S39 (l : List Sg) : List Value → Option (Bool × List Sg × Option Int)
  | [] => some (decide (l.length ≤ 1000000000) && decide (0 < l.length), splO l, some (splE l))
  | _ => none
theorem S39_inv {l out : List Sg} {r : List Value} {e : Option Int} (hs : S39 l r = some (true, out, e)) : r = [] ∧ l.length ≤ 1000000000 ∧ 0 < l.length ∧ out = splO l ∧ e = some (splE l) := by
  unfold S39 at hs
  split at hs
  · injection hs with hs; injection hs with h1 h2; injection h2 with h2 h3
    simp only [Bool.and_eq_true, decide_eq_true_eq] at h1
    exact ⟨rfl, h1.1, h1.2, h2.symm, h3.symm⟩
  · cases hs
/-- The list that is put out: none at first. -/
def OF (L : List Sg) (O : Value) (F : Heap) : Prop := (L = [] ∧ O = .slice none 0 0 ∧ F = []) ∨ (0 < L.length ∧ O = .slice (some ⟨1, 0, none⟩) L.length L.length ∧ F = [(1, .cells true false 4 (flat elS.fl L))])
def sl0 (n c : Nat) : Value := .slice (some ⟨0, 0, none⟩) n c
def e39 (O : Value) (n c : Nat) (j : Int) : List (Nat × Value) := [(0, .slice (some ⟨0, 0, none⟩) n c), (8, O), (32, .slice (some ⟨0, 0, none⟩) n c), (33, iv n), (34, iv j)]
def h39 (l : List Sg) (F : Heap) : Heap := (0, .cells false true 4 (flat elS.fl l)) :: F
def e39b (O : Value) (n c : Nat) (j : Int) (m : Nat) (k : Int) : List (Nat × Value) := [(0, .slice (some ⟨0, 0, none⟩) n c), (8, O), (32, .slice (some ⟨0, 0, none⟩) n c), (33, iv n), (34, iv j), (10, .pointer (some ⟨2, 0, none⟩)), (13, .slice (some ⟨3, 0, none⟩) m m), (46, .slice (some ⟨0, 0, none⟩) n c), (47, iv n), (48, iv k)]
def h39b (l : List Sg) (F : Heap) (s : Sg) (st : List (Int × Int)) : Heap := (0, .cells false true 4 (flat elS.fl l)) :: (2, .cells true false 1 [iv s.1.1, iv s.1.2, iv s.2.1, iv s.2.2]) :: (3, .cells true false 2 (flat elP.fl st)) :: F
def e39c (O : Value) (n c : Nat) (j : Int) (m : Nat) (k : Int) (x : Int) : List (Nat × Value) := [(0, .slice (some ⟨0, 0, none⟩) n c), (8, O), (32, .slice (some ⟨0, 0, none⟩) n c), (33, iv n), (34, iv j), (10, .pointer (some ⟨2, 0, none⟩)), (13, .slice (some ⟨3, 0, none⟩) m m), (46, .slice (some ⟨0, 0, none⟩) n c), (47, iv n), (48, iv k), (56, .slice (some ⟨5, 0, none⟩) 2 2), (57, iv 2), (58, iv x)]
def h39c (l : List Sg) (F : Heap) (s : Sg) (st ps : List (Int × Int)) : Heap := (0, .cells false true 4 (flat elS.fl l)) :: (2, .cells true false 1 [iv s.1.1, iv s.1.2, iv s.2.1, iv s.2.2]) :: (3, .cells true false 2 (flat elP.fl st)) :: (5, .cells true false 2 (flat elP.fl ps)) :: F
def e39d (O : Value) (n c : Nat) (j : Int) (m : Nat) (k : Int) : List (Nat × Value) := [(0, .slice (some ⟨0, 0, none⟩) n c), (8, O), (32, .slice (some ⟨0, 0, none⟩) n c), (33, iv n), (34, iv j), (13, .slice (some ⟨4, 0, none⟩) m m), (18, iv k)]
def h39d (l : List Sg) (F : Heap) (D : List (Int × Int)) : Heap := (0, .cells false true 4 (flat elS.fl l)) :: (4, .cells true false 2 (flat elP.fl D)) :: F
theorem stpA_len (s : Sg) (st : List (Int × Int)) (p : Int × Int) : st.length ≤ (stpA s st p).length ∧ (stpA s st p).length ≤ st.length + 1 := by
  unfold stpA
  split
  · rw [List.length_append, List.length_singleton]; omega
  · omega
theorem stpI_len (l : List Sg) (s : Sg) : ∀ k, 2 ≤ (stpI l s k).length ∧ (stpI l s k).length ≤ 2 + 2 * k
  | 0 => ⟨Nat.le_refl _, Nat.le_refl _⟩
  | k + 1 => by
    have h := stpI_len l s k
    have a := stpA_len s (stpI l s k) (atS l k).1
    have b := stpA_len s (stpA s (stpI l s k) (atS l k).1) (atS l k).2
    show 2 ≤ (stpA s (stpA s (stpI l s k) (atS l k).1) (atS l k).2).length ∧ (stpA s (stpA s (stpI l s k) (atS l k).1) (atS l k).2).length ≤ _
    omega
theorem stD_len (l : List Sg) (s : Sg) : (stD l s).length ≤ 2 + 2 * l.length := by
  unfold stD dedI
  have h1 := ddI_len (sortI (stpI l s l.length)) (sortI (stpI l s l.length)).length
  have h2 := stpI_len l s l.length
  rw [sortI_len] at h1 ⊢
  omega
theorem pcI_len (D : List (Int × Int)) : ∀ k, (pcI D k).length = k
  | 0 => rfl
  | k + 1 => by unfold pcI; rw [List.length_append, pcI_len D k]; rfl
theorem outS_len (l : List Sg) : ∀ i, (outS l i).length ≤ i * (1 + 2 * l.length)
  | 0 => Nat.zero_le _
  | i + 1 => by
    have h := outS_len l i
    have h2 := stD_len l (atS l i)
    unfold outS
    rw [List.length_append, pcI_len, Nat.succ_mul]
    omega
theorem outS_0 (l : List Sg) : outS l 0 = [] := rfl
theorem outS_s (l : List Sg) (i : Nat) : outS l (i + 1) = outS l i ++ pcI (stD l (atS l i)) ((stD l (atS l i)).length - 1) := rfl
theorem stpI_0 (l : List Sg) (s : Sg) : stpI l s 0 = [(endsS s).1, (endsS s).2] := rfl
theorem stpI_s (l : List Sg) (s : Sg) (i : Nat) : stpI l s (i + 1) = stpA s (stpA s (stpI l s i) (atS l i).1) (atS l i).2 := rfl
theorem pcI_0 (D : List (Int × Int)) : pcI D 0 = [] := rfl
theorem pcI_s (D : List (Int × Int)) (k : Nat) : pcI D (k + 1) = pcI D k ++ [(at2 D k, at2 D (k + 1))] := rfl
theorem stD_def (l : List Sg) (s : Sg) : ddI (sortI (stpI l s l.length)) (sortI (stpI l s l.length)).length = stD l s := rfl
theorem dedG_def (L : List Sg) : ddG (sortG L) (sortG L).length = dedG L := rfl
theorem foldS (s : Sg) (st ps : List (Int × Int)) {q : Nat} (hq : q < ps.length) : (ps.take (q + 1)).foldl (stpA s) st = stpA s ((ps.take q).foldl (stpA s) st) (at2 ps q) := by
  rw [take_snoc hq, List.foldl_append]
  rfl
theorem stpA_yes {s : Sg} {st : List (Int × Int)} {p : Int × Int} (h : insS p s = true) : stpA s st p = st ++ [p] := by unfold stpA; rw [if_pos h]
theorem stpA_no {s : Sg} {st : List (Int × Int)} {p : Int × Int} (h : insS p s = false) : stpA s st p = st := by unfold stpA; rw [if_neg (by rw [h]; decide)]
theorem stD_two {l : List Sg} (hr : l.all rightG = true) {i : Nat} (hi : i < l.length) : 2 ≤ (stD l (atS l i)).length := by
  obtain ⟨a, b, he, hab, hs, -, -⟩ := ends_two (all_atS hr hi)
  exact (stD_ends he hab hs).1
theorem outS_pos {l : List Sg} (hr : l.all rightG = true) {i : Nat} (h0 : 0 < i) (hi : i ≤ l.length) : 0 < (outS l i).length := by
  obtain ⟨k, rfl⟩ : ∃ k, i = k + 1 := ⟨i - 1, by omega⟩
  have := stD_two hr (show k < l.length by omega)
  rw [outS_s, List.length_append, pcI_len]
  omega
theorem flat_growG (l : List Sg) (p : Sg) : List.take (l.length * 4) (List.drop 0 (flat elS.fl l)) ++ [iv p.1.1, iv p.1.2, iv p.2.1, iv p.2.2] = flat elS.fl (l ++ [p]) := by
  rw [flat_append, List.drop_zero, List.take_of_length_le (by rw [flat4]; exact Nat.le_refl _)]
  rfl
theorem dedG_pos {L : List Sg} (h : 0 < L.length) : 0 < (dedG L).length := by
  obtain ⟨x, hx⟩ := List.exists_mem_of_length_pos h
  exact List.length_pos_of_mem (dedG_mem.2 hx)
end Go.Aw
