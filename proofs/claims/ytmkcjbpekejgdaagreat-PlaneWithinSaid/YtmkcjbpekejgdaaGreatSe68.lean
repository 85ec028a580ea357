/-
  A list turned. No condition.
-/
import Derived.Test.YtmkcjbpekejgdaaGreatSeI
import Derived.Test.YtmkcjbpekejgdaaGreatSe57
set_option linter.unusedSimpArgs false
set_option linter.unusedVariables false
noncomputable section
namespace Go.Aw
set_option maxRecDepth 100000
def cfg4 : Cfg := { A := std, T := tyT, FT := look ftL, PL := plF, PR := fun _ => false, X := fun _ => none, M := 4 }
theorem cfg4_ok : CfgOK Go.Proofs.Tryz.prog cfg4 where
  ar := rfl
  tab := tabB_ok tyT_ok
  mixed := by decide +kernel
  funcs := ft_funcs
  xs := fun _ _ h => by cases h
/-- Calls put in place, their loops unrolled. -/
def bodyN (xl : List (Nat × XF)) (vs : List Nat) : VC := vbody cfgS none (mixC cfg4 vs (look xl)) noY
theorem bodyN_calls {xl : List (Nat × XF)} (h : XLOK xl) (vs : List Nat) : CallsOK Go.Proofs.Tryz.prog (bodyN xl vs) := vbody_ok cfgS_ok (mixC_ok cfg4_ok h.look) noY_ok (mixC_det cfg4_ok h.look) noY_det none
def turnI (l : List (Int × Int)) (j : Nat) : List (Int × Int) := l.drop j ++ l.take j
def S123 (l : List (Int × Int)) : List Value → Option (Bool × List (Int × Int) × Option Int)
  | [.int .i64 j] => some (decide (0 ≤ j) && decide (j < l.length) && decide (l.length ≤ 1000000), turnI l j.toNat, none)
  | _ => none
theorem S123_inv {l out : List (Int × Int)} {r : List Value} {e : Option Int} (hs : S123 l r = some (true, out, e)) : ∃ j : Int, r = [iv j] ∧ 0 ≤ j ∧ j < l.length ∧ l.length ≤ 1000000 ∧ out = turnI l j.toNat ∧ e = none := by
  unfold S123 at hs
  split at hs
  · rename_i j
    injection hs with hs; injection hs with h1 h2; injection h2 with h2 h3
    simp only [Bool.and_eq_true, decide_eq_true_eq] at h1
    exact ⟨j, rfl, h1.1.1, h1.1.2, h1.2, h2.symm, h3.symm⟩
  · cases hs
theorem flat_split (l : List (Int × Int)) (j : Nat) : flat elP.fl l = flat elP.fl (l.take j) ++ flat elP.fl (l.drop j) := by
  rw [← flat_append, List.take_append_drop]
theorem flat2 (l : List (Int × Int)) : (flat elP.fl l).length = l.length * 2 := flat_len elP l
theorem flat_drop (l : List (Int × Int)) (j : Nat) (h : j ≤ l.length) : (flat elP.fl l).drop (j * 2) = flat elP.fl (l.drop j) := by
  rw [flat_split l j]
  refine List.drop_left' ?_
  rw [flat2, List.length_take, Nat.min_eq_left h]
theorem flat_take (l : List (Int × Int)) (j : Nat) (h : j ≤ l.length) : (flat elP.fl l).take (j * 2) = flat elP.fl (l.take j) := by
  rw [flat_split l j]
  refine List.take_left' ?_
  rw [flat2, List.length_take, Nat.min_eq_left h]
theorem rep_len (n : Nat) (zs : List Value) : (rep n zs).length = n * zs.length := by
  unfold rep
  rw [List.length_flatten, List.map_replicate, List.sum_replicate_nat]
theorem turnI_len (l : List (Int × Int)) (j : Nat) (h : j ≤ l.length) : (turnI l j).length = l.length := by
  unfold turnI
  rw [List.length_append, List.length_drop, List.length_take, Nat.min_eq_left h]
  omega
theorem put_src {l : List (Int × Int)} {j d1 s1 : Nat} (hj : j ≤ l.length) (hd1 : d1 = j * 2) (hs1 : s1 = (l.length - j) * 2) : List.take s1 (List.drop d1 (flat elP.fl l)) = flat elP.fl (l.drop j) := by
  subst hd1 hs1
  rw [flat_drop l j hj, List.take_of_length_le (by rw [flat2, List.length_drop]; exact Nat.le_refl _)]
theorem turn_cells {l : List (Int × Int)} {j N o0 s1 d1 o1 s2 d2 : Nat} {a b : Value} (hj : j ≤ l.length) (hN : N = l.length) (h0 : o0 = 0) (hd1 : d1 = j * 2) (hs1 : s1 = (l.length - j) * 2) (ho1 : o1 = (l.length - j) * 2) (hd2 : d2 = 0) (hs2 : s2 = j * 2) :
    putN (putN (rep N [a, b]) o0 (List.take s1 (List.drop d1 (flat elP.fl l)))) o1 (List.take s2 (List.drop d2 (flat elP.fl l))) = flat elP.fl (turnI l j) := by
  subst hN h0 ho1 hd2 hs2
  rw [put_src hj hd1 hs1, List.drop_zero, flat_take l j hj, turnI, flat_append]
  have e1 : (flat elP.fl (l.drop j)).length = (l.length - j) * 2 := by rw [flat2, List.length_drop]
  have e2 : (flat elP.fl (l.take j)).length = j * 2 := by rw [flat2, List.length_take, Nat.min_eq_left hj]
  have e3 : (rep l.length [a, b]).length = l.length * 2 := rep_len _ _
  have e4 : List.drop ((l.length - j) * 2 + j * 2) (flat elP.fl (l.drop j) ++ List.drop ((l.length - j) * 2) (rep l.length [a, b])) = [] := List.drop_eq_nil_of_le (by rw [List.length_append, List.length_drop, e1, e3]; omega)
  unfold putN
  rw [List.take_zero, List.nil_append, e1, e2, Nat.zero_add, List.take_left' e1, e4, List.append_nil]
theorem put_len {l : List (Int × Int)} {j N o0 s1 d1 : Nat} {a b : Value} (hj : j ≤ l.length) (hN : N = l.length) (h0 : o0 = 0) (hd1 : d1 = j * 2) (hs1 : s1 = (l.length - j) * 2) :
    (putN (rep N [a, b]) o0 (List.take s1 (List.drop d1 (flat elP.fl l)))).length = l.length * 2 := by
  subst hN h0
  have e3 : (rep l.length [a, b]).length = l.length * 2 := rep_len _ _
  rw [put_src hj hd1 hs1, putN_length (by rw [flat2, List.length_drop, e3]; omega), e3]
theorem cA_subN (a b : Nat) : cfgS.A.subN a b = a - b := rfl
theorem cA_toN (a : Int) : cfgS.A.toN a = a.toNat := rfl
theorem c4A : cfg4.A = cfgS.A := rfl
theorem Yields_at {l : List (Int × Int)} {h : Heap} {nx q n c : Nat} (hl : 0 < l.length) (hn : n = l.length) (hc : c = l.length) (hq : ∃ cs, look h q = some (.cells true false 2 cs) ∧ cs = flat elP.fl l) : Yields elP l none (.slice (some ⟨q, 0, none⟩) n c) h nx := by
  obtain ⟨cs, hq, hcs⟩ := hq
  subst hn hc hcs
  exact Yields_own elP hl hq
theorem t123 (l : List (Int × Int)) (j : Int) (h0 : 0 ≤ j) (hj : j < l.length) (hlen : l.length ≤ 1000000) (c : Nat) (hc : l.length ≤ c) : bodyN [] [82, 140] 129 [.slice (some ⟨0, 0, none⟩) l.length c, iv j] [(0, .cells true false 2 (flat elP.fl l))] 1 (Yields elP (turnI l j.toNat) none) := by
  repeat' first
    | (exfalso
       simp only [c4A, cA_add, cA_sub, cA_fits, cA_lt, cA_le, cA_andB, cA_num, cA_subN, cA_toN, fitsK, Bool.and_eq_false_iff, decide_eq_false_iff_not] at g
       omega)
    | (exfalso
       have hc : Nat.ble (0 + (l.length - j.toNat)) (((0 : Int) + ((l.length - j.toNat : Nat) : Int) + ((j.toNat : Nat) : Int) - (0 - 0)).toNat) = false := g
       rw [Nat.ble_eq_true_of_le (by omega)] at hc
       cases hc)
    | (exfalso
       have hc : Nat.ble (0 + (l.length - j.toNat) + j.toNat) (((0 : Int) + ((l.length - j.toNat : Nat) : Int) + ((j.toNat : Nat) : Int) - (0 - 0)).toNat) = false := g
       rw [Nat.ble_eq_true_of_le (by omega)] at hc
       cases hc)
    | (((conv => whnf); refine bm (fun g => ?_) (fun g => ?_)))
  all_goals (conv => whnf)
  · refine Yields_at (q := 2) (n := 0 + (l.length - j.toNat) + j.toNat) (c := ((0 : Int) + ((l.length - j.toNat : Nat) : Int) + ((j.toNat : Nat) : Int) - (0 - 0)).toNat) (nx := 3) ?_ ?_ ?_ ?hq
    case hq => refine ⟨_, rfl, ?_⟩; exact turn_cells (l := l) (j := j.toNat) (N := ((0 : Int) + ((l.length - j.toNat : Nat) : Int) + ((j.toNat : Nat) : Int) - (0 - 0)).toNat) (o0 := 0 + 0 * 2) (s1 := (l.length - j.toNat) * 2) (d1 := 0 + j.toNat * 2) (o1 := 0 + (0 + (l.length - j.toNat)) * 2) (s2 := j.toNat * 2) (d2 := 0) (a := iv 0) (b := iv 0) (by omega) (by omega) (by omega) (by omega) (by omega) (by omega) (by omega) (by omega)
    · rw [turnI_len _ _ (by omega)]; omega
    · rw [turnI_len _ _ (by omega)]; omega
    · rw [turnI_len _ _ (by omega)]; omega
  all_goals exfalso
  all_goals first
    | (simp only [c4A, cA_add, cA_sub, cA_fits, cA_lt, cA_le, cA_andB, cA_num, cA_subN, cA_toN, fitsK, Bool.and_eq_false_iff, decide_eq_false_iff_not] at g; omega)
    | (have hx : 0 + j.toNat * 2 + (l.length - j.toNat) * 2 ≤ (flat elP.fl l).length := by rw [flat2]; omega
       have hc : Nat.ble (0 + j.toNat * 2 + (l.length - j.toNat) * 2) (flat elP.fl l).length = false := g
       rw [Nat.ble_eq_true_of_le hx] at hc
       cases hc)
    | (have hx : 0 + j.toNat * 2 ≤ (flat elP.fl l).length := by rw [flat2]; omega
       have hc : Nat.ble (0 + j.toNat * 2) (flat elP.fl l).length = false := g
       rw [Nat.ble_eq_true_of_le hx] at hc
       cases hc)
    | (have hc : Nat.ble (0 + (l.length - j.toNat)) (((0 : Int) + ((l.length - j.toNat : Nat) : Int) + ((j.toNat : Nat) : Int) - (0 - 0)).toNat) = false := g
       rw [Nat.ble_eq_true_of_le (by omega)] at hc
       cases hc)
    | (have hc : Nat.ble (0 + (l.length - j.toNat) + j.toNat) (((0 : Int) + ((l.length - j.toNat : Nat) : Int) + ((j.toNat : Nat) : Int) - (0 - 0)).toNat) = false := g
       rw [Nat.ble_eq_true_of_le (by omega)] at hc
       cases hc)
    | (have hc : Nat.ble (0 + (0 + (l.length - j.toNat)) * 2) (rep ((0 : Int) + ((l.length - j.toNat : Nat) : Int) + ((j.toNat : Nat) : Int) - (0 - 0)).toNat [iv 0, iv 0]).length = false := g
       rw [rep_len] at hc
       rw [Nat.ble_eq_true_of_le (by show _ ≤ _ * 2; omega)] at hc
       cases hc)
    | (have hc : Nat.ble (0 + (0 + (l.length - j.toNat) + j.toNat) * 2) (putN (rep ((0 : Int) + ((l.length - j.toNat : Nat) : Int) + ((j.toNat : Nat) : Int) - (0 - 0)).toNat [iv 0, iv 0]) (0 + 0 * 2) (List.take ((l.length - j.toNat) * 2) (List.drop (0 + j.toNat * 2) (flat elP.fl l)))).length = false := g
       rw [put_len (j := j.toNat) (by omega) (by omega) rfl (by omega) rfl] at hc
       rw [Nat.ble_eq_true_of_le (by omega)] at hc
       cases hc)
    | trace_state
end Go.Aw
