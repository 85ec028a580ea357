/-
  Triangles: cells of a list whose corner is taken out in place. No condition.
-/
import Derived.Test.YtmkcjbpekejgdaaGreatSe86
set_option linter.unusedSimpArgs false
set_option linter.unusedVariables false
noncomputable section
namespace Go.Aw
theorem nth_app {l J : List Value} {o : Nat} {v : Value} (h : nth l o = some v) : nth (l ++ J) o = some v := by
  rw [nth_eq] at h ⊢
  obtain ⟨hlt, he⟩ := List.getElem?_eq_some_iff.1 h
  rw [List.getElem?_append_left hlt]
  exact h
theorem getN_app {l J : List Value} : ∀ {n o : Nat} {r : List Value}, getN l o n = some r → getN (l ++ J) o n = some r
  | 0, o, r, h => h
  | n + 1, o, r, h => by
    unfold getN at h ⊢
    split at h
    · cases h
    · rename_i v hv
      rw [nth_app hv]
      split at h
      · cases h
      · rename_i r' hr
        rw [getN_app hr]
        exact h
theorem getPJ (l : List (Int × Int)) (J : List Value) {i o : Nat} (hi : i < l.length) (ho : o = i * 2) : getN (flat elP.fl l ++ J) o 2 = some [iv (at2 l i).1, iv (at2 l i).2] := by
  exact getN_app (getP l hi ho)
theorem flat_cut {l : List (Int × Int)} {q : Nat} (hq : q < l.length) : flat elP.fl l = flat elP.fl (l.take q) ++ ([iv (at2 l q).1, iv (at2 l q).2] ++ flat elP.fl (l.drop (q + 1))) := by
  have e : l = l.take q ++ (at2 l q :: l.drop (q + 1)) := by
    rw [at2_eq hq, ← List.drop_eq_getElem_cons hq, List.take_append_drop]
  conv => lhs; rw [e]
  rw [flat_append]
  rfl
theorem delJ {rest : List (Int × Int)} {J Z : List Value} {q o1 o2 a b : Nat} (hq : q < rest.length) (ho1 : o1 = q * 2) (ha : a = (rest.length - q - 1) * 2) (hb : b = (q + 1) * 2) (ho2 : o2 = (rest.length - 1) * 2) (hZ : Z.length = 2) :
    putN (putN (flat elP.fl rest ++ J) o1 (List.take a (List.drop b (flat elP.fl rest ++ J)))) o2 Z = flat elP.fl (delI rest q) ++ (Z ++ J) := by
  subst ho1 ha hb ho2
  have lA : (flat elP.fl (rest.take q)).length = q * 2 := by rw [flat2, List.length_take]; omega
  have lC : (flat elP.fl (rest.drop (q + 1))).length = (rest.length - q - 1) * 2 := by rw [flat2, List.length_drop]; omega
  have lR : (flat elP.fl rest).length = rest.length * 2 := flat2 rest
  have eR := flat_cut hq
  have e1 : List.drop ((q + 1) * 2) (flat elP.fl rest ++ J) = flat elP.fl (rest.drop (q + 1)) ++ J := by
    rw [List.drop_append_of_le_length (by omega), flat_drop rest (q + 1) (by omega)]
  have e2 : List.take ((rest.length - q - 1) * 2) (flat elP.fl (rest.drop (q + 1)) ++ J) = flat elP.fl (rest.drop (q + 1)) := List.take_left' lC
  have e3 : List.take (q * 2) (flat elP.fl rest ++ J) = flat elP.fl (rest.take q) := by
    rw [List.take_append_of_le_length (by omega), flat_take rest q (by omega)]
  rw [e1, e2]
  have eIn : putN (flat elP.fl rest ++ J) (q * 2) (flat elP.fl (rest.drop (q + 1))) = (flat elP.fl (rest.take q) ++ flat elP.fl (rest.drop (q + 1))) ++ (List.drop ((rest.length - 1) * 2) (flat elP.fl rest) ++ J) := by
    unfold putN
    rw [e3, lC, show q * 2 + (rest.length - q - 1) * 2 = (rest.length - 1) * 2 by omega, List.drop_append_of_le_length (by omega)]
  rw [eIn]
  have lI : (flat elP.fl (rest.take q) ++ flat elP.fl (rest.drop (q + 1))).length = (rest.length - 1) * 2 := by rw [List.length_append, lA, lC]; omega
  have lD : (List.drop ((rest.length - 1) * 2) (flat elP.fl rest)).length = 2 := by rw [List.length_drop, lR]; omega
  unfold putN
  rw [List.take_left' lI, hZ]
  have e4 : List.drop ((rest.length - 1) * 2 + 2) (flat elP.fl (List.take q rest) ++ flat elP.fl (List.drop (q + 1) rest) ++ (List.drop ((rest.length - 1) * 2) (flat elP.fl rest) ++ J)) = J := by
    rw [← List.append_assoc]
    exact List.drop_left' (by rw [List.length_append, lI, lD])
  rw [e4]
  unfold delI
  rw [flat_append, List.append_assoc]
theorem delJ0 {rest : List (Int × Int)} {J Z : List Value} {q o1 o2 : Nat} (hq : q + 1 = rest.length) (ho1 : o1 = q * 2) (ho2 : o2 = (rest.length - 1) * 2) (hZ : Z.length = 2) :
    putN (putN (flat elP.fl rest ++ J) o1 []) o2 Z = flat elP.fl (delI rest q) ++ (Z ++ J) := by
  have h := delJ (rest := rest) (J := J) (Z := Z) (q := q) (o1 := o1) (o2 := o2) (a := 0) (b := (q + 1) * 2) (by omega) ho1 (by omega) rfl ho2 hZ
  rw [List.take_zero] at h
  exact h
end Go.Aw
