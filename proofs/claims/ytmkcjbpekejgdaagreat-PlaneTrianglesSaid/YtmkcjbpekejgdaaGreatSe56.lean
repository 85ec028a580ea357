/-
  Changed lists: the reference's three; numbers out of the span. No condition.
-/
import Derived.Test.YtmkcjbpekejgdaaGreatSe55
set_option linter.unusedSimpArgs false
set_option linter.unusedVariables false
noncomputable section
namespace Go.Aw
set_option maxRecDepth 100000
def SMove (l : List (Int × Int)) : List Value → Option (Bool × List (Int × Int) × Option Int)
  | [.int .i64 x, .int .i64 y] => some (decide (l.length ≤ 1000000000), chgO l ([1, x, 1, y].any outI) (affF 1 x 1 y), some (chgE l ([1, x, 1, y].any outI) (affF 1 x 1 y)))
  | _ => none
def SMirror (l : List (Int × Int)) : List Value → Option (Bool × List (Int × Int) × Option Int)
  | [.int .i64 x] => some (decide (l.length ≤ 1000000000), chgO l ([-1, x, 1, 0].any outI) (affF (-1) x 1 0), some (chgE l ([-1, x, 1, 0].any outI) (affF (-1) x 1 0)))
  | _ => none
def SEnl (l : List (Int × Int)) : List Value → Option (Bool × List (Int × Int) × Option Int)
  | [.int .i64 x] => some (decide (l.length ≤ 1000000000), chgO l ([x, 0, x, 0].any outI) (affF x 0 x 0), some (chgE l ([x, 0, x, 0].any outI) (affF x 0 x 0)))
  | _ => none
theorem SMove_inv {l : List (Int × Int)} {r : List Value} {out : List (Int × Int)} {e : Option Int} (hs : SMove l r = some (true, out, e)) : ∃ x y, r = [iv x, iv y] ∧ l.length ≤ 1000000000 ∧ out = chgO l ([1, x, 1, y].any outI) (affF 1 x 1 y) ∧ e = some (chgE l ([1, x, 1, y].any outI) (affF 1 x 1 y)) := by
  unfold SMove at hs
  split at hs
  · rename_i x y
    injection hs with hs
    injection hs with h1 h2
    injection h2 with h2 h3
    exact ⟨x, y, rfl, by simpa using h1, h2.symm, h3.symm⟩
  · cases hs
theorem SMirror_inv {l : List (Int × Int)} {r : List Value} {out : List (Int × Int)} {e : Option Int} (hs : SMirror l r = some (true, out, e)) : ∃ x, r = [iv x] ∧ l.length ≤ 1000000000 ∧ out = chgO l ([-1, x, 1, 0].any outI) (affF (-1) x 1 0) ∧ e = some (chgE l ([-1, x, 1, 0].any outI) (affF (-1) x 1 0)) := by
  unfold SMirror at hs
  split at hs
  · rename_i x
    injection hs with hs
    injection hs with h1 h2
    injection h2 with h2 h3
    exact ⟨x, rfl, by simpa using h1, h2.symm, h3.symm⟩
  · cases hs
theorem SEnl_inv {l : List (Int × Int)} {r : List Value} {out : List (Int × Int)} {e : Option Int} (hs : SEnl l r = some (true, out, e)) : ∃ x, r = [iv x] ∧ l.length ≤ 1000000000 ∧ out = chgO l ([x, 0, x, 0].any outI) (affF x 0 x 0) ∧ e = some (chgE l ([x, 0, x, 0].any outI) (affF x 0 x 0)) := by
  unfold SEnl at hs
  split at hs
  · rename_i x
    injection hs with hs
    injection hs with h1 h2
    injection h2 with h2 h3
    exact ⟨x, rfl, by simpa using h1, h2.symm, h3.symm⟩
  · cases hs
def X130 : Nat × XF := (137, gX (s1 cI fun n => (true, .bool (outI n))))
theorem x130 : XOK Go.Proofs.Tryz.prog X130.1 X130.2 := x1 cI (xl := []) .nil (fun _ => rfl) fun n _ => by
  unfold Does1
  repeat' ((conv => whnf); refine bm (fun g => ?_) (fun g => ?_))
  all_goals (conv => whnf)
  all_goals (simp only [cA_lt, cA_eqB, beq_iff_eq, beq_eq_false_iff_ne, ne_eq, Bool.not_eq_false, decide_eq_true_eq, decide_eq_false_iff_not] at *)
  all_goals (show Value.bool _ = .bool _; congr 1; simp [outI, *] <;> omega)
def badI : List Int → Nat → Int
  | [], _ => -1
  | p :: r, i => if outI p then i else badI r (i + 1)
def fn130 : Value := .func (.func 137) #[] #[]
def S142 (l : List Int) : List Value → Option (Bool × Value)
  | [.func (.func 137) ⟨[]⟩ ⟨[]⟩] => some (decide (l.length ≤ 1000000000), iv (badI l 0))
  | _ => none
theorem S142_inv {l : List Int} {r : List Value} {v : Value} (h : S142 l r = some (true, v)) : r = [fn130] ∧ l.length ≤ 1000000000 ∧ v = iv (badI l 0) := by
  unfold S142 at h
  split at h
  · injection h with h
    injection h with h1 h2
    exact ⟨rfl, by simpa using h1, h2.symm⟩
  · cases h
def e142 (l : List Int) (c : Nat) (j : Int) : List (Nat × Value) := [(0, .slice (some ⟨0, 0, none⟩) l.length c), (1, fn130), (7, iv l.length), (8, iv j)]
def hI (l : List Int) : Heap := [(0, .cells false true 1 (flat elI.fl l))]
def X142 : Nat × XF := (161, lX elI S142)
theorem x142 : XOK Go.Proofs.Tryz.prog X142.1 X142.2 := lX_ok elI (body_calls (xl := [X130]) (.cons x130 .nil)) fun l r v hs => by
  obtain ⟨rfl, hlen, rfl⟩ := S142_inv hs
  refine ⟨rfl, rfl, fun c => ?_⟩
  (conv => whnf)
  refine ⟨fun n e h nx => ∃ (i : Nat) (j : Int), j = i ∧ i ≤ l.length ∧ n = l.length - i ∧ badI l 0 = badI (l.drop i) i ∧ e = e142 l c j ∧ h = hI l ∧ nx = 1, ⟨l.length, ?_⟩, ?_⟩
  · refine Into_id (e0 := e142 l c 0) (h0 := hI l) (n0 := 1) ⟨0, 0, rfl, Nat.zero_le _, rfl, rfl, rfl, rfl, rfl⟩ ?_ ?_ (Nat.le_refl _)
    · unfold e142
      refine List.forall_mem_cons.2 ⟨⟨rfl, by decide, fun h => by cases h⟩, List.forall_mem_cons.2 ⟨⟨(by show _ = some (ren id fn130); rw [ren_g (show gT fn130 = true from rfl)]; rfl), scT_g rfl⟩, ?_⟩⟩
      ((repeat' (refine List.forall_mem_cons.2 ⟨⟨rfl, ?_⟩, ?_⟩; (first | exact scT_g rfl | exact ⟨by decide, rfl⟩ | exact ⟨by decide, fun h => (by cases h)⟩))); exact fun _ h => (by cases h))
    · unfold hI
      ((repeat' (refine List.forall_mem_cons.2 ⟨⟨Nat.le_of_ble_eq_true rfl, _, rfl, ?_⟩, ?_⟩; (first | exact ObjRen_g (flat_g _ _) | exact ObjRen_j rfl rfl))); exact fun _ h => (by cases h))
  · rintro n e h nx ⟨i, j, hj, hi, rfl, hb, rfl, rfl, rfl⟩
    unfold e142 hI
    ((conv => whnf); refine bm (fun h1 => ?_) (fun h1 => ?_))
    · have hlt : i < l.length := by simp [cfgS, std] at h1; omega
      have hd : l.drop i = atI l i :: l.drop (i + 1) := by
        unfold atI
        rw [List.getD_eq_getElem?_getD, List.getElem?_eq_getElem hlt]
        exact List.drop_eq_getElem_cons hlt
      rw [hd] at hb
      ((conv => whnf); refine bm (fun h2 => ?_) (fun h2 => ?_))
      · (conv => whnf)
        refine boV (getI l hlt ?_) ?_
        · simp [cfgS, std]; omega
        ((conv => whnf); refine bm (fun h3 => ?_) (fun h3 => ?_))
        · (conv => whnf)
          rw [hb, hj]
          simp only [badI, show outI (atI l i) = true from h3]
          rfl
        · ((conv => whnf); refine bm (fun h4 => ?_) (fun h4 => ?_))
          · (conv => whnf)
            refine ⟨l.length - (i + 1), by omega, ?_⟩
            refine Into_id (e0 := e142 l c (j + 1)) (h0 := hI l) (n0 := 1) ⟨i + 1, j + 1, by omega, hlt, rfl, ?_, rfl, rfl, rfl⟩ ?_ ?_ (Nat.le_refl _)
            · rw [hb]; simp only [badI, show outI (atI l i) = false from h3, Bool.false_eq_true, if_false]
            · unfold e142
              refine List.forall_mem_cons.2 ⟨⟨rfl, by decide, fun h => by cases h⟩, List.forall_mem_cons.2 ⟨⟨(by show _ = some (ren id fn130); rw [ren_g (show gT fn130 = true from rfl)]; rfl), scT_g rfl⟩, ?_⟩⟩
              ((repeat' (refine List.forall_mem_cons.2 ⟨⟨rfl, ?_⟩, ?_⟩; (first | exact scT_g rfl | exact ⟨by decide, rfl⟩ | exact ⟨by decide, fun h => (by cases h)⟩))); exact fun _ h => (by cases h))
            · unfold hI
              ((repeat' (refine List.forall_mem_cons.2 ⟨⟨Nat.le_of_ble_eq_true rfl, _, rfl, ?_⟩, ?_⟩; (first | exact ObjRen_g (flat_g _ _) | exact ObjRen_j rfl rfl))); exact fun _ h => (by cases h))
          · simp [cfgS, std, fitsK] at h4
            omega
      · simp [cfgS, std] at h2
        omega
    · have hlt : l.length ≤ i := by simp [cfgS, std] at h1; omega
      (conv => whnf)
      rw [hb, List.drop_eq_nil_of_le hlt]
      rfl
theorem badI_all : ∀ (l : List Int) (i : Nat), decide (0 ≤ badI l i) = l.any outI
  | [], i => rfl
  | p :: r, i => by
    by_cases hp : outI p = true
    · simp [badI, hp]
    · have hp' : outI p = false := by simpa using hp
      simp only [badI, List.any_cons, hp', Bool.false_or, Bool.false_eq_true, if_false]
      exact badI_all r (i + 1)
def S129 (l : List Int) : List Value → Option (Bool × Value)
  | [.func (.func 137) ⟨[]⟩ ⟨[]⟩] => some (decide (l.length ≤ 1000000000), .bool (l.any outI))
  | _ => none
theorem S129_inv {l : List Int} {r : List Value} {v : Value} (h : S129 l r = some (true, v)) : r = [fn130] ∧ l.length ≤ 1000000000 ∧ v = .bool (l.any outI) := by
  unfold S129 at h
  split at h
  · injection h with h
    injection h with h1 h2
    exact ⟨rfl, by simpa using h1, h2.symm⟩
  · cases h
def X129 : Nat × XF := (136, lX elI S129)
theorem x129 : XOK Go.Proofs.Tryz.prog X129.1 X129.2 := lX_ok elI (body_calls (xl := [X142]) (.cons x142 .nil)) fun l r v hs => by
  obtain ⟨rfl, hlen, rfl⟩ := S129_inv hs
  refine ⟨rfl, rfl, fun c => ?_⟩
  (conv => whnf)
  refine ⟨l, LsAt_own elI rfl, ?_⟩
  ((conv => whnf); refine bm (fun h1 => ?_) (fun h1 => ?_))
  · (conv => whnf)
    rw [← badI_all l 0]
    rfl
  · exact absurd hlen (by simpa using h1)
end Go.Aw
