/-
  Parts of the proof, put together. No condition.
-/
import Derived.Test.YtmkcjbpekejgdaaGreatSeG
import Derived.Test.YtmkcjbpekejgdaaGreatAwE
import Derived.Test.YtmkcjbpekejgdaaGreatSeH
/-
  SamePoints. No condition.
-/
set_option linter.unusedSimpArgs false
set_option linter.unusedVariables false
noncomputable section
namespace Go.Aw
set_option maxRecDepth 100000
def samePB (l1 l2 : List (Int × Int)) : Bool := decide (l1 = l2)
def SSame (l1 l2 : List (Int × Int)) : Option (Bool × Value) := some (decide (l1.length ≤ 1000000000), .bool (samePB l1 l2))
def e48 (l1 l2 : List (Int × Int)) (c1 c2 : Nat) (j : Int) : List (Nat × Value) := [(0, .slice (some ⟨0, 0, none⟩) l1.length c1), (1, .slice (some ⟨1, 0, none⟩) l2.length c2), (5, iv j)]
def h48 (l1 l2 : List (Int × Int)) : Heap := [(0, .cells false true 2 (flat elP.fl l1)), (1, .cells false true 2 (flat elP.fl l2))]
theorem same_of {l1 l2 : List (Int × Int)} (hl : l1.length = l2.length) (h : ∀ k, k < l1.length → at2 l1 k = at2 l2 k) : l1 = l2 := by
  refine List.ext_getElem hl fun k h1 h2 => ?_
  have := h k h1
  rw [at2_eq h1, at2_eq h2] at this
  exact this
def X48 : Nat × XF := (24, l2X elP SSame)
theorem x48 : XOK Go.Proofs.Tryz.prog X48.1 X48.2 := l2X_ok elP (f := 24) (s := SSame) (body_calls (xl := []) .nil) fun l1 l2 v hs => by
  have hs' : l1.length ≤ 1000000000 ∧ v = .bool (samePB l1 l2) := by
    unfold SSame at hs
    injection hs with hs; injection hs with h1 h2
    exact ⟨by simpa using h1, h2.symm⟩
  obtain ⟨hlen, rfl⟩ := hs'
  refine ⟨rfl, fun c1 c2 => ?_⟩
  ((conv => whnf); refine bm (fun h1 => ?_) (fun h1 => ?_))
  · (conv => whnf)
    have hne : l1 ≠ l2 := by
      intro e
      simp only [cA_eq, cA_notB, cA_num, e, decide_true] at h1
      cases h1
    show Value.bool false = .bool (decide (l1 = l2))
    rw [decide_eq_false hne]
  · have hll : l1.length = l2.length := by
      simp only [cA_eq, cA_notB, cA_num, Bool.not_eq_false', decide_eq_true_eq] at h1
      omega
    (conv => whnf)
    refine ⟨fun n e h nx => ∃ (i : Nat) (j : Int), j = i ∧ i ≤ l1.length ∧ n = l1.length - i ∧ (∀ k, k < i → at2 l1 k = at2 l2 k) ∧ e = e48 l1 l2 c1 c2 j ∧ h = h48 l1 l2 ∧ nx = 2, ⟨l1.length, ?_⟩, ?_⟩
    · refine Into_id (e0 := e48 l1 l2 c1 c2 0) (h0 := h48 l1 l2) (n0 := 2) ⟨0, 0, rfl, Nat.zero_le _, rfl, fun k h => absurd h (Nat.not_lt_zero k), rfl, rfl, rfl⟩ ?_ ?_ (by decide)
      · unfold e48
        ((repeat' (refine List.forall_mem_cons.2 ⟨⟨rfl, ?_⟩, ?_⟩; (first | exact scT_g rfl | exact ⟨by decide, rfl⟩ | exact ⟨by decide, fun h => (by cases h)⟩))); exact fun _ h => (by cases h))
      · unfold h48
        ((repeat' (refine List.forall_mem_cons.2 ⟨⟨Nat.le_of_ble_eq_true rfl, _, rfl, ?_⟩, ?_⟩; (first | exact ObjRen_g (flat_g _ _) | exact ObjRen_j rfl rfl))); exact fun _ h => (by cases h))
    · rintro n e h nx ⟨i, j, hj, hi, rfl, hb, rfl, rfl, rfl⟩
      unfold e48 h48
      ((conv => whnf); refine bm (fun g1 => ?_) (fun g1 => ?_))
      · have hlt : i < l1.length := by simp [cfgS, std] at g1; omega
        have hlt2 : i < l2.length := by omega
        ((conv => whnf); refine bm (fun g2 => ?_) (fun g2 => ?_))
        · (conv => whnf)
          refine boL (getP l1 hlt ?_) ?_
          · simp [cfgS, std]; omega
          ((conv => whnf); refine bm (fun g3 => ?_) (fun g3 => ?_))
          · (conv => whnf)
            refine boL (getP l2 hlt2 ?_) ?_
            · simp [cfgS, std]; omega
            ((conv => whnf); refine bm (fun g4 => ?_) (fun g4 => ?_))
            · (conv => whnf)
              have hne : l1 ≠ l2 := by
                intro e
                have e1 : (at2 l1 i).1 = (at2 l2 i).1 := by rw [e]
                have e2 : (at2 l1 i).2 = (at2 l2 i).2 := by rw [e]
                simp [cA_eq, cA_notB, cA_andB, e1, e2] at g4
              show Value.bool false = .bool (decide (l1 = l2))
              rw [decide_eq_false hne]
            · ((conv => whnf); refine bm (fun g5 => ?_) (fun g5 => ?_))
              · (conv => whnf)
                refine ⟨l1.length - (i + 1), by omega, ?_⟩
                refine Into_id (e0 := e48 l1 l2 c1 c2 (j + 1)) (h0 := h48 l1 l2) (n0 := 2) ⟨i + 1, j + 1, by omega, hlt, rfl, fun k hk => ?_, rfl, rfl, rfl⟩ ?_ ?_ (by decide)
                · by_cases hki : k = i
                  · subst hki
                    simp only [cA_eq, cA_notB, cA_andB, Bool.not_eq_false', Bool.and_eq_true, decide_eq_true_eq] at g4
                    exact Prod.ext g4.1 g4.2.1
                  · exact hb k (by omega)
                · unfold e48
                  ((repeat' (refine List.forall_mem_cons.2 ⟨⟨rfl, ?_⟩, ?_⟩; (first | exact scT_g rfl | exact ⟨by decide, rfl⟩ | exact ⟨by decide, fun h => (by cases h)⟩))); exact fun _ h => (by cases h))
                · unfold h48
                  ((repeat' (refine List.forall_mem_cons.2 ⟨⟨Nat.le_of_ble_eq_true rfl, _, rfl, ?_⟩, ?_⟩; (first | exact ObjRen_g (flat_g _ _) | exact ObjRen_j rfl rfl))); exact fun _ h => (by cases h))
              · exfalso; simp only [cA_add, cA_fits, fitsK, Bool.eq_false_iff, ne_eq, Bool.and_eq_true, decide_eq_true_eq] at g5; omega
          · exfalso; simp only [cA_lt, cA_le, cA_andB, cA_num, Bool.eq_false_iff, ne_eq, Bool.and_eq_true, decide_eq_true_eq] at g3; omega
        · exfalso; simp only [cA_lt, cA_le, cA_andB, cA_num, Bool.eq_false_iff, ne_eq, Bool.and_eq_true, decide_eq_true_eq] at g2; omega
      · have hge : i = l1.length := by simp [cfgS, std] at g1; omega
        subst hge
        (conv => whnf)
        show Value.bool true = .bool (decide (l1 = l2))
        rw [decide_eq_true (same_of hll hb)]
end Go.Aw
end

/-
  Changed lists: what is asked; the reference's. No condition.
-/
set_option linter.unusedSimpArgs false
set_option linter.unusedVariables false
noncomputable section
namespace Go.Aw
set_option maxRecDepth 100000
def chgO (l : List (Int × Int)) (bad : Bool) (F : Int × Int → Int × Int) : List (Int × Int) := if l.length ≤ 400 ∧ l.all rightS = true ∧ bad = false ∧ (l.map F).all rightS = true then l.map F else []
def chgE (l : List (Int × Int)) (bad : Bool) (F : Int × Int → Int × Int) : Int := if 400 < l.length then 2 else if l.all rightS = true ∧ bad = false ∧ (l.map F).all rightS = true then 0 else 1
theorem chg_limit {l : List (Int × Int)} {bad : Bool} {F : Int × Int → Int × Int} (h : 400 < l.length) : chgO l bad F = [] ∧ chgE l bad F = 2 := by
  rw [chgO, chgE, if_neg (by omega), if_pos h]
  exact ⟨rfl, rfl⟩
theorem chg_arg {l : List (Int × Int)} {bad : Bool} {F : Int × Int → Int × Int} (h : ¬ 400 < l.length) (h2 : ¬ (l.all rightS = true ∧ bad = false ∧ (l.map F).all rightS = true)) : chgO l bad F = [] ∧ chgE l bad F = 1 := by
  rw [chgO, chgE, if_neg (fun h3 => h2 h3.2), if_neg h, if_neg h2]
  exact ⟨rfl, rfl⟩
theorem chg_ok {l : List (Int × Int)} {bad : Bool} {F : Int × Int → Int × Int} (h : ¬ 400 < l.length) (h2 : l.all rightS = true ∧ bad = false ∧ (l.map F).all rightS = true) : chgO l bad F = l.map F ∧ chgE l bad F = 0 := by
  rw [chgO, chgE, if_pos ⟨by omega, h2⟩, if_neg h, if_pos h2]
  exact ⟨rfl, rfl⟩
def outI (n : Int) : Bool := decide (n < -20000) || decide (20000 < n)
def affF (a b c d : Int) (p : Int × Int) : Int × Int := (a * p.1 + b, c * p.2 + d)
def S92 (l : List (Int × Int)) : List Value → Option (Bool × List (Int × Int) × Option Int)
  | [.int .i64 a, .int .i64 b, .int .i64 c, .int .i64 d] => some (decide (l.length ≤ 1000000000), chgO l ([a, b, c, d].any outI) (affF a b c d), some (chgE l ([a, b, c, d].any outI) (affF a b c d)))
  | _ => none
theorem S92_inv {l : List (Int × Int)} {r : List Value} {out : List (Int × Int)} {e : Option Int} (hs : S92 l r = some (true, out, e)) : ∃ a b c d, r = [iv a, iv b, iv c, iv d] ∧ l.length ≤ 1000000000 ∧ out = chgO l ([a, b, c, d].any outI) (affF a b c d) ∧ e = some (chgE l ([a, b, c, d].any outI) (affF a b c d)) := by
  unfold S92 at hs
  split at hs
  · rename_i a b c d
    injection hs with hs
    injection hs with h1 h2
    injection h2 with h2 h3
    exact ⟨a, b, c, d, rfl, by simpa using h1, h2.symm, h3.symm⟩
  · cases hs
theorem Yields_no {α : Type} (E : El α) {e : Option Int} {h : Heap} {nx : Nat} : Yields E [] e (wrapV e (.slice none 0 0)) h nx := rfl
def atI (l : List Int) (i : Nat) : Int := l.getD i 0
theorem getI (l : List Int) {i o : Nat} (hi : i < l.length) (ho : o = i) : nth (flat elI.fl l) o = some (iv (atI l i)) := by
  have : atI l i = l[i] := by
    unfold atI
    rw [List.getD_eq_getElem?_getD, List.getElem?_eq_getElem hi]
    rfl
  rw [this]
  exact nth_flat elI l (k := 0) hi rfl (by decide) (by simp [ho, elI])
def e92a (l : List (Int × Int)) (cc : Nat) (a b c d j : Int) : List (Nat × Value) := [(0, .slice (some ⟨0, 0, none⟩) l.length cc), (1, iv a), (2, iv b), (3, iv c), (4, iv d), (29, .slice (some ⟨1, 0, none⟩) 4 4), (30, iv 4), (31, iv j)]
def h92a (l : List (Int × Int)) (ns : List Int) : Heap := [(0, .cells false true 2 (flat elP.fl l)), (1, .cells true false 1 (flat elI.fl ns))]
def e92b (l : List (Int × Int)) (cc : Nat) (a b c d : Int) (v : Value) (j : Int) : List (Nat × Value) := [(0, .slice (some ⟨0, 0, none⟩) l.length cc), (1, iv a), (2, iv b), (3, iv c), (4, iv d), (15, v), (16, iv j)]
def h92b (l out : List (Int × Int)) : Heap := [(0, .cells false true 2 (flat elP.fl l)), (1, .cells true false 2 (flat elP.fl out))]
theorem take_map_next {l : List (Int × Int)} {i : Nat} (h : i < l.length) (F : Int × Int → Int × Int) : (l.take (i + 1)).map F = (l.take i).map F ++ [F (at2 l i)] := by
  rw [List.take_add_one, List.getElem?_eq_getElem h, at2_eq h, List.map_append]
  rfl
end Go.Aw
end

/-
  Changed lists: the reference's three; numbers out of the span. No condition.
-/
set_option linter.unusedSimpArgs false
set_option linter.unusedVariables false
noncomputable section
namespace Go.Aw
set_option maxRecDepth 100000
def SMove (l : List (Int × Int)) : List Value → Option (Bool × List (Int × Int) × Option Int)
  | [.int .i64 x, .int .i64 y] => some (decide (l.length ≤ 1000000000), chgO l ([1, x, 1, y].any outI) (affF 1 x 1 y), some (chgE l ([1, x, 1, y].any outI) (affF 1 x 1 y)))
  | _ => none
def SMirror (l : List (Int × Int)) : List Value → Option (Bool × List (Int × Int) × Option Int)
  | [.int .i64 x] => some (decide (l.length ≤ 1000000000), chgO l ([-1, x, 1, 0].any outI) (affF (-1) x 1 0), some (chgE l ([-1, x, 1, 0].any outI) (affF (-1) x 1 0)))
  | _ => none
def SEnl (l : List (Int × Int)) : List Value → Option (Bool × List (Int × Int) × Option Int)
  | [.int .i64 x] => some (decide (l.length ≤ 1000000000), chgO l ([x, 0, x, 0].any outI) (affF x 0 x 0), some (chgE l ([x, 0, x, 0].any outI) (affF x 0 x 0)))
  | _ => none
theorem SMove_inv {l : List (Int × Int)} {r : List Value} {out : List (Int × Int)} {e : Option Int} (hs : SMove l r = some (true, out, e)) : ∃ x y, r = [iv x, iv y] ∧ l.length ≤ 1000000000 ∧ out = chgO l ([1, x, 1, y].any outI) (affF 1 x 1 y) ∧ e = some (chgE l ([1, x, 1, y].any outI) (affF 1 x 1 y)) := by
  unfold SMove at hs
  split at hs
  · rename_i x y
    injection hs with hs
    injection hs with h1 h2
    injection h2 with h2 h3
    exact ⟨x, y, rfl, by simpa using h1, h2.symm, h3.symm⟩
  · cases hs
theorem SMirror_inv {l : List (Int × Int)} {r : List Value} {out : List (Int × Int)} {e : Option Int} (hs : SMirror l r = some (true, out, e)) : ∃ x, r = [iv x] ∧ l.length ≤ 1000000000 ∧ out = chgO l ([-1, x, 1, 0].any outI) (affF (-1) x 1 0) ∧ e = some (chgE l ([-1, x, 1, 0].any outI) (affF (-1) x 1 0)) := by
  unfold SMirror at hs
  split at hs
  · rename_i x
    injection hs with hs
    injection hs with h1 h2
    injection h2 with h2 h3
    exact ⟨x, rfl, by simpa using h1, h2.symm, h3.symm⟩
  · cases hs
theorem SEnl_inv {l : List (Int × Int)} {r : List Value} {out : List (Int × Int)} {e : Option Int} (hs : SEnl l r = some (true, out, e)) : ∃ x, r = [iv x] ∧ l.length ≤ 1000000000 ∧ out = chgO l ([x, 0, x, 0].any outI) (affF x 0 x 0) ∧ e = some (chgE l ([x, 0, x, 0].any outI) (affF x 0 x 0)) := by
  unfold SEnl at hs
  split at hs
  · rename_i x
    injection hs with hs
    injection hs with h1 h2
    injection h2 with h2 h3
    exact ⟨x, rfl, by simpa using h1, h2.symm, h3.symm⟩
  · cases hs
def X130 : Nat × XF := (137, gX (s1 cI fun n => (true, .bool (outI n))))
theorem x130 : XOK Go.Proofs.Tryz.prog X130.1 X130.2 := x1 cI (xl := []) .nil (fun _ => rfl) fun n _ => by
  unfold Does1
  repeat' ((conv => whnf); refine bm (fun g => ?_) (fun g => ?_))
  all_goals (conv => whnf)
  all_goals (simp only [cA_lt, cA_eqB, beq_iff_eq, beq_eq_false_iff_ne, ne_eq, Bool.not_eq_false, decide_eq_true_eq, decide_eq_false_iff_not] at *)
  all_goals (show Value.bool _ = .bool _; congr 1; simp [outI, *] <;> omega)
def badI : List Int → Nat → Int
  | [], _ => -1
  | p :: r, i => if outI p then i else badI r (i + 1)
def fn130 : Value := .func (.func 137) #[] #[]
def S142 (l : List Int) : List Value → Option (Bool × Value)
  | [.func (.func 137) ⟨[]⟩ ⟨[]⟩] => some (decide (l.length ≤ 1000000000), iv (badI l 0))
  | _ => none
theorem S142_inv {l : List Int} {r : List Value} {v : Value} (h : S142 l r = some (true, v)) : r = [fn130] ∧ l.length ≤ 1000000000 ∧ v = iv (badI l 0) := by
  unfold S142 at h
  split at h
  · injection h with h
    injection h with h1 h2
    exact ⟨rfl, by simpa using h1, h2.symm⟩
  · cases h
def e142 (l : List Int) (c : Nat) (j : Int) : List (Nat × Value) := [(0, .slice (some ⟨0, 0, none⟩) l.length c), (1, fn130), (7, iv l.length), (8, iv j)]
def hI (l : List Int) : Heap := [(0, .cells false true 1 (flat elI.fl l))]
def X142 : Nat × XF := (161, lX elI S142)
theorem x142 : XOK Go.Proofs.Tryz.prog X142.1 X142.2 := lX_ok elI (body_calls (xl := [X130]) (.cons x130 .nil)) fun l r v hs => by
  obtain ⟨rfl, hlen, rfl⟩ := S142_inv hs
  refine ⟨rfl, rfl, fun c => ?_⟩
  (conv => whnf)
  refine ⟨fun n e h nx => ∃ (i : Nat) (j : Int), j = i ∧ i ≤ l.length ∧ n = l.length - i ∧ badI l 0 = badI (l.drop i) i ∧ e = e142 l c j ∧ h = hI l ∧ nx = 1, ⟨l.length, ?_⟩, ?_⟩
  · refine Into_id (e0 := e142 l c 0) (h0 := hI l) (n0 := 1) ⟨0, 0, rfl, Nat.zero_le _, rfl, rfl, rfl, rfl, rfl⟩ ?_ ?_ (Nat.le_refl _)
    · unfold e142
      refine List.forall_mem_cons.2 ⟨⟨rfl, by decide, fun h => by cases h⟩, List.forall_mem_cons.2 ⟨⟨(by show _ = some (ren id fn130); rw [ren_g (show gT fn130 = true from rfl)]; rfl), scT_g rfl⟩, ?_⟩⟩
      ((repeat' (refine List.forall_mem_cons.2 ⟨⟨rfl, ?_⟩, ?_⟩; (first | exact scT_g rfl | exact ⟨by decide, rfl⟩ | exact ⟨by decide, fun h => (by cases h)⟩))); exact fun _ h => (by cases h))
    · unfold hI
      ((repeat' (refine List.forall_mem_cons.2 ⟨⟨Nat.le_of_ble_eq_true rfl, _, rfl, ?_⟩, ?_⟩; (first | exact ObjRen_g (flat_g _ _) | exact ObjRen_j rfl rfl))); exact fun _ h => (by cases h))
  · rintro n e h nx ⟨i, j, hj, hi, rfl, hb, rfl, rfl, rfl⟩
    unfold e142 hI
    ((conv => whnf); refine bm (fun h1 => ?_) (fun h1 => ?_))
    · have hlt : i < l.length := by simp [cfgS, std] at h1; omega
      have hd : l.drop i = atI l i :: l.drop (i + 1) := by
        unfold atI
        rw [List.getD_eq_getElem?_getD, List.getElem?_eq_getElem hlt]
        exact List.drop_eq_getElem_cons hlt
      rw [hd] at hb
      ((conv => whnf); refine bm (fun h2 => ?_) (fun h2 => ?_))
      · (conv => whnf)
        refine boV (getI l hlt ?_) ?_
        · simp [cfgS, std]; omega
        ((conv => whnf); refine bm (fun h3 => ?_) (fun h3 => ?_))
        · (conv => whnf)
          rw [hb, hj]
          simp only [badI, show outI (atI l i) = true from h3]
          rfl
        · ((conv => whnf); refine bm (fun h4 => ?_) (fun h4 => ?_))
          · (conv => whnf)
            refine ⟨l.length - (i + 1), by omega, ?_⟩
            refine Into_id (e0 := e142 l c (j + 1)) (h0 := hI l) (n0 := 1) ⟨i + 1, j + 1, by omega, hlt, rfl, ?_, rfl, rfl, rfl⟩ ?_ ?_ (Nat.le_refl _)
            · rw [hb]; simp only [badI, show outI (atI l i) = false from h3, Bool.false_eq_true, if_false]
            · unfold e142
              refine List.forall_mem_cons.2 ⟨⟨rfl, by decide, fun h => by cases h⟩, List.forall_mem_cons.2 ⟨⟨(by show _ = some (ren id fn130); rw [ren_g (show gT fn130 = true from rfl)]; rfl), scT_g rfl⟩, ?_⟩⟩
              ((repeat' (refine List.forall_mem_cons.2 ⟨⟨rfl, ?_⟩, ?_⟩; (first | exact scT_g rfl | exact ⟨by decide, rfl⟩ | exact ⟨by decide, fun h => (by cases h)⟩))); exact fun _ h => (by cases h))
            · unfold hI
              ((repeat' (refine List.forall_mem_cons.2 ⟨⟨Nat.le_of_ble_eq_true rfl, _, rfl, ?_⟩, ?_⟩; (first | exact ObjRen_g (flat_g _ _) | exact ObjRen_j rfl rfl))); exact fun _ h => (by cases h))
          · simp [cfgS, std, fitsK] at h4
            omega
      · simp [cfgS, std] at h2
        omega
    · have hlt : l.length ≤ i := by simp [cfgS, std] at h1; omega
      (conv => whnf)
      rw [hb, List.drop_eq_nil_of_le hlt]
      rfl
theorem badI_all : ∀ (l : List Int) (i : Nat), decide (0 ≤ badI l i) = l.any outI
  | [], i => rfl
  | p :: r, i => by
    by_cases hp : outI p = true
    · simp [badI, hp]
    · have hp' : outI p = false := by simpa using hp
      simp only [badI, List.any_cons, hp', Bool.false_or, Bool.false_eq_true, if_false]
      exact badI_all r (i + 1)
def S129 (l : List Int) : List Value → Option (Bool × Value)
  | [.func (.func 137) ⟨[]⟩ ⟨[]⟩] => some (decide (l.length ≤ 1000000000), .bool (l.any outI))
  | _ => none
theorem S129_inv {l : List Int} {r : List Value} {v : Value} (h : S129 l r = some (true, v)) : r = [fn130] ∧ l.length ≤ 1000000000 ∧ v = .bool (l.any outI) := by
  unfold S129 at h
  split at h
  · injection h with h
    injection h with h1 h2
    exact ⟨rfl, by simpa using h1, h2.symm⟩
  · cases h
def X129 : Nat × XF := (136, lX elI S129)
theorem x129 : XOK Go.Proofs.Tryz.prog X129.1 X129.2 := lX_ok elI (body_calls (xl := [X142]) (.cons x142 .nil)) fun l r v hs => by
  obtain ⟨rfl, hlen, rfl⟩ := S129_inv hs
  refine ⟨rfl, rfl, fun c => ?_⟩
  (conv => whnf)
  refine ⟨l, LsAt_own elI rfl, ?_⟩
  ((conv => whnf); refine bm (fun h1 => ?_) (fun h1 => ?_))
  · (conv => whnf)
    rw [← badI_all l 0]
    rfl
  · exact absurd hlen (by simpa using h1)
end Go.Aw
end

/-
  Reverse over points. No condition.
-/
set_option linter.unusedSimpArgs false
set_option linter.unusedVariables false
noncomputable section
namespace Go.Aw
set_option maxRecDepth 100000
def revA (l : List (Int × Int)) (i k : Nat) : Int × Int := if k < i ∨ l.length - i ≤ k then at2 l (l.length - 1 - k) else at2 l k
def revI (l : List (Int × Int)) (i : Nat) : List (Int × Int) := (List.range l.length).map (revA l i)
def SRev (l : List (Int × Int)) : Option (Bool × List (Int × Int)) := some (decide (l.length ≤ 1000000000), l.reverse)
def e109 (n c : Nat) (i j : Int) : List (Nat × Value) := [(0, .slice (some ⟨0, 0, none⟩) n c), (2, iv i), (3, iv j)]
def h109 (o : List (Int × Int)) : Heap := [(0, .cells true false 2 (flat elP.fl o))]
def X109 : Nat × XF := (81, wX elP SRev)
theorem revI_len (l : List (Int × Int)) (i : Nat) : (revI l i).length = l.length := by unfold revI; rw [List.length_map, List.length_range]
theorem revI_at (l : List (Int × Int)) (i : Nat) {k : Nat} (hk : k < l.length) : at2 (revI l i) k = revA l i k := by
  rw [at2_eq (by rw [revI_len]; exact hk)]
  unfold revI
  rw [List.getElem_map, List.getElem_range]
theorem ext_at {l m : List (Int × Int)} (hl : l.length = m.length) (h : ∀ k, k < l.length → at2 l k = at2 m k) : l = m := same_of hl h
theorem revI_zero (l : List (Int × Int)) : revI l 0 = l := by
  refine ext_at (revI_len l 0) fun k hk => ?_
  rw [revI_len] at hk
  rw [revI_at l 0 hk, revA, if_neg (by omega)]
theorem at2_rev (l : List (Int × Int)) {k : Nat} (hk : k < l.length) : at2 l.reverse k = at2 l (l.length - 1 - k) := by
  rw [at2_eq (by rw [List.length_reverse]; exact hk), at2_eq (by omega), List.getElem_reverse]
theorem revI_end (l : List (Int × Int)) {i : Nat} (h : l.length ≤ 2 * i + 1) : revI l i = l.reverse := by
  refine ext_at (by rw [revI_len, List.length_reverse]) fun k hk => ?_
  rw [revI_len] at hk
  rw [revI_at l i hk, at2_rev l hk, revA]
  by_cases hc : k < i ∨ l.length - i ≤ k
  · rw [if_pos hc]
  · rw [if_neg hc]
    congr 1
    omega
theorem at2_set (l : List (Int × Int)) (i k : Nat) (v : Int × Int) (hk : k < l.length) : at2 (l.set i v) k = if i = k then v else at2 l k := by
  rw [at2_eq (by rw [List.length_set]; exact hk), List.getElem_set, at2_eq hk]
theorem revI_next (l : List (Int × Int)) {i j : Nat} (hij : i < j) (hs : i + j = l.length - 1) : ((revI l i).set i (at2 (revI l i) j)).set j (at2 (revI l i) i) = revI l (i + 1) := by
  refine ext_at (by rw [List.length_set, List.length_set, revI_len, revI_len]) fun k hk => ?_
  rw [List.length_set, List.length_set, revI_len] at hk
  rw [at2_set _ _ _ _ (by rw [List.length_set, revI_len]; exact hk), at2_set _ _ _ _ (by rw [revI_len]; exact hk), revI_at l _ hk, revI_at l _ (show j < l.length by omega), revI_at l _ (show i < l.length by omega), revI_at l _ hk]
  unfold revA
  by_cases h1 : j = k
  · subst h1
    rw [if_pos rfl, if_neg (by omega), if_pos (by omega)]
    congr 1
    omega
  · rw [if_neg h1]
    by_cases h2 : i = k
    · subst h2
      rw [if_pos rfl, if_neg (by omega), if_pos (by omega)]
      congr 1
      omega
    · rw [if_neg h2]
      by_cases hc : k < i ∨ l.length - i ≤ k
      · rw [if_pos hc, if_pos (by omega)]
      · rw [if_neg hc, if_neg (by omega)]
theorem flat_set (l : List (Int × Int)) : ∀ (i : Nat) (v : Int × Int), i < l.length → putN (flat elP.fl l) (i * 2) [iv v.1, iv v.2] = flat elP.fl (l.set i v) := by
  induction l with
  | nil => intro i v h; cases h
  | cons a r ih =>
    intro i v h
    cases i with
    | zero => rfl
    | succ i =>
      have := ih i v (by simpa using h)
      simp only [List.set_cons_succ, flat, ← this]
      have e : (i + 1) * 2 = i * 2 + 2 := by omega
      rw [e]
      unfold putN
      show List.take (i * 2 + 2) (iv a.1 :: iv a.2 :: flat elP.fl r) ++ _ ++ List.drop (i * 2 + 2 + 2) (iv a.1 :: iv a.2 :: flat elP.fl r) = _
      rfl
theorem rev_cells {l : List (Int × Int)} {i j : Nat} {a b : Int} (ha : a = i) (hb : b = j) (hij : i < j) (hjl : j < l.length) (hs : i + j = l.length - 1) :
    putN (putN (flat elP.fl (revI l i)) (0 + a.toNat * 2) [iv (at2 (revI l i) j).1, iv (at2 (revI l i) j).2]) (0 + b.toNat * 2) [iv (at2 (revI l i) i).1, iv (at2 (revI l i) i).2] = flat elP.fl (revI l (i + 1)) := by
  have e1 : 0 + a.toNat * 2 = i * 2 := by omega
  have e2 : 0 + b.toNat * 2 = j * 2 := by omega
  rw [e1, e2, flat_set _ _ _ (by rw [revI_len]; omega), flat_set _ _ _ (by rw [List.length_set, revI_len]; omega), revI_next l hij hs]
attribute [local irreducible] revI in
theorem x109 : XOK Go.Proofs.Tryz.prog X109.1 X109.2 := wX_ok elP (s := SRev) (f := 81) (body_calls (xl := []) .nil) fun l l' hs c => by
  have hs' : l.length ≤ 1000000000 ∧ l' = l.reverse := by
    unfold SRev at hs
    injection hs with hs; injection hs with h1 h2
    exact ⟨by simpa using h1, h2.symm⟩
  obtain ⟨hlen, rfl⟩ := hs'
  clear hs
  ((conv => whnf); refine bm (fun h1 => ?_) (fun h1 => ?_))
  · (conv => whnf)
    refine ⟨fun n e h nx => ∃ (i : Nat) (a b : Int), a = i ∧ a + b = (l.length : Int) - 1 ∧ 2 * i ≤ l.length ∧ n = l.length - i ∧ e = e109 l.length c a b ∧ h = h109 (revI l i) ∧ nx = 1, ⟨l.length, ?_⟩, ?_⟩
    · refine Into_id (e0 := e109 l.length c 0 ((l.length : Int) - 1)) (h0 := h109 (revI l 0)) (n0 := 1) ⟨0, 0, (l.length : Int) - 1, rfl, by omega, Nat.zero_le _, rfl, rfl, rfl, rfl⟩ ?_ ?_ (by decide)
      · unfold e109
        ((repeat' (refine List.forall_mem_cons.2 ⟨⟨rfl, ?_⟩, ?_⟩; (first | exact scT_g rfl | exact ⟨by decide, rfl⟩ | exact ⟨by decide, fun h => (by cases h)⟩))); exact fun _ h => (by cases h))
      · unfold h109
        rw [revI_zero]
        ((repeat' (refine List.forall_mem_cons.2 ⟨⟨Nat.le_of_ble_eq_true rfl, _, rfl, ?_⟩, ?_⟩; (first | exact ObjRen_g (flat_g _ _) | exact ObjRen_j rfl rfl))); exact fun _ h => (by cases h))
    · rintro n e h nx ⟨i, a, b, ha, hab, hi, rfl, rfl, rfl, rfl⟩
      have hrl := revI_len l i
      unfold e109 h109
      ((conv => whnf); refine bm (fun g1 => ?_) (fun g1 => ?_))
      · have hj : ∃ j : Nat, b = j ∧ i < j ∧ j < l.length := by
          simp only [cA_lt, decide_eq_true_eq] at g1
          exact ⟨b.toNat, by omega, by omega, by omega⟩
        obtain ⟨j, hb, hij, hjl⟩ := hj
        have hlti : i < (revI l i).length := by omega
        have hltj : j < (revI l i).length := by omega
        repeat' first
          | (((conv => whnf); refine bm (fun g => ?_) (fun g => ?_)))
          | ((conv => whnf)
             refine boL (getP (revI l i) hltj ?_) ?_
             · simp [cfgS, std]; omega)
          | ((conv => whnf)
             refine boL (getP (revI l i) hlti ?_) ?_
             · simp [cfgS, std]; omega)
        all_goals (conv => whnf)
        · refine ⟨l.length - (i + 1), by omega, ?_⟩
          refine Into_id (e0 := e109 l.length c (a + 1) (b - 1)) (h0 := h109 (revI l (i + 1))) (n0 := 1) ⟨i + 1, a + 1, b - 1, by omega, by omega, by omega, rfl, rfl, rfl, rfl⟩ ?_ ?_ (by decide)
          · unfold e109
            ((repeat' (refine List.forall_mem_cons.2 ⟨⟨rfl, ?_⟩, ?_⟩; (first | exact scT_g rfl | exact ⟨by decide, rfl⟩ | exact ⟨by decide, fun h => (by cases h)⟩))); exact fun _ h => (by cases h))
          · unfold h109
            ((repeat' (refine List.forall_mem_cons.2 ⟨⟨Nat.le_of_ble_eq_true rfl, _, rfl, ?_⟩, ?_⟩; (first | exact (ObjRen_j (flat_g elP _) (rev_cells ha hb hij hjl (by omega))) | exact ObjRen_g (flat_g _ _) | exact ObjRen_j rfl rfl))); exact fun _ h => (by cases h))
        all_goals exfalso
        all_goals (have hf : (flat elP.fl (revI l i)).length = l.length * 2 := by rw [flat_len, revI_len]; rfl)
        all_goals first
          | (simp only [cA_add, cA_sub, cA_fits, cA_lt, cA_le, cA_andB, cA_num, fitsK, Bool.and_eq_false_iff, decide_eq_false_iff_not] at g; omega)
          | (have hx : 0 + a.toNat * 2 + 2 ≤ (flat elP.fl (revI l i)).length := by rw [hf]; omega
             have hc : Nat.ble (0 + a.toNat * 2 + 2) (flat elP.fl (revI l i)).length = false := g
             rw [Nat.ble_eq_true_of_le hx] at hc
             cases hc)
          | (have hx : 0 + a.toNat * 2 + 2 ≤ (flat elP.fl (revI l i)).length := by rw [hf]; omega
             have hp : (putN (flat elP.fl (revI l i)) (0 + a.toNat * 2) [iv (at2 (revI l i) j).1, iv (at2 (revI l i) j).2]).length = l.length * 2 := by
               rw [putN_length (by show 0 + a.toNat * 2 + 2 ≤ _; exact hx), hf]
             have hy : 0 + b.toNat * 2 + 2 ≤ (putN (flat elP.fl (revI l i)) (0 + a.toNat * 2) [iv (at2 (revI l i) j).1, iv (at2 (revI l i) j).2]).length := by rw [hp]; omega
             have hc : Nat.ble (0 + b.toNat * 2 + 2) (putN (flat elP.fl (revI l i)) (0 + a.toNat * 2) [iv (at2 (revI l i) j).1, iv (at2 (revI l i) j).2]).length = false := g
             rw [Nat.ble_eq_true_of_le hy] at hc
             cases hc)
          | trace_state
      · have hge : l.length ≤ 2 * i + 1 := by
          simp only [cA_lt, decide_eq_false_iff_not] at g1
          omega
        (conv => whnf)
        rw [← revI_end l hge]
        exact ⟨rfl, rfl⟩
  · exfalso; simp only [cA_sub, cA_num, cA_fits, fitsK, Bool.eq_false_iff, ne_eq, Bool.and_eq_true, decide_eq_true_eq] at h1; omega
end Go.Aw
end

/-
  Reverse over points, all else of the caller's kept. No condition.
-/
set_option linter.unusedSimpArgs false
set_option linter.unusedVariables false
noncomputable section
namespace Go.Aw
set_option maxRecDepth 100000
def SRv (l : List (Int × Int)) : List Value → Nat → Option (Bool × Option Nat × List Value)
  | [], _ => some (decide (l.length ≤ 1000000000), none, flat elP.fl l.reverse)
  | _, _ => none
theorem SRv_inv {l : List (Int × Int)} {r : List Value} {c : Nat} {m : Option Nat} {cs : List Value} (h : SRv l r c = some (true, m, cs)) : r = [] ∧ l.length ≤ 1000000000 ∧ m = none ∧ cs = flat elP.fl l.reverse := by
  unfold SRv at h
  split at h
  · injection h with h; injection h with h1 h2; injection h2 with h2 h3
    exact ⟨rfl, by simpa using h1, h2.symm, h3.symm⟩
  · cases h
attribute [local irreducible] revI in
theorem d81 : XOK Go.Proofs.Tryz.prog 81 (frX elP SRv) := frX_ok elP (s := SRv) (f := 81) (body_calls (xl := []) .nil) fun l r c m cs' hs => by
  obtain ⟨rfl, hlen, rfl, rfl⟩ := SRv_inv hs
  refine ⟨rfl, flat_g elP _, (fun q e => by cases e), fun F N hF => ?_⟩
  have hN := hF.1
  clear hs
  ((conv => whnf); refine bm (fun h1 => ?_) (fun h1 => ?_))
  · (conv => whnf)
    refine ⟨fun n e h nx => ∃ (i : Nat) (a b : Int), a = i ∧ a + b = (l.length : Int) - 1 ∧ 2 * i ≤ l.length ∧ n = l.length - i ∧ e = e109 l.length c a b ∧ h = (0, .cells true false 2 (flat elP.fl (revI l i))) :: F ∧ nx = N, ⟨l.length, ?_⟩, ?_⟩
    · refine Into_fr (e0 := e109 l.length c 0 ((l.length : Int) - 1)) hF ⟨0, 0, (l.length : Int) - 1, rfl, by omega, Nat.zero_le _, rfl, rfl, rfl, rfl⟩ ?_ ?_ (Nat.le_refl _)
      · unfold e109
        ((repeat' (refine List.forall_mem_cons.2 ⟨⟨rfl, ?_⟩, ?_⟩; (first | exact scT_g rfl | exact ⟨hN, fun h => (by cases h)⟩))); exact fun _ h => (by cases h))
      · rw [revI_zero]
        exact ObjRen_g (flat_g elP _)
    · rintro n e h nx ⟨i, a, b, ha, hab, hi, rfl, rfl, rfl, rfl⟩
      have hrl := revI_len l i
      unfold e109
      ((conv => whnf); refine bm (fun g1 => ?_) (fun g1 => ?_))
      · have hj : ∃ j : Nat, b = j ∧ i < j ∧ j < l.length := by
          simp only [cA_lt, decide_eq_true_eq] at g1
          exact ⟨b.toNat, by omega, by omega, by omega⟩
        obtain ⟨j, hb, hij, hjl⟩ := hj
        have hlti : i < (revI l i).length := by omega
        have hltj : j < (revI l i).length := by omega
        repeat' first
          | (((conv => whnf); refine bm (fun g => ?_) (fun g => ?_)))
          | ((conv => whnf)
             refine boL (getP (revI l i) hltj ?_) ?_
             · simp [cfgS, std]; omega)
          | ((conv => whnf)
             refine boL (getP (revI l i) hlti ?_) ?_
             · simp [cfgS, std]; omega)
        all_goals (conv => whnf)
        · refine ⟨l.length - (i + 1), by omega, ?_⟩
          refine Into_fr (e0 := e109 l.length c (a + 1) (b - 1)) hF ⟨i + 1, a + 1, b - 1, by omega, by omega, by omega, rfl, rfl, rfl, rfl⟩ ?_ ?_ (Nat.le_refl _)
          · unfold e109
            ((repeat' (refine List.forall_mem_cons.2 ⟨⟨rfl, ?_⟩, ?_⟩; (first | exact scT_g rfl | exact ⟨hN, fun h => (by cases h)⟩))); exact fun _ h => (by cases h))
          · exact ObjRen_j (flat_g elP _) (rev_cells ha hb hij hjl (by omega))
        all_goals exfalso
        all_goals (have hf : (flat elP.fl (revI l i)).length = l.length * 2 := by rw [flat_len, revI_len]; rfl)
        all_goals first
          | (simp only [cA_add, cA_sub, cA_fits, cA_lt, cA_le, cA_andB, cA_num, fitsK, Bool.and_eq_false_iff, decide_eq_false_iff_not] at g; omega)
          | (have hx : 0 + a.toNat * 2 + 2 ≤ (flat elP.fl (revI l i)).length := by rw [hf]; omega
             have hc : Nat.ble (0 + a.toNat * 2 + 2) (flat elP.fl (revI l i)).length = false := g
             rw [Nat.ble_eq_true_of_le hx] at hc
             cases hc)
          | (have hx : 0 + a.toNat * 2 + 2 ≤ (flat elP.fl (revI l i)).length := by rw [hf]; omega
             have hp : (putN (flat elP.fl (revI l i)) (0 + a.toNat * 2) [iv (at2 (revI l i) j).1, iv (at2 (revI l i) j).2]).length = l.length * 2 := by
               rw [putN_length (by show 0 + a.toNat * 2 + 2 ≤ _; exact hx), hf]
             have hy : 0 + b.toNat * 2 + 2 ≤ (putN (flat elP.fl (revI l i)) (0 + a.toNat * 2) [iv (at2 (revI l i) j).1, iv (at2 (revI l i) j).2]).length := by rw [hp]; omega
             have hc : Nat.ble (0 + b.toNat * 2 + 2) (putN (flat elP.fl (revI l i)) (0 + a.toNat * 2) [iv (at2 (revI l i) j).1, iv (at2 (revI l i) j).2]).length = false := g
             rw [Nat.ble_eq_true_of_le hy] at hc
             cases hc)
          | trace_state
      · have hge : l.length ≤ 2 * i + 1 := by
          simp only [cA_lt, decide_eq_false_iff_not] at g1
          omega
        (conv => whnf)
        rw [← revI_end l hge]
        exact ⟨rfl, rfl⟩
  · exfalso; simp only [cA_sub, cA_num, cA_fits, fitsK, Bool.eq_false_iff, ne_eq, Bool.and_eq_true, decide_eq_true_eq] at h1; omega
end Go.Aw
end
