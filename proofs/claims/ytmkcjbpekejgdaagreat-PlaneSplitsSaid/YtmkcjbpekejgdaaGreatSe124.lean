/-
  SameSegs. No condition.
-/
import Derived.Test.YtmkcjbpekejgdaaGreatSe113
import Derived.Test.YtmkcjbpekejgdaaGreatSeI
set_option linter.unusedSimpArgs false
set_option linter.unusedVariables false
noncomputable section
namespace Go.Aw
set_option maxRecDepth 100000
def sameGB (l1 l2 : List Sg) : Bool := decide (l1 = l2)
def SSamG (l1 l2 : List Sg) : Option (Bool × Value) := some (decide (l1.length ≤ 1000000000), .bool (sameGB l1 l2))
def e41 (l1 l2 : List Sg) (c1 c2 : Nat) (j : Int) : List (Nat × Value) := [(0, .slice (some ⟨0, 0, none⟩) l1.length c1), (1, .slice (some ⟨1, 0, none⟩) l2.length c2), (5, iv j)]
def h41 (l1 l2 : List Sg) : Heap := [(0, .cells false true 4 (flat elS.fl l1)), (1, .cells false true 4 (flat elS.fl l2))]
theorem sameG_of {l1 l2 : List Sg} (hl : l1.length = l2.length) (h : ∀ k, k < l1.length → atS l1 k = atS l2 k) : l1 = l2 := by
  refine List.ext_getElem hl fun k h1 h2 => ?_
  have := h k h1
  rw [atS_eq h1, atS_eq h2] at this
  exact this
def D41 : Nat × XF := (41, l2X elS SSamG)
theorem d41 : XOK Go.Proofs.Tryz.prog D41.1 D41.2 := l2X_ok elS (f := 41) (s := SSamG) (body_calls (xl := []) .nil) fun l1 l2 v hs => by
  have hs' : l1.length ≤ 1000000000 ∧ v = .bool (sameGB l1 l2) := by
    unfold SSamG at hs
    injection hs with hs; injection hs with h1 h2
    exact ⟨by simpa using h1, h2.symm⟩
  obtain ⟨hlen, rfl⟩ := hs'
  refine ⟨rfl, fun c1 c2 => ?_⟩
  ((conv => whnf); refine bm (fun h1 => ?_) (fun h1 => ?_))
  · (conv => whnf)
    have hne : l1 ≠ l2 := by
      intro e
      simp only [cA_eq, cA_notB, cA_num, e, decide_true] at h1
      cases h1
    show Value.bool false = .bool (decide (l1 = l2))
    rw [decide_eq_false hne]
  · have hll : l1.length = l2.length := by
      simp only [cA_eq, cA_notB, cA_num, Bool.not_eq_false', decide_eq_true_eq] at h1
      omega
    (conv => whnf)
    refine ⟨fun n e h nx => ∃ (i : Nat) (j : Int), j = i ∧ i ≤ l1.length ∧ n = l1.length - i ∧ (∀ k, k < i → atS l1 k = atS l2 k) ∧ e = e41 l1 l2 c1 c2 j ∧ h = h41 l1 l2 ∧ nx = 2, ⟨l1.length, ?_⟩, ?_⟩
    · refine Into_id (e0 := e41 l1 l2 c1 c2 0) (h0 := h41 l1 l2) (n0 := 2) ⟨0, 0, rfl, Nat.zero_le _, rfl, fun k h => absurd h (Nat.not_lt_zero k), rfl, rfl, rfl⟩ ?_ ?_ (by decide)
      · unfold e41
        ((repeat' (refine List.forall_mem_cons.2 ⟨⟨rfl, ?_⟩, ?_⟩; (first | exact scT_g rfl | exact ⟨by decide, rfl⟩ | exact ⟨by decide, fun h => (by cases h)⟩))); exact fun _ h => (by cases h))
      · unfold h41
        ((repeat' (refine List.forall_mem_cons.2 ⟨⟨Nat.le_of_ble_eq_true rfl, _, rfl, ?_⟩, ?_⟩; (first | exact ObjRen_g (flat_g _ _) | exact ObjRen_j rfl rfl))); exact fun _ h => (by cases h))
    · rintro n e h nx ⟨i, j, hj, hi, rfl, hb, rfl, rfl, rfl⟩
      unfold e41 h41
      ((conv => whnf); refine bm (fun g1 => ?_) (fun g1 => ?_))
      · have hlt : i < l1.length := by simp [cfgS, std] at g1; omega
        have hlt2 : i < l2.length := by omega
        ((conv => whnf); refine bm (fun g2 => ?_) (fun g2 => ?_))
        · (conv => whnf)
          refine boL (getS l1 hlt ?_) ?_
          · simp [cfgS, std]; omega
          ((conv => whnf); refine bm (fun g3 => ?_) (fun g3 => ?_))
          · (conv => whnf)
            refine boL (getS l2 hlt2 ?_) ?_
            · simp [cfgS, std]; omega
            ((conv => whnf); refine bm (fun g4 => ?_) (fun g4 => ?_))
            · (conv => whnf)
              have hne : l1 ≠ l2 := by
                intro e
                simp [cA_eq, cA_notB, cA_andB, e] at g4
              show Value.bool false = .bool (decide (l1 = l2))
              rw [decide_eq_false hne]
            · ((conv => whnf); refine bm (fun g5 => ?_) (fun g5 => ?_))
              · (conv => whnf)
                refine ⟨l1.length - (i + 1), by omega, ?_⟩
                refine Into_id (e0 := e41 l1 l2 c1 c2 (j + 1)) (h0 := h41 l1 l2) (n0 := 2) ⟨i + 1, j + 1, by omega, hlt, rfl, fun k hk => ?_, rfl, rfl, rfl⟩ ?_ ?_ (by decide)
                · by_cases hki : k = i
                  · subst hki
                    simp only [cA_eq, cA_notB, cA_andB, Bool.not_eq_false', Bool.and_eq_true, decide_eq_true_eq] at g4
                    obtain ⟨⟨q1, q2, _⟩, ⟨q3, q4, _⟩, _⟩ := g4
                    exact Prod.ext (Prod.ext q1 q2) (Prod.ext q3 q4)
                  · exact hb k (by omega)
                · unfold e41
                  ((repeat' (refine List.forall_mem_cons.2 ⟨⟨rfl, ?_⟩, ?_⟩; (first | exact scT_g rfl | exact ⟨by decide, rfl⟩ | exact ⟨by decide, fun h => (by cases h)⟩))); exact fun _ h => (by cases h))
                · unfold h41
                  ((repeat' (refine List.forall_mem_cons.2 ⟨⟨Nat.le_of_ble_eq_true rfl, _, rfl, ?_⟩, ?_⟩; (first | exact ObjRen_g (flat_g _ _) | exact ObjRen_j rfl rfl))); exact fun _ h => (by cases h))
              · exfalso; simp only [cA_add, cA_fits, fitsK, Bool.eq_false_iff, ne_eq, Bool.and_eq_true, decide_eq_true_eq] at g5; omega
          · exfalso; simp only [cA_lt, cA_le, cA_andB, cA_num, Bool.eq_false_iff, ne_eq, Bool.and_eq_true, decide_eq_true_eq] at g3; omega
        · exfalso; simp only [cA_lt, cA_le, cA_andB, cA_num, Bool.eq_false_iff, ne_eq, Bool.and_eq_true, decide_eq_true_eq] at g2; omega
      · have hge : i = l1.length := by simp [cfgS, std] at g1; omega
        subst hge
        (conv => whnf)
        show Value.bool true = .bool (decide (l1 = l2))
        rw [decide_eq_true (sameG_of hll hb)]
end Go.Aw
