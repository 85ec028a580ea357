/-
  Index over points. No condition.
-/
import Derived.Test.YtmkcjbpekejgdaaGreatSe65
import Derived.Test.YtmkcjbpekejgdaaGreatSe40
set_option linter.unusedSimpArgs false
set_option linter.unusedVariables false
noncomputable section
namespace Go.Aw
set_option maxRecDepth 100000
def idxP (p : Int × Int) : List (Int × Int) → Nat → Int
  | [], _ => -1
  | q :: r, i => if eqP p q = true then i else idxP p r (i + 1)
def S124 (l : List (Int × Int)) : List Value → Option (Bool × Value)
  | [v] => (match decP v with | some p => some (decide (l.length ≤ 1000000000), iv (idxP p l 0)) | none => none)
  | _ => none
theorem S124_inv {l : List (Int × Int)} {r : List Value} {v : Value} (hs : S124 l r = some (true, v)) : ∃ p, r = [ptv p] ∧ l.length ≤ 1000000000 ∧ v = iv (idxP p l 0) := by
  unfold S124 at hs
  split at hs
  · split at hs
    · rename_i p e
      injection hs with hs; injection hs with h1 h2
      exact ⟨p, by rw [decP_eq e], by simpa using h1, h2.symm⟩
    · cases hs
  · cases hs
theorem drop_at2 {l : List (Int × Int)} {i : Nat} (h : i < l.length) : l.drop i = at2 l i :: l.drop (i + 1) := by
  rw [at2_eq h]
  exact List.drop_eq_getElem_cons h
def e124 (l : List (Int × Int)) (c : Nat) (j : Int) : List (Nat × Value) := [(0, .slice (some ⟨0, 0, none⟩) l.length c), (3, .pointer (some ⟨1, 0, none⟩)), (7, iv l.length), (8, iv j)]
def X124 : Nat × XF := (130, lX elP S124)
attribute [local irreducible] idxP in
theorem x124 : XOK Go.Proofs.Tryz.prog X124.1 X124.2 := lX_ok elP (body_calls (xl := []) .nil) fun l r v hs => by
  obtain ⟨⟨px, py⟩, rfl, hlen, rfl⟩ := S124_inv hs
  refine ⟨rfl, rfl, fun c => ?_⟩
  clear hs
  (conv => whnf)
  refine ⟨fun n e h nx => ∃ (i : Nat) (j : Int), j = i ∧ i ≤ l.length ∧ n = l.length - i ∧ idxP (px, py) l 0 = idxP (px, py) (l.drop i) i ∧ e = e124 l c j ∧ h = hW l (px, py) ∧ nx = 2, ⟨l.length, ?_⟩, ?_⟩
  · refine Into_id (e0 := e124 l c 0) (h0 := hW l (px, py)) (n0 := 2) ⟨0, 0, rfl, Nat.zero_le _, rfl, rfl, rfl, rfl, rfl⟩ ?_ ?_ (by decide)
    · unfold e124
      ((repeat' (refine List.forall_mem_cons.2 ⟨⟨rfl, ?_⟩, ?_⟩; (first | exact scT_g rfl | exact ⟨by decide, rfl⟩ | exact ⟨by decide, fun h => (by cases h)⟩))); exact fun _ h => (by cases h))
    · unfold hW
      ((repeat' (refine List.forall_mem_cons.2 ⟨⟨Nat.le_of_ble_eq_true rfl, _, rfl, ?_⟩, ?_⟩; (first | exact ObjRen_g (flat_g _ _) | exact ObjRen_j rfl rfl))); exact fun _ h => (by cases h))
  · rintro n e h nx ⟨i, j, hj, hi, rfl, hb, rfl, rfl, rfl⟩
    unfold e124 hW
    ((conv => whnf); refine bm (fun g1 => ?_) (fun g1 => ?_))
    · have hlt : i < l.length := by simp [cfgS, std] at g1; omega
      rw [drop_at2 hlt] at hb
      ((conv => whnf); refine bm (fun g2 => ?_) (fun g2 => ?_))
      · (conv => whnf)
        refine boL (getP l hlt ?_) ?_
        · simp [cfgS, std]; omega
        ((conv => whnf); refine bm (fun g3 => ?_) (fun g3 => ?_))
        · (conv => whnf)
          have he : eqP (px, py) (at2 l i) = true := g3
          rw [hb, hj]
          unfold idxP
          rw [if_pos he]
        · ((conv => whnf); refine bm (fun g4 => ?_) (fun g4 => ?_))
          · (conv => whnf)
            have he : eqP (px, py) (at2 l i) = false := g3
            refine ⟨l.length - (i + 1), by omega, ?_⟩
            refine Into_id (e0 := e124 l c (j + 1)) (h0 := hW l (px, py)) (n0 := 2) ⟨i + 1, j + 1, by omega, hlt, rfl, ?_, rfl, rfl, rfl⟩ ?_ ?_ (by decide)
            · rw [hb]
              conv => lhs; unfold idxP
              rw [if_neg (by rw [he]; decide)]
            · unfold e124
              ((repeat' (refine List.forall_mem_cons.2 ⟨⟨rfl, ?_⟩, ?_⟩; (first | exact scT_g rfl | exact ⟨by decide, rfl⟩ | exact ⟨by decide, fun h => (by cases h)⟩))); exact fun _ h => (by cases h))
            · unfold hW
              ((repeat' (refine List.forall_mem_cons.2 ⟨⟨Nat.le_of_ble_eq_true rfl, _, rfl, ?_⟩, ?_⟩; (first | exact ObjRen_g (flat_g _ _) | exact ObjRen_j rfl rfl))); exact fun _ h => (by cases h))
          · exfalso; simp only [cA_add, cA_fits, fitsK, Bool.eq_false_iff, ne_eq, Bool.and_eq_true, decide_eq_true_eq] at g4; omega
      · exfalso; simp only [cA_lt, cA_le, cA_andB, cA_num, Bool.eq_false_iff, ne_eq, Bool.and_eq_true, decide_eq_true_eq] at g2; omega
    · have hge : i = l.length := by simp [cfgS, std] at g1; omega
      subst hge
      (conv => whnf)
      rw [hb, List.drop_length]
      unfold idxP
      rfl
end Go.Aw
