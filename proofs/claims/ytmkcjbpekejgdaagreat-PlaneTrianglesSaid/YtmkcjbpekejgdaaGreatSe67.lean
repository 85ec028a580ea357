/-
  Reverse over points. No condition.
-/
import Derived.Test.YtmkcjbpekejgdaaGreatSe66
import Derived.Test.YtmkcjbpekejgdaaGreatSe54
import Derived.Test.YtmkcjbpekejgdaaGreatAw47
set_option linter.unusedSimpArgs false
set_option linter.unusedVariables false
noncomputable section
namespace Go.Aw
set_option maxRecDepth 100000
def revA (l : List (Int × Int)) (i k : Nat) : Int × Int := if k < i ∨ l.length - i ≤ k then at2 l (l.length - 1 - k) else at2 l k
def revI (l : List (Int × Int)) (i : Nat) : List (Int × Int) := (List.range l.length).map (revA l i)
def SRev (l : List (Int × Int)) : Option (Bool × List (Int × Int)) := some (decide (l.length ≤ 1000000000), l.reverse)
def e109 (n c : Nat) (i j : Int) : List (Nat × Value) := [(0, .slice (some ⟨0, 0, none⟩) n c), (2, iv i), (3, iv j)]
def h109 (o : List (Int × Int)) : Heap := [(0, .cells true false 2 (flat elP.fl o))]
def X109 : Nat × XF := (81, wX elP SRev)
theorem revI_len (l : List (Int × Int)) (i : Nat) : (revI l i).length = l.length := by unfold revI; rw [List.length_map, List.length_range]
theorem revI_at (l : List (Int × Int)) (i : Nat) {k : Nat} (hk : k < l.length) : at2 (revI l i) k = revA l i k := by
  rw [at2_eq (by rw [revI_len]; exact hk)]
  unfold revI
  rw [List.getElem_map, List.getElem_range]
theorem ext_at {l m : List (Int × Int)} (hl : l.length = m.length) (h : ∀ k, k < l.length → at2 l k = at2 m k) : l = m := same_of hl h
theorem revI_zero (l : List (Int × Int)) : revI l 0 = l := by
  refine ext_at (revI_len l 0) fun k hk => ?_
  rw [revI_len] at hk
  rw [revI_at l 0 hk, revA, if_neg (by omega)]
theorem at2_rev (l : List (Int × Int)) {k : Nat} (hk : k < l.length) : at2 l.reverse k = at2 l (l.length - 1 - k) := by
  rw [at2_eq (by rw [List.length_reverse]; exact hk), at2_eq (by omega), List.getElem_reverse]
theorem revI_end (l : List (Int × Int)) {i : Nat} (h : l.length ≤ 2 * i + 1) : revI l i = l.reverse := by
  refine ext_at (by rw [revI_len, List.length_reverse]) fun k hk => ?_
  rw [revI_len] at hk
  rw [revI_at l i hk, at2_rev l hk, revA]
  by_cases hc : k < i ∨ l.length - i ≤ k
  · rw [if_pos hc]
  · rw [if_neg hc]
    congr 1
    omega
theorem at2_set (l : List (Int × Int)) (i k : Nat) (v : Int × Int) (hk : k < l.length) : at2 (l.set i v) k = if i = k then v else at2 l k := by
  rw [at2_eq (by rw [List.length_set]; exact hk), List.getElem_set, at2_eq hk]
theorem revI_next (l : List (Int × Int)) {i j : Nat} (hij : i < j) (hs : i + j = l.length - 1) : ((revI l i).set i (at2 (revI l i) j)).set j (at2 (revI l i) i) = revI l (i + 1) := by
  refine ext_at (by rw [List.length_set, List.length_set, revI_len, revI_len]) fun k hk => ?_
  rw [List.length_set, List.length_set, revI_len] at hk
  rw [at2_set _ _ _ _ (by rw [List.length_set, revI_len]; exact hk), at2_set _ _ _ _ (by rw [revI_len]; exact hk), revI_at l _ hk, revI_at l _ (show j < l.length by omega), revI_at l _ (show i < l.length by omega), revI_at l _ hk]
  unfold revA
  by_cases h1 : j = k
  · subst h1
    rw [if_pos rfl, if_neg (by omega), if_pos (by omega)]
    congr 1
    omega
  · rw [if_neg h1]
    by_cases h2 : i = k
    · subst h2
      rw [if_pos rfl, if_neg (by omega), if_pos (by omega)]
      congr 1
      omega
    · rw [if_neg h2]
      by_cases hc : k < i ∨ l.length - i ≤ k
      · rw [if_pos hc, if_pos (by omega)]
      · rw [if_neg hc, if_neg (by omega)]
theorem flat_set (l : List (Int × Int)) : ∀ (i : Nat) (v : Int × Int), i < l.length → putN (flat elP.fl l) (i * 2) [iv v.1, iv v.2] = flat elP.fl (l.set i v) := by
  induction l with
  | nil => intro i v h; cases h
  | cons a r ih =>
    intro i v h
    cases i with
    | zero => rfl
    | succ i =>
      have := ih i v (by simpa using h)
      simp only [List.set_cons_succ, flat, ← this]
      have e : (i + 1) * 2 = i * 2 + 2 := by omega
      rw [e]
      unfold putN
      show List.take (i * 2 + 2) (iv a.1 :: iv a.2 :: flat elP.fl r) ++ _ ++ List.drop (i * 2 + 2 + 2) (iv a.1 :: iv a.2 :: flat elP.fl r) = _
      rfl
theorem rev_cells {l : List (Int × Int)} {i j : Nat} {a b : Int} (ha : a = i) (hb : b = j) (hij : i < j) (hjl : j < l.length) (hs : i + j = l.length - 1) :
    putN (putN (flat elP.fl (revI l i)) (0 + a.toNat * 2) [iv (at2 (revI l i) j).1, iv (at2 (revI l i) j).2]) (0 + b.toNat * 2) [iv (at2 (revI l i) i).1, iv (at2 (revI l i) i).2] = flat elP.fl (revI l (i + 1)) := by
  have e1 : 0 + a.toNat * 2 = i * 2 := by omega
  have e2 : 0 + b.toNat * 2 = j * 2 := by omega
  rw [e1, e2, flat_set _ _ _ (by rw [revI_len]; omega), flat_set _ _ _ (by rw [List.length_set, revI_len]; omega), revI_next l hij hs]
attribute [local irreducible] revI in
theorem x109 : XOK Go.Proofs.Tryz.prog X109.1 X109.2 := wX_ok elP (s := SRev) (f := 81) (body_calls (xl := []) .nil) fun l l' hs c => by
  have hs' : l.length ≤ 1000000000 ∧ l' = l.reverse := by
    unfold SRev at hs
    injection hs with hs; injection hs with h1 h2
    exact ⟨by simpa using h1, h2.symm⟩
  obtain ⟨hlen, rfl⟩ := hs'
  clear hs
  ((conv => whnf); refine bm (fun h1 => ?_) (fun h1 => ?_))
  · (conv => whnf)
    refine ⟨fun n e h nx => ∃ (i : Nat) (a b : Int), a = i ∧ a + b = (l.length : Int) - 1 ∧ 2 * i ≤ l.length ∧ n = l.length - i ∧ e = e109 l.length c a b ∧ h = h109 (revI l i) ∧ nx = 1, ⟨l.length, ?_⟩, ?_⟩
    · refine Into_id (e0 := e109 l.length c 0 ((l.length : Int) - 1)) (h0 := h109 (revI l 0)) (n0 := 1) ⟨0, 0, (l.length : Int) - 1, rfl, by omega, Nat.zero_le _, rfl, rfl, rfl, rfl⟩ ?_ ?_ (by decide)
      · unfold e109
        ((repeat' (refine List.forall_mem_cons.2 ⟨⟨rfl, ?_⟩, ?_⟩; (first | exact scT_g rfl | exact ⟨by decide, rfl⟩ | exact ⟨by decide, fun h => (by cases h)⟩))); exact fun _ h => (by cases h))
      · unfold h109
        rw [revI_zero]
        ((repeat' (refine List.forall_mem_cons.2 ⟨⟨Nat.le_of_ble_eq_true rfl, _, rfl, ?_⟩, ?_⟩; (first | exact ObjRen_g (flat_g _ _) | exact ObjRen_j rfl rfl))); exact fun _ h => (by cases h))
    · rintro n e h nx ⟨i, a, b, ha, hab, hi, rfl, rfl, rfl, rfl⟩
      have hrl := revI_len l i
      unfold e109 h109
      ((conv => whnf); refine bm (fun g1 => ?_) (fun g1 => ?_))
      · have hj : ∃ j : Nat, b = j ∧ i < j ∧ j < l.length := by
          simp only [cA_lt, decide_eq_true_eq] at g1
          exact ⟨b.toNat, by omega, by omega, by omega⟩
        obtain ⟨j, hb, hij, hjl⟩ := hj
        have hlti : i < (revI l i).length := by omega
        have hltj : j < (revI l i).length := by omega
        repeat' first
          | (((conv => whnf); refine bm (fun g => ?_) (fun g => ?_)))
          | ((conv => whnf)
             refine boL (getP (revI l i) hltj ?_) ?_
             · simp [cfgS, std]; omega)
          | ((conv => whnf)
             refine boL (getP (revI l i) hlti ?_) ?_
             · simp [cfgS, std]; omega)
        all_goals (conv => whnf)
        · refine ⟨l.length - (i + 1), by omega, ?_⟩
          refine Into_id (e0 := e109 l.length c (a + 1) (b - 1)) (h0 := h109 (revI l (i + 1))) (n0 := 1) ⟨i + 1, a + 1, b - 1, by omega, by omega, by omega, rfl, rfl, rfl, rfl⟩ ?_ ?_ (by decide)
          · unfold e109
            ((repeat' (refine List.forall_mem_cons.2 ⟨⟨rfl, ?_⟩, ?_⟩; (first | exact scT_g rfl | exact ⟨by decide, rfl⟩ | exact ⟨by decide, fun h => (by cases h)⟩))); exact fun _ h => (by cases h))
          · unfold h109
            ((repeat' (refine List.forall_mem_cons.2 ⟨⟨Nat.le_of_ble_eq_true rfl, _, rfl, ?_⟩, ?_⟩; (first | exact (ObjRen_j (flat_g elP _) (rev_cells ha hb hij hjl (by omega))) | exact ObjRen_g (flat_g _ _) | exact ObjRen_j rfl rfl))); exact fun _ h => (by cases h))
        all_goals exfalso
        all_goals (have hf : (flat elP.fl (revI l i)).length = l.length * 2 := by rw [flat_len, revI_len]; rfl)
        all_goals first
          | (simp only [cA_add, cA_sub, cA_fits, cA_lt, cA_le, cA_andB, cA_num, fitsK, Bool.and_eq_false_iff, decide_eq_false_iff_not] at g; omega)
          | (have hx : 0 + a.toNat * 2 + 2 ≤ (flat elP.fl (revI l i)).length := by rw [hf]; omega
             have hc : Nat.ble (0 + a.toNat * 2 + 2) (flat elP.fl (revI l i)).length = false := g
             rw [Nat.ble_eq_true_of_le hx] at hc
             cases hc)
          | (have hx : 0 + a.toNat * 2 + 2 ≤ (flat elP.fl (revI l i)).length := by rw [hf]; omega
             have hp : (putN (flat elP.fl (revI l i)) (0 + a.toNat * 2) [iv (at2 (revI l i) j).1, iv (at2 (revI l i) j).2]).length = l.length * 2 := by
               rw [putN_length (by show 0 + a.toNat * 2 + 2 ≤ _; exact hx), hf]
             have hy : 0 + b.toNat * 2 + 2 ≤ (putN (flat elP.fl (revI l i)) (0 + a.toNat * 2) [iv (at2 (revI l i) j).1, iv (at2 (revI l i) j).2]).length := by rw [hp]; omega
             have hc : Nat.ble (0 + b.toNat * 2 + 2) (putN (flat elP.fl (revI l i)) (0 + a.toNat * 2) [iv (at2 (revI l i) j).1, iv (at2 (revI l i) j).2]).length = false := g
             rw [Nat.ble_eq_true_of_le hy] at hc
             cases hc)
          | trace_state
      · have hge : l.length ≤ 2 * i + 1 := by
          simp only [cA_lt, decide_eq_false_iff_not] at g1
          omega
        (conv => whnf)
        rw [← revI_end l hge]
        exact ⟨rfl, rfl⟩
  · exfalso; simp only [cA_sub, cA_num, cA_fits, fitsK, Bool.eq_false_iff, ne_eq, Bool.and_eq_true, decide_eq_true_eq] at h1; omega
end Go.Aw
