/-
  Doubled lists. No condition.
-/
import Derived.Test.YtmkcjbpekejgdaaGreatSe135
import Derived.Test.YtmkcjbpekejgdaaGreatSeL
set_option linter.unusedSimpArgs false
set_option linter.unusedVariables false
noncomputable section
namespace Go.Aw
set_option maxRecDepth 100000
def dbP (p : Int × Int) : Int × Int := (2 * p.1, 2 * p.2)
def dblL (l : List (Int × Int)) : List (Int × Int) := l.map dbP
def S87 (l : List (Int × Int)) : List Value → Option (Bool × List (Int × Int) × Option Int)
  | [] => some (decide (l.length ≤ 1000) && l.all wide, dblL l, none)
  | _ => none
theorem S87_inv {l out : List (Int × Int)} {r : List Value} {e : Option Int} (hs : S87 l r = some (true, out, e)) : r = [] ∧ l.length ≤ 1000 ∧ l.all wide = true ∧ out = dblL l ∧ e = none := by
  unfold S87 at hs
  split at hs
  · injection hs with hs; injection hs with h1 h2; injection h2 with h2 h3
    simp only [Bool.and_eq_true, decide_eq_true_eq] at h1
    exact ⟨rfl, h1.1, h1.2, h2.symm, h3.symm⟩
  · cases hs
def OP (L : List (Int × Int)) (O : Value) (F : Heap) : Prop := (L = [] ∧ O = .slice none 0 0 ∧ F = []) ∨ (0 < L.length ∧ O = .slice (some ⟨1, 0, none⟩) L.length L.length ∧ F = [(1, .cells true false 2 (flat elP.fl L))])
def eDb (O : Value) (l : List (Int × Int)) (c : Nat) (j : Int) : List (Nat × Value) := [(3, O), (6, .slice (some ⟨0, 0, none⟩) l.length c), (7, iv l.length), (8, iv j)]
def hDb (l : List (Int × Int)) (F : Heap) : Heap := (0, .cells false true 2 (flat elP.fl l)) :: F
theorem wide_low {p : Int × Int} (h : wide p = true) : -1000000 ≤ p.1 ∧ p.1 ≤ 1000000 ∧ -1000000 ≤ p.2 ∧ p.2 ≤ 1000000 := by
  unfold wide at h
  simp only [Bool.and_eq_true, decide_eq_true_eq] at h
  omega
theorem dbl_s {l : List (Int × Int)} {i : Nat} (hi : i < l.length) : dblL (l.take (i + 1)) = dblL (l.take i) ++ [dbP (at2 l i)] := by
  unfold dblL
  rw [take_snoc hi, List.map_append]
  rfl
theorem dbl_len (l : List (Int × Int)) : (dblL l).length = l.length := by unfold dblL; rw [List.length_map]
attribute [local irreducible] at2 dblL in
theorem d87 : XOK Go.Proofs.Tryz.prog 87 (rfX elP elP S87) := rfX_ok elP elP (s := S87) (f := 87) (body_calls (xl := []) .nil) fun l r out e hs => by
  obtain ⟨rfl, hlen, hall, rfl, rfl⟩ := S87_inv hs
  refine ⟨rfl, fun c => ?_⟩
  clear hs
  (conv => whnf)
  refine ⟨fun n e h nx => ∃ (i : Nat) (j : Int) (L : List (Int × Int)) (O : Value) (F : Heap), j = i ∧ i ≤ l.length ∧ n = l.length - i ∧ L = dblL (l.take i) ∧ OP L O F ∧ e = eDb O l c j ∧ h = hDb l F ∧ nx = 2, ⟨l.length, ?_⟩, ?_⟩
  · refine Into_id (e0 := eDb (.slice none 0 0) l c 0) (h0 := hDb l []) (n0 := 2) ⟨0, 0, [], _, _, rfl, Nat.zero_le _, rfl, (by unfold dblL; rfl), .inl ⟨rfl, rfl, rfl⟩, rfl, rfl, rfl⟩ ?_ ?_ (by decide)
    · unfold eDb
      ((repeat' (refine List.forall_mem_cons.2 ⟨⟨rfl, ?_⟩, ?_⟩; (first | exact scT_g rfl | exact ⟨by decide, rfl⟩ | exact ⟨by decide, fun h => (by cases h)⟩))); exact fun _ h => (by cases h))
    · unfold hDb
      ((repeat' (refine List.forall_mem_cons.2 ⟨⟨Nat.le_of_ble_eq_true rfl, _, rfl, ?_⟩, ?_⟩; (first | exact ObjRen_g (flat_g _ _) | exact ObjRen_j rfl rfl))); exact fun _ h => (by cases h))
  · rintro n e h nx ⟨i, j, L, O, F, hj, hi, rfl, hL, hO, rfl, rfl, rfl⟩
    have hLl : L.length = i := by rw [hL, dbl_len, List.length_take]; omega
    have round : i < l.length → wide (at2 l i) = true := fun h => by rw [at2_eq h]; exact List.all_eq_true.1 hall _ (List.getElem_mem h)
    rcases hO with ⟨hLn, rfl, rfl⟩ | ⟨hLn, rfl, rfl⟩
    · unfold eDb hDb
      ((conv => whnf); refine bm (fun g1 => ?_) (fun g1 => ?_))
      · have hlt : i < l.length := by simp only [cA_lt, cA_num, decide_eq_true_eq] at g1; omega
        have hw := wide_low (round hlt)
        have hs := dbl_s hlt
        rw [← hL, hLn, List.nil_append] at hs
        repeat' first
          | (exfalso; simp only [cA_mul, cA_add, cA_sub, cA_fits, cA_lt, cA_le, cA_eq, cA_notB, cA_andB, cA_num, fitsK, Bool.not_eq_false', Bool.not_eq_true', Bool.and_eq_false_iff, Bool.and_eq_true, decide_eq_true_eq, decide_eq_false_iff_not, cA_ix] at g; omega)
          | (((conv => whnf); refine bm (fun g => ?_) (fun g => ?_)))
          | ((conv => whnf)
             refine boL (getP l hlt ?_) ?_
             · simp [cfgS, std]; omega)
        all_goals (conv => whnf)
        refine ⟨l.length - (i + 1), by omega, ?_⟩
        refine Into_mv (e0 := eDb (.slice (some ⟨1, 0, none⟩) 1 1) l c (j + 1)) (h0 := hDb l [(1, .cells true false 2 (flat elP.fl [dbP (at2 l i)]))]) (n0 := 2) 1 4 (by decide) (by decide) ⟨i + 1, j + 1, [dbP (at2 l i)], _, _, by omega, by omega, rfl, hs.symm, .inr ⟨Nat.one_pos, rfl, rfl⟩, rfl, rfl, rfl⟩ ?_ ?_ ?_
        · unfold eDb
          ((repeat' (refine List.forall_mem_cons.2 ⟨⟨rfl, ?_⟩, ?_⟩; (first | exact scT_g rfl | exact ⟨by decide, rfl⟩ | exact ⟨by decide, fun h => (by cases h)⟩))); exact fun _ h => (by cases h))
        · unfold hDb
          ((repeat' (refine List.forall_mem_cons.2 ⟨⟨Nat.le_of_ble_eq_true rfl, _, rfl, ?_⟩, ?_⟩; (first | exact ObjRen_g (flat_g _ _) | exact ObjRen_j rfl rfl))); exact fun _ h => (by cases h))
        · unfold hDb
          ((repeat' (refine List.forall_mem_cons.2 ⟨?_, ?_⟩; (intro _ h; revert h; simp))); exact fun _ h => (by cases h))
      · have hge : i = l.length := by simp only [cA_lt, cA_num, decide_eq_false_iff_not] at g1; omega
        have hn : dblL l = [] := by
          have h2 := hL
          rw [hge, List.take_length, hLn] at h2
          exact h2.symm
        rw [hn]
        (conv => whnf)
        rfl
    · unfold eDb hDb
      ((conv => whnf); refine bm (fun g1 => ?_) (fun g1 => ?_))
      · have hlt : i < l.length := by simp only [cA_lt, cA_num, decide_eq_true_eq] at g1; omega
        have hw := wide_low (round hlt)
        have hs := dbl_s hlt
        rw [← hL] at hs
        repeat' first
          | (exfalso; simp only [cA_mul, cA_add, cA_sub, cA_fits, cA_lt, cA_le, cA_eq, cA_notB, cA_andB, cA_num, fitsK, ble_t, ble_f, flat2, Bool.not_eq_false', Bool.not_eq_true', Bool.and_eq_false_iff, Bool.and_eq_true, decide_eq_true_eq, decide_eq_false_iff_not, cA_ix] at g; omega)
          | (((conv => whnf); refine bm (fun g => ?_) (fun g => ?_)))
          | ((conv => whnf)
             refine boL (getP l hlt ?_) ?_
             · simp [cfgS, std]; omega)
        all_goals (conv => whnf)
        all_goals first
          | (refine ⟨l.length - (i + 1), by omega, ?_⟩
             refine Into_mv (e0 := eDb (.slice (some ⟨1, 0, none⟩) (L.length + 1) (L.length + 1)) l c (j + 1)) (h0 := hDb l [(1, .cells true false 2 (flat elP.fl (L ++ [dbP (at2 l i)])))]) (n0 := 2) 1 4 (by decide) (by decide) ⟨i + 1, j + 1, L ++ [dbP (at2 l i)], _, _, by omega, by omega, rfl, hs.symm, .inr ⟨by rw [List.length_append]; exact Nat.succ_pos _, by rw [List.length_append]; rfl, rfl⟩, rfl, rfl, rfl⟩ ?_ ?_ ?_
             · unfold eDb
               ((repeat' (refine List.forall_mem_cons.2 ⟨⟨rfl, ?_⟩, ?_⟩; (first | exact scT_g rfl | exact ⟨by decide, rfl⟩ | exact ⟨by decide, fun h => (by cases h)⟩))); exact fun _ h => (by cases h))
             · unfold hDb
               ((repeat' (refine List.forall_mem_cons.2 ⟨⟨Nat.le_of_ble_eq_true rfl, _, rfl, ?_⟩, ?_⟩; (first | exact (ObjRen_j (flat_g elP _) (flat_grow L (dbP (at2 l i)))) | exact ObjRen_g (flat_g _ _) | exact ObjRen_j rfl rfl))); exact fun _ h => (by cases h))
             · unfold hDb
               ((repeat' (refine List.forall_mem_cons.2 ⟨?_, ?_⟩; (intro _ h; revert h; simp))); exact fun _ h => (by cases h)))
          | (exfalso
             have hf : (flat elP.fl L).length = L.length * 2 := flat2 L
             simp only [cA_andB, hf] at g
             revert g
             simp
             omega)
          | trace_state
      · have hge : i = l.length := by simp only [cA_lt, cA_num, decide_eq_false_iff_not] at g1; omega
        have hn : dblL l = L := by rw [hL, hge, List.take_length]
        rw [hn]
        (conv => whnf)
        exact Yields_own (l := L) (e := none) (q := 1) (nx := 0) elP hLn rfl
end Go.Aw
