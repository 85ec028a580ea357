/-
  The stops of a segment in a polygon: the reference's. No condition.
-/
import Derived.Test.YtmkcjbpekejgdaaGreatSe136
import Derived.Test.YtmkcjbpekejgdaaGreatSe137
set_option linter.unusedSimpArgs false
set_option linter.unusedVariables false
noncomputable section
namespace Go.Aw
set_option maxRecDepth 100000
def frP (s : Sg) (p : Int × Int) : Int × Int := if s.2.1 - s.1.1 = 0 then ((p.2 - s.1.2) * sgn (s.2.2 - s.1.2), (s.2.2 - s.1.2) * sgn (s.2.2 - s.1.2)) else ((p.1 - s.1.1) * sgn (s.2.1 - s.1.1), (s.2.1 - s.1.1) * sgn (s.2.1 - s.1.1))
def stF (l : List (Int × Int)) (s : Sg) : Nat → List (Int × Int)
  | 0 => [(0, 1), (1, 1)]
  | i + 1 => stF l s i ++ (if onR (at2 l i) s = true then [frP s (at2 l i)] else [])
theorem stF_0 (l : List (Int × Int)) (s : Sg) : stF l s 0 = [(0, 1), (1, 1)] := rfl
theorem stF_yes {l : List (Int × Int)} {s : Sg} {i : Nat} (h : onR (at2 l i) s = true) : stF l s (i + 1) = stF l s i ++ [frP s (at2 l i)] := by
  conv => lhs; unfold stF
  rw [if_pos h]
theorem stF_no {l : List (Int × Int)} {s : Sg} {i : Nat} (h : onR (at2 l i) s = false) : stF l s (i + 1) = stF l s i := by
  conv => lhs; unfold stF
  rw [if_neg (by rw [h]; decide), List.append_nil]
theorem stF_len (l : List (Int × Int)) (s : Sg) : ∀ i, 2 ≤ (stF l s i).length ∧ (stF l s i).length ≤ 2 + i
  | 0 => ⟨Nat.le_refl _, Nat.le_refl _⟩
  | i + 1 => by
    have := stF_len l s i
    cases h : onR (at2 l i) s with
    | true => rw [stF_yes h, List.length_append, List.length_singleton]; omega
    | false => rw [stF_no h]; omega
def noX (l : List (Int × Int)) (s : Sg) : Prop := ∀ i, i < l.length → meetR s (edgeS l i) ≠ 3
open Classical in
def S91 (l : List (Int × Int)) : List Value → Option (Bool × List (Int × Int) × Option Int)
  | [v] => (decS v).map fun s => (goodL l && rightG s && decide (noX l s), stF l s l.length, none)
  | _ => none
theorem S91_inv {l out : List (Int × Int)} {r : List Value} {e : Option Int} (hs : S91 l r = some (true, out, e)) : ∃ s : Sg, r = [sgv s] ∧ goodP l ∧ rightG s = true ∧ noX l s ∧ out = stF l s l.length ∧ e = none := by
  unfold S91 at hs
  split at hs
  · rename_i v
    obtain ⟨s, h1, h2⟩ := Option.map_eq_some_iff.1 hs
    injection h2 with h2 h3; injection h3 with h3 h4
    simp only [Bool.and_eq_true, decide_eq_true_eq] at h2
    exact ⟨s, by rw [decS_eq h1], goodL_iff.1 h2.1.1, h2.1.2, h2.2, h3.symm, h4.symm⟩
  · cases hs
def eSt (l : List (Int × Int)) (s : Sg) (c n : Nat) (j : Int) : List (Nat × Value) := [(0, .slice (some ⟨0, 0, none⟩) l.length c), (3, .pointer (some ⟨1, 0, none⟩)), (5, iv (s.2.1 - s.1.1)), (6, iv (s.2.2 - s.1.2)), (7, .slice (some ⟨2, 0, none⟩) n n), (8, iv j)]
def hSt (l : List (Int × Int)) (s : Sg) (L : List (Int × Int)) : Heap := [(0, .cells false true 2 (flat elP.fl l)), (1, .cells true false 1 [iv s.1.1, iv s.1.2, iv s.2.1, iv s.2.2]), (2, .cells true false 2 (flat elP.fl L))]
theorem sgn_low (n : Int) : -1 ≤ sgn n ∧ sgn n ≤ 1 := by unfold sgn; split <;> (try split) <;> omega
theorem frB {a b : Int} (h : -10000 ≤ a ∧ a ≤ 10000) : -10000 ≤ a * sgn b ∧ a * sgn b ≤ 10000 := by
  have h2 := sgn_low b
  have := mulB (a := a) (b := sgn b) (A := 10000) (B := 1) h.1 h.2 h2.1 h2.2
  omega
set_option maxHeartbeats 4000000 in
attribute [local irreducible] edgeS onR meetR stF sgn at2 in
theorem d91 : XOK Go.Proofs.Tryz.prog 91 (rfX elP elP S91) := rfX_ok elP elP (s := S91) (f := 91) (body_calls (xl := [X84, X67, X103, X72]) (.cons x84 (.cons x67 (.cons x103 (.cons x72 .nil))))) fun l r out e hs => by
  obtain ⟨s, rfl, hgood, hsr, hno, rfl, rfl⟩ := S91_inv hs
  refine ⟨rfl, fun c => ?_⟩
  clear hs
  have h3' := hgood.1
  have h200' := hgood.2.1
  obtain ⟨hra, hrb, hab⟩ := right_two hsr
  have ha := right_low hra
  have hb := right_low hrb
  have hws : wideS s = true := rightG_wide hsr
  (conv => whnf)
  repeat' first
    | (exfalso; simp only [cA_sub, cA_fits, fitsK, Bool.and_eq_false_iff, decide_eq_false_iff_not] at g; omega)
    | (((conv => whnf); refine bm (fun g => ?_) (fun g => ?_)))
  all_goals (conv => whnf)
  refine ⟨fun n e h nx => ∃ (i : Nat) (j : Int) (L : List (Int × Int)), j = i ∧ i ≤ l.length ∧ n = l.length - i ∧ L = stF l s i ∧ e = eSt l s c L.length j ∧ h = hSt l s L ∧ nx = 3, ⟨l.length, ?_⟩, ?_⟩
  · refine Into_id (e0 := eSt l s c 2 0) (h0 := hSt l s [(0, 1), (1, 1)]) (n0 := 3) ⟨0, 0, [(0, 1), (1, 1)], rfl, Nat.zero_le _, rfl, (stF_0 l s).symm, rfl, rfl, rfl⟩ ?_ ?_ (by decide)
    · unfold eSt
      ((repeat' (refine List.forall_mem_cons.2 ⟨⟨rfl, ?_⟩, ?_⟩; (first | exact scT_g rfl | exact ⟨by decide, rfl⟩ | exact ⟨by decide, fun h => (by cases h)⟩))); exact fun _ h => (by cases h))
    · unfold hSt
      ((repeat' (refine List.forall_mem_cons.2 ⟨⟨Nat.le_of_ble_eq_true rfl, _, rfl, ?_⟩, ?_⟩; (first | exact ObjRen_g (flat_g _ _) | exact ObjRen_j rfl rfl))); exact fun _ h => (by cases h))
  · rintro n e h nx ⟨i, j, L, hj, hi, rfl, hL, rfl, rfl, rfl⟩
    have hLb := stF_len l s i
    rw [← hL] at hLb
    unfold eSt hSt
    ((conv => whnf); refine bm (fun g1 => ?_) (fun g1 => ?_))
    · have hlt : i < l.length := by simp only [cA_lt, cA_num, decide_eq_true_eq] at g1; omega
      have hji : j.toNat = i := by omega
      have re := edge_right hgood hlt
      have hwe : wideS (edgeS l i) = true := rightG_wide re
      have hmx := hno i hlt
      have hea : (edgeS l i).1 = at2 l i := by unfold edgeS; rfl
      have hsy := @stF_yes l s i
      have hsn := @stF_no l s i
      rw [← hea, ← hL] at hsy
      rw [← hea, ← hL] at hsn
      have hpa := right_low (right_two re).1
      have hwp := (wideS_two hwe).1
      have hk1 := frB (a := (edgeS l i).1.1 - s.1.1) (b := s.2.1 - s.1.1) (by omega)
      have hk2 := frB (a := (edgeS l i).1.2 - s.1.2) (b := s.2.2 - s.1.2) (by omega)
      have hk3 := frB (a := s.2.1 - s.1.1) (b := s.2.1 - s.1.1) (by omega)
      have hk4 := frB (a := s.2.2 - s.1.2) (b := s.2.2 - s.1.2) (by omega)
      have hds : (decide (0 ≤ j) && decide (j < (l.length : Int)) && decide (l.length ≤ 1000000000)) = true := by
        rw [decide_eq_true (by omega), decide_eq_true (by omega), decide_eq_true (by omega)]; rfl
      (conv => whnf)
      refine ⟨l, LsAt_own elP rfl, ?_⟩
      ((conv => whnf); refine bm (fun g2 => ?_) (fun g2 => ?_))
      rotate_left
      · exfalso
        have hg : (decide (0 ≤ j) && decide (j < (l.length : Int)) && decide (l.length ≤ 1000000000)) = false := g2
        rw [hds] at hg
        cases hg
      clear g2 hds
      repeat' first
        | (exfalso; simp only [cA_mul, cA_add, cA_sub, cA_fits, cA_lt, cA_le, cA_eq, cA_notB, cA_andB, cA_num, fitsK, ble_t, ble_f, flat2, Bool.not_eq_false', Bool.not_eq_true', Bool.and_eq_false_iff, Bool.and_eq_true, decide_eq_true_eq, decide_eq_false_iff_not, cA_ix, hji] at g; omega)
        | (exfalso
           have hg : cfgS.A.eq (meetR s (edgeS l j.toNat)) 3 = true := g
           rw [hji, cA_eq] at hg
           exact hmx (of_decide_eq_true hg))
        | (exfalso
           have hg : (wide (edgeS l j.toNat).1 && wideS s) = false := g
           rw [hji, hwp, hws] at hg
           exact absurd hg (by decide))
        | (exfalso
           have hg : (wideS s && wideS (edgeS l j.toNat)) = false := g
           rw [hji, hwe, hws] at hg
           exact absurd hg (by decide))
        | (((conv => whnf); refine bm (fun g => ?_) (fun g => ?_)))
      all_goals (conv => whnf)
      all_goals first
        | (exfalso
           have hf : (flat elP.fl L).length = L.length * 2 := flat2 L
           simp only [cA_andB, hf] at g
           revert g
           simp
           omega)
        | (have ho : onR (edgeS l i).1 s = true := by
             have hg : onR (edgeS l j.toNat).1 s = true := by assumption
             rw [hji] at hg
             exact hg
           have hfr : frP s (edgeS l i).1 = (((edgeS l i).1.1 - s.1.1) * sgn (s.2.1 - s.1.1), (s.2.1 - s.1.1) * sgn (s.2.1 - s.1.1)) ∨ frP s (edgeS l i).1 = (((edgeS l i).1.2 - s.1.2) * sgn (s.2.2 - s.1.2), (s.2.2 - s.1.2) * sgn (s.2.2 - s.1.2)) := by
             unfold frP
             split
             · exact .inr rfl
             · exact .inl rfl
           have hsy2 := hsy ho
           rw [hji]
           first
             | (have hd : frP s (edgeS l i).1 = (((edgeS l i).1.1 - s.1.1) * sgn (s.2.1 - s.1.1), (s.2.1 - s.1.1) * sgn (s.2.1 - s.1.1)) := by
                  have hg : cfgS.A.notB (cfgS.A.eq (s.2.1 - s.1.1) 0) = true := by assumption
                  rw [cA_notB, cA_eq, Bool.not_eq_true', decide_eq_false_iff_not] at hg
                  unfold frP
                  rw [if_neg hg]
                rw [hd] at hsy2
                refine ⟨l.length - (i + 1), by omega, ?_⟩
                refine Into_mv (e0 := eSt l s c (L.length + 1) (j + 1)) (h0 := hSt l s (L ++ [(((edgeS l i).1.1 - s.1.1) * sgn (s.2.1 - s.1.1), (s.2.1 - s.1.1) * sgn (s.2.1 - s.1.1))])) (n0 := 3) 2 6 (by decide) (by decide) ⟨i + 1, j + 1, L ++ [(((edgeS l i).1.1 - s.1.1) * sgn (s.2.1 - s.1.1), (s.2.1 - s.1.1) * sgn (s.2.1 - s.1.1))], by omega, by omega, rfl, hsy2.symm, by rw [List.length_append]; rfl, rfl, rfl⟩ ?_ ?_ ?_
                · unfold eSt
                  ((repeat' (refine List.forall_mem_cons.2 ⟨⟨rfl, ?_⟩, ?_⟩; (first | exact scT_g rfl | exact ⟨by decide, rfl⟩ | exact ⟨by decide, fun h => (by cases h)⟩))); exact fun _ h => (by cases h))
                · unfold hSt
                  ((repeat' (refine List.forall_mem_cons.2 ⟨⟨Nat.le_of_ble_eq_true rfl, _, rfl, ?_⟩, ?_⟩; (first | exact (ObjRen_j (flat_g elP _) (flat_grow L (((edgeS l i).1.1 - s.1.1) * sgn (s.2.1 - s.1.1), (s.2.1 - s.1.1) * sgn (s.2.1 - s.1.1)))) | exact ObjRen_g (flat_g _ _) | exact ObjRen_j rfl rfl))); exact fun _ h => (by cases h))
                · unfold hSt
                  ((repeat' (refine List.forall_mem_cons.2 ⟨?_, ?_⟩; (intro _ h; revert h; simp))); exact fun _ h => (by cases h)))
             | (have hd : frP s (edgeS l i).1 = (((edgeS l i).1.2 - s.1.2) * sgn (s.2.2 - s.1.2), (s.2.2 - s.1.2) * sgn (s.2.2 - s.1.2)) := by
                  have hg : cfgS.A.notB (cfgS.A.eq (s.2.1 - s.1.1) 0) = false := by assumption
                  rw [cA_notB, cA_eq, Bool.not_eq_false', decide_eq_true_eq] at hg
                  unfold frP
                  rw [if_pos hg]
                rw [hd] at hsy2
                refine ⟨l.length - (i + 1), by omega, ?_⟩
                refine Into_mv (e0 := eSt l s c (L.length + 1) (j + 1)) (h0 := hSt l s (L ++ [(((edgeS l i).1.2 - s.1.2) * sgn (s.2.2 - s.1.2), (s.2.2 - s.1.2) * sgn (s.2.2 - s.1.2))])) (n0 := 3) 2 6 (by decide) (by decide) ⟨i + 1, j + 1, L ++ [(((edgeS l i).1.2 - s.1.2) * sgn (s.2.2 - s.1.2), (s.2.2 - s.1.2) * sgn (s.2.2 - s.1.2))], by omega, by omega, rfl, hsy2.symm, by rw [List.length_append]; rfl, rfl, rfl⟩ ?_ ?_ ?_
                · unfold eSt
                  ((repeat' (refine List.forall_mem_cons.2 ⟨⟨rfl, ?_⟩, ?_⟩; (first | exact scT_g rfl | exact ⟨by decide, rfl⟩ | exact ⟨by decide, fun h => (by cases h)⟩))); exact fun _ h => (by cases h))
                · unfold hSt
                  ((repeat' (refine List.forall_mem_cons.2 ⟨⟨Nat.le_of_ble_eq_true rfl, _, rfl, ?_⟩, ?_⟩; (first | exact (ObjRen_j (flat_g elP _) (flat_grow L (((edgeS l i).1.2 - s.1.2) * sgn (s.2.2 - s.1.2), (s.2.2 - s.1.2) * sgn (s.2.2 - s.1.2)))) | exact ObjRen_g (flat_g _ _) | exact ObjRen_j rfl rfl))); exact fun _ h => (by cases h))
                · unfold hSt
                  ((repeat' (refine List.forall_mem_cons.2 ⟨?_, ?_⟩; (intro _ h; revert h; simp))); exact fun _ h => (by cases h))))
        | (have ho : onR (edgeS l i).1 s = false := by
             have hg : onR (edgeS l j.toNat).1 s = false := by assumption
             rw [hji] at hg
             exact hg
           refine ⟨l.length - (i + 1), by omega, ?_⟩
           refine Into_id (e0 := eSt l s c L.length (j + 1)) (h0 := hSt l s L) (n0 := 3) ⟨i + 1, j + 1, L, by omega, by omega, rfl, (hsn ho).symm, rfl, rfl, rfl⟩ ?_ ?_ (by decide)
           · unfold eSt
             ((repeat' (refine List.forall_mem_cons.2 ⟨⟨rfl, ?_⟩, ?_⟩; (first | exact scT_g rfl | exact ⟨by decide, rfl⟩ | exact ⟨by decide, fun h => (by cases h)⟩))); exact fun _ h => (by cases h))
           · unfold hSt
             ((repeat' (refine List.forall_mem_cons.2 ⟨⟨Nat.le_of_ble_eq_true rfl, _, rfl, ?_⟩, ?_⟩; (first | exact ObjRen_g (flat_g _ _) | exact ObjRen_j rfl rfl))); exact fun _ h => (by cases h)))
        | trace_state
    · have hge : i = l.length := by simp only [cA_lt, cA_num, decide_eq_false_iff_not] at g1; omega
      rw [← hge, ← hL]
      (conv => whnf)
      exact Yields_own (l := L) (e := none) (q := 2) (nx := 0) elP (by omega) rfl
end Go.Aw
