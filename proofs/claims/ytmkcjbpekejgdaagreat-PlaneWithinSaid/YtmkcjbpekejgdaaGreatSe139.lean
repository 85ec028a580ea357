/-
  Is the middle of two stops in a polygon: the reference's. No condition.
-/
import Derived.Test.YtmkcjbpekejgdaaGreatSe138
set_option linter.unusedSimpArgs false
set_option linter.unusedVariables false
noncomputable section
namespace Go.Aw
set_option maxRecDepth 100000
def mX (s : Sg) (n d : Int) : Int := s.1.1 * d + (s.2.1 - s.1.1) * n
def mY (s : Sg) (n d : Int) : Int := s.1.2 * d + (s.2.2 - s.1.2) * n
def algB (l : List (Int × Int)) (s : Sg) (n d : Int) (i : Nat) : Bool := decide (turnS s.1 s.2 (edgeS l i).1 = 0) && decide (turnS s.1 s.2 (edgeS l i).2 = 0) && (btw (mX s n d) ((edgeS l i).1.1 * d) ((edgeS l i).2.1 * d) && btw (mY s n d) ((edgeS l i).1.2 * d) ((edgeS l i).2.2 * d))
def midI (l : List (Int × Int)) (s : Sg) (n d : Int) : Nat → Bool
  | 0 => false
  | i + 1 => midI l s n d i || algB l s n d i
def midV (l : List (Int × Int)) (s : Sg) (n d : Int) : Bool := midI l s n d l.length || inF l (mX s n d) (mY s n d) d l.length
theorem midI_up {l : List (Int × Int)} {s : Sg} {n d : Int} {i : Nat} (h : algB l s n d i = true) : ∀ {k}, i < k → midI l s n d k = true
  | 0, hk => absurd hk (Nat.not_lt_zero _)
  | k + 1, hk => by
    unfold midI
    by_cases e : i = k
    · subst e; rw [h, Bool.or_true]
    · rw [midI_up h (k := k) (by omega), Bool.true_or]
theorem midV_yes {l : List (Int × Int)} {s : Sg} {n d : Int} {i : Nat} (hi : i < l.length) (h : algB l s n d i = true) : midV l s n d = true := by
  unfold midV
  rw [midI_up h hi, Bool.true_or]
theorem midV_no {l : List (Int × Int)} {s : Sg} {n d : Int} (h : midI l s n d l.length = false) : midV l s n d = inF l (mX s n d) (mY s n d) d l.length := by
  unfold midV
  rw [h, Bool.false_or]
def S92m (l : List (Int × Int)) : List Value → Option (Bool × Value)
  | [v, .int .i64 n, .int .i64 d] => (decS v).map fun s => (goodL l && rightG s && decide (0 ≤ n) && decide (n ≤ 200000000) && decide (0 < d) && decide (d ≤ 200000000), .bool (midV l s n d))
  | _ => none
theorem S92m_inv {l : List (Int × Int)} {r : List Value} {v : Value} (hs : S92m l r = some (true, v)) : ∃ (s : Sg) (n d : Int), r = [sgv s, iv n, iv d] ∧ goodP l ∧ rightG s = true ∧ (0 ≤ n ∧ n ≤ 200000000) ∧ (0 < d ∧ d ≤ 200000000) ∧ v = .bool (midV l s n d) := by
  unfold S92m at hs
  split at hs
  · rename_i v n d
    obtain ⟨s, h1, h2⟩ := Option.map_eq_some_iff.1 hs
    injection h2 with h2 h3
    simp only [Bool.and_eq_true, decide_eq_true_eq] at h2
    obtain ⟨⟨⟨⟨⟨q1, q2⟩, q3⟩, q4⟩, q5⟩, q6⟩ := h2
    exact ⟨s, n, d, by rw [decS_eq h1]; rfl, goodL_iff.1 q1, q2, ⟨q3, q4⟩, ⟨q5, q6⟩, h3.symm⟩
  · cases hs
def eMd (l : List (Int × Int)) (s : Sg) (c : Nat) (n d j : Int) : List (Nat × Value) := [(0, .slice (some ⟨0, 0, none⟩) l.length c), (5, .pointer (some ⟨1, 0, none⟩)), (2, iv n), (3, iv d), (9, iv (s.2.1 - s.1.1)), (10, iv (s.2.2 - s.1.2)), (11, iv j)]
def hMd (l : List (Int × Int)) (s : Sg) : Heap := [(0, .cells false true 2 (flat elP.fl l)), (1, .cells true false 1 [iv s.1.1, iv s.1.2, iv s.2.1, iv s.2.2])]
def XMd : Nat × XF := (92, lX elP S92m)
set_option maxHeartbeats 4000000 in
attribute [local irreducible] edgeS turnS btw midV at2 inF in
theorem xMd : XOK Go.Proofs.Tryz.prog XMd.1 XMd.2 := lX_ok elP (f := 92) (body_calls (xl := [X84, X57, X120, XF4]) (.cons x84 (.cons x57 (.cons x120 (.cons xF4 .nil))))) fun l r v hs => by
  obtain ⟨s, m, d, rfl, hgood, hsr, hn, hd, rfl⟩ := S92m_inv hs
  refine ⟨rfl, rfl, fun c => ?_⟩
  clear hs
  have h3' := hgood.1
  have h200' := hgood.2.1
  obtain ⟨hra, hrb, hab⟩ := right_two hsr
  have ha := right_low hra
  have hb := right_low hrb
  have hwa := rightS_wide hra
  have hwb := rightS_wide hrb
  have m1 := mulB (a := s.1.1) (b := d) (A := 10000) (B := 200000000) (by omega) (by omega) (by omega) (by omega)
  have m2 := mulB (a := s.1.2) (b := d) (A := 10000) (B := 200000000) (by omega) (by omega) (by omega) (by omega)
  have m3 := mulB (a := s.2.1 - s.1.1) (b := m) (A := 10000) (B := 200000000) (by omega) (by omega) (by omega) (by omega)
  have m4 := mulB (a := s.2.2 - s.1.2) (b := m) (A := 10000) (B := 200000000) (by omega) (by omega) (by omega) (by omega)
  (conv => whnf)
  repeat' first
    | (exfalso; simp only [cA_sub, cA_fits, fitsK, Bool.and_eq_false_iff, decide_eq_false_iff_not] at g; omega)
    | (((conv => whnf); refine bm (fun g => ?_) (fun g => ?_)))
  all_goals (conv => whnf)
  refine ⟨fun n e h nx => ∃ (i : Nat) (j : Int), j = i ∧ i ≤ l.length ∧ n = l.length - i ∧ midI l s m d i = false ∧ e = eMd l s c m d j ∧ h = hMd l s ∧ nx = 2, ⟨l.length, ?_⟩, ?_⟩
  · refine Into_id (e0 := eMd l s c m d 0) (h0 := hMd l s) (n0 := 2) ⟨0, 0, rfl, Nat.zero_le _, rfl, rfl, rfl, rfl, rfl⟩ ?_ ?_ (by decide)
    · unfold eMd
      ((repeat' (refine List.forall_mem_cons.2 ⟨⟨rfl, ?_⟩, ?_⟩; (first | exact scT_g rfl | exact ⟨by decide, rfl⟩ | exact ⟨by decide, fun h => (by cases h)⟩))); exact fun _ h => (by cases h))
    · unfold hMd
      ((repeat' (refine List.forall_mem_cons.2 ⟨⟨Nat.le_of_ble_eq_true rfl, _, rfl, ?_⟩, ?_⟩; (first | exact ObjRen_g (flat_g _ _) | exact ObjRen_j rfl rfl))); exact fun _ h => (by cases h))
  · rintro n e h nx ⟨i, j, hj, hi, rfl, hb0, rfl, rfl, rfl⟩
    unfold eMd hMd
    ((conv => whnf); refine bm (fun g1 => ?_) (fun g1 => ?_))
    · have hlt : i < l.length := by simp only [cA_lt, cA_num, decide_eq_true_eq] at g1; omega
      have hji : j.toNat = i := by omega
      have re := edge_right hgood hlt
      have e1 := right_low (right_two re).1
      have e2 := right_low (right_two re).2.1
      have w1 := rightS_wide (right_two re).1
      have w2 := rightS_wide (right_two re).2.1
      have k1 := mulB (a := (edgeS l i).1.1) (b := d) (A := 10000) (B := 200000000) (by omega) (by omega) (by omega) (by omega)
      have k2 := mulB (a := (edgeS l i).1.2) (b := d) (A := 10000) (B := 200000000) (by omega) (by omega) (by omega) (by omega)
      have k3 := mulB (a := (edgeS l i).2.1) (b := d) (A := 10000) (B := 200000000) (by omega) (by omega) (by omega) (by omega)
      have k4 := mulB (a := (edgeS l i).2.2) (b := d) (A := 10000) (B := 200000000) (by omega) (by omega) (by omega) (by omega)
      have hds : (decide (0 ≤ j) && decide (j < (l.length : Int)) && decide (l.length ≤ 1000000000)) = true := by
        rw [decide_eq_true (by omega), decide_eq_true (by omega), decide_eq_true (by omega)]; rfl
      (conv => whnf)
      refine ⟨l, LsAt_own elP rfl, ?_⟩
      ((conv => whnf); refine bm (fun g2 => ?_) (fun g2 => ?_))
      rotate_left
      · exfalso
        have hg : (decide (0 ≤ j) && decide (j < (l.length : Int)) && decide (l.length ≤ 1000000000)) = false := g2
        rw [hds] at hg
        cases hg
      clear g2 hds
      repeat' first
        | (exfalso; simp only [cA_mul, cA_add, cA_sub, cA_fits, cA_lt, cA_le, cA_andB, cA_num, fitsK, Bool.and_eq_false_iff, Bool.and_eq_true, decide_eq_true_eq, decide_eq_false_iff_not, hji] at g; omega)
        | (exfalso
           first
             | have hg : (wide s.1 && wide s.2 && wide (edgeS l j.toNat).1) = false := g
             | have hg : (wide s.1 && wide s.2 && wide (edgeS l j.toNat).2) = false := g
           rw [hji] at hg
           simp only [hwa, hwb, w1, w2, Bool.and_self] at hg
           exact absurd hg (by decide))
        | (((conv => whnf); refine bm (fun g => ?_) (fun g => ?_)))
      all_goals (conv => whnf)
      all_goals simp only [cA_eqB, cA_eq, hji, pEta, beq_iff_eq, beq_eq_false_iff_ne, ne_eq, Bool.not_eq_true, Bool.not_eq_false, decide_eq_true_eq, decide_eq_false_iff_not] at *
      all_goals first
        | (have ha : algB l s m d i = true := by
             unfold algB mX mY
             simp only [Bool.and_eq_true, decide_eq_true_eq]
             refine ⟨⟨by assumption, by assumption⟩, by assumption, by assumption⟩
           rw [midV_yes hlt ha]
           done)
        | (have ha : algB l s m d i = false := by
             unfold algB mX mY
             simp only [Bool.and_eq_false_iff, decide_eq_false_iff_not]
             first
               | (left; left; assumption)
               | (left; right; assumption)
               | (right; left; assumption)
               | (right; right; assumption)
           refine ⟨l.length - (i + 1), by omega, ?_⟩
           refine Into_id (e0 := eMd l s c m d (j + 1)) (h0 := hMd l s) (n0 := 2) ⟨i + 1, j + 1, by omega, by omega, rfl, by unfold midI; rw [hb0, ha]; rfl, rfl, rfl, rfl⟩ ?_ ?_ (by decide)
           · unfold eMd
             ((repeat' (refine List.forall_mem_cons.2 ⟨⟨rfl, ?_⟩, ?_⟩; (first | exact scT_g rfl | exact ⟨by decide, rfl⟩ | exact ⟨by decide, fun h => (by cases h)⟩))); exact fun _ h => (by cases h))
           · unfold hMd
             ((repeat' (refine List.forall_mem_cons.2 ⟨⟨Nat.le_of_ble_eq_true rfl, _, rfl, ?_⟩, ?_⟩; (first | exact ObjRen_g (flat_g _ _) | exact ObjRen_j rfl rfl))); exact fun _ h => (by cases h)))
        | trace_state
    · have hge : i = l.length := by simp only [cA_lt, cA_num, decide_eq_false_iff_not] at g1; omega
      subst hge
      rw [midV_no hb0]
      repeat' first
        | (exfalso; simp only [cA_mul, cA_add, cA_sub, cA_fits, fitsK, Bool.and_eq_false_iff, Bool.and_eq_true, decide_eq_true_eq, decide_eq_false_iff_not] at g; omega)
        | (((conv => whnf); refine bm (fun g => ?_) (fun g => ?_)))
        | ((conv => whnf)
           refine Exists.intro l (And.intro (LsAt_own elP rfl) ?_))
      all_goals (conv => whnf)
      all_goals first
        | (show Value.bool (inF l (mX s m d) (mY s m d) d l.length) = _
           rfl)
        | (exfalso
           have hg : (goodL l && decide (-4000000000000 ≤ mX s m d) && decide (mX s m d ≤ 4000000000000) && decide (-4000000000000 ≤ mY s m d) && decide (mY s m d ≤ 4000000000000) && decide (0 < d) && decide (d ≤ 200000000)) = false := g
           rw [goodL_iff.2 hgood, decide_eq_true (by unfold mX; omega), decide_eq_true (by unfold mX; omega), decide_eq_true (by unfold mY; omega), decide_eq_true (by unfold mY; omega), decide_eq_true hd.1, decide_eq_true hd.2] at hg
           exact absurd hg (by decide))
end Go.Aw
