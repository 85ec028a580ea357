/-
  Within: the reference's, walked. No condition.
-/
import Derived.Test.YtmkcjbpekejgdaaGreatSe140
set_option linter.unusedSimpArgs false
set_option linter.unusedVariables false
noncomputable section
namespace Go.Aw
set_option maxRecDepth 100000
open Classical in
def noXB (l : List (Int × Int)) (s : Sg) : Bool := decide (noX l s)
open Classical in
theorem noXB_of {l : List (Int × Int)} {s : Sg} (h : noX l s) : noXB l s = true := by unfold noXB; exact decide_eq_true h
theorem oN_some (x : Int × Int) : oN (some x) = x := rfl
theorem eqB_T {a : Bool} (h : cfgS.A.eqB a true = true) : a = true := by
  cases a
  · cases h
  · rfl
theorem eqB_F {a : Bool} (h : cfgS.A.eqB a true = false) : a = false := by
  cases a
  · rfl
  · cases h
theorem notB_T {a : Bool} (h : cfgS.A.notB a = true) : a = false := by
  cases a
  · rfl
  · cases h
theorem notB_F {a : Bool} (h : cfgS.A.notB a = false) : a = true := by
  cases a
  · cases h
  · rfl
def Y91 : Nat × XF := (91, rfX elP elP S91)
def XWr : Nat × XF := (38, lX elP SWr)
set_option maxHeartbeats 8000000 in
attribute [local irreducible] edgeS meetR stF at2 midV wR whI polyE nxF rightG in
theorem xWr : XOK Go.Proofs.Tryz.prog XWr.1 XWr.2 := lX_ok elP (f := 38) (body_calls (xl := [X66, X33, X89, X84, X72, Y91, XMd]) (.cons x66 (.cons x33 (.cons x89 (.cons x84 (.cons x72 (.cons d91 (.cons xMd .nil)))))))) fun l r v hs => by
  obtain ⟨s, rfl, hlen, rfl⟩ := SWr_inv hs
  refine ⟨rfl, rfl, fun c => ?_⟩
  clear hs
  have hdl : decide (l.length ≤ 1000000000) = true := decide_eq_true hlen
  by_cases hR : rightG s = true
  rotate_left
  · have hR' : rightG s = false := by simpa using hR
    repeat' first
      | (exfalso; simp [cA_eqB, cA_notB, pEta, sEta, hR'] at g; done)
      | (((conv => whnf); refine bm (fun g => ?_) (fun g => ?_)))
    all_goals (conv => whnf)
    all_goals rw [wR_no (fun h => hR h.1)]
  obtain ⟨hra, hrb, hab⟩ := right_two hR
  have hws : wideS s = true := rightG_wide hR
  have ha := right_low hra
  have hb := right_low hrb
  by_cases hP : polyE l = 0
  rotate_left
  · repeat' first
      | (exfalso; simp [cA_eqB, cA_notB, cA_eq, pEta, sEta, hR, hP, hdl] at g; done)
      | (((conv => whnf); refine bm (fun g => ?_) (fun g => ?_)))
      | ((conv => whnf)
         refine Exists.intro l (And.intro (LsAt_own elP rfl) ?_))
    all_goals (conv => whnf)
    all_goals rw [wR_no (fun h => hP h.2.1)]
  have hgood := (polyE_ok hP).1
  have hgl := goodL_iff.2 hgood
  by_cases hA : whI l s.1 = 0
  · repeat' first
      | (exfalso; simp [cA_eqB, cA_notB, cA_eq, pEta, sEta, hR, hP, hA, hdl, hgl, hra] at g; done)
      | (((conv => whnf); refine bm (fun g => ?_) (fun g => ?_)))
      | ((conv => whnf)
         refine Exists.intro l (And.intro (LsAt_own elP rfl) ?_))
    all_goals (conv => whnf)
    all_goals rw [wR_no (fun h => h.2.2.1 hA)]
  by_cases hB : whI l s.2 = 0
  · repeat' first
      | (exfalso; simp [cA_eqB, cA_notB, cA_eq, pEta, sEta, hR, hP, hA, hB, hdl, hgl, hra, hrb] at g; done)
      | (((conv => whnf); refine bm (fun g => ?_) (fun g => ?_)))
      | ((conv => whnf)
         refine Exists.intro l (And.intro (LsAt_own elP rfl) ?_))
    all_goals (conv => whnf)
    all_goals rw [wR_no (fun h => h.2.2.2.1 hB)]
  repeat' first
    | (exfalso; simp [cA_eqB, cA_notB, cA_eq, pEta, sEta, hR, hP, hA, hB, hdl, hgl, hra, hrb] at g; done)
    | (((conv => whnf); refine bm (fun g => ?_) (fun g => ?_)))
    | ((conv => whnf)
       refine Exists.intro l (And.intro (LsAt_own elP rfl) ?_))
  all_goals (conv => whnf)
  refine ⟨fun n e h nx => ∃ (i : Nat) (j : Int), j = i ∧ i ≤ l.length ∧ n = l.length - i ∧ (∀ k, k < i → meetR s (edgeS l k) ≠ 3) ∧ e = eV0 l c j ∧ h = hV0 l s ∧ nx = 2, ⟨l.length, ?_⟩, ?_⟩
  · refine Into_id (e0 := eV0 l c 0) (h0 := hV0 l s) (n0 := 2) ⟨0, 0, rfl, Nat.zero_le _, rfl, fun k hk => absurd hk (Nat.not_lt_zero _), rfl, rfl, rfl⟩ ?_ ?_ (by decide)
    · unfold eV0
      ((repeat' (refine List.forall_mem_cons.2 ⟨⟨rfl, ?_⟩, ?_⟩; (first | exact scT_g rfl | exact ⟨by decide, rfl⟩ | exact ⟨by decide, fun h => (by cases h)⟩))); exact fun _ h => (by cases h))
    · unfold hV0
      ((repeat' (refine List.forall_mem_cons.2 ⟨⟨Nat.le_of_ble_eq_true rfl, _, rfl, ?_⟩, ?_⟩; (first | exact ObjRen_g (flat_g _ _) | exact ObjRen_j rfl rfl))); exact fun _ h => (by cases h))
  · rintro n e h nx ⟨i, j, hj, hi, rfl, hno, rfl, rfl, rfl⟩
    unfold eV0 hV0
    ((conv => whnf); refine bm (fun g1 => ?_) (fun g1 => ?_))
    · have hlt : i < l.length := by simp only [cA_lt, cA_num, decide_eq_true_eq] at g1; omega
      have hji : j.toNat = i := by omega
      have re := edge_right hgood hlt
      have hwe : wideS (edgeS l i) = true := rightG_wide re
      have hds : (decide (0 ≤ j) && decide (j < (l.length : Int)) && decide (l.length ≤ 1000000000)) = true := by
        rw [decide_eq_true (by omega), decide_eq_true (by omega), decide_eq_true (by omega)]; rfl
      (conv => whnf)
      refine ⟨l, LsAt_own elP rfl, ?_⟩
      ((conv => whnf); refine bm (fun g2 => ?_) (fun g2 => ?_))
      rotate_left
      · exfalso
        have hg : (decide (0 ≤ j) && decide (j < (l.length : Int)) && decide (l.length ≤ 1000000000)) = false := g2
        rw [hds] at hg
        cases hg
      clear g2 hds
      ((conv => whnf); refine bm (fun g3 => ?_) (fun g3 => ?_))
      rotate_left
      · exfalso
        have hg : (wideS s && wideS (edgeS l j.toNat)) = false := g3
        rw [hji, hwe, hws] at hg
        exact absurd hg (by decide)
      ((conv => whnf); refine bm (fun g4 => ?_) (fun g4 => ?_))
      · have hg : cfgS.A.eq (meetR s (edgeS l j.toNat)) 3 = true := g4
        rw [hji, cA_eq, decide_eq_true_eq] at hg
        (conv => whnf)
        rw [wR_no (fun h => h.2.2.2.2.1 i hlt hg)]
      · have hg : cfgS.A.eq (meetR s (edgeS l j.toNat)) 3 = false := g4
        rw [hji, cA_eq, decide_eq_false_iff_not] at hg
        repeat' first
          | (exfalso; simp only [oN_some, cA_mul, cA_add, cA_sub, cA_fits, cA_lt, cA_le, cA_andB, cA_num, fitsK, Bool.and_eq_false_iff, Bool.and_eq_true, decide_eq_true_eq, decide_eq_false_iff_not] at g; omega)
          | (((conv => whnf); refine bm (fun g => ?_) (fun g => ?_)))
        all_goals (conv => whnf)
        refine ⟨l.length - (i + 1), by omega, ?_⟩
        refine Into_id (e0 := eV0 l c (j + 1)) (h0 := hV0 l s) (n0 := 2) ⟨i + 1, j + 1, by omega, by omega, rfl, fun k hk => ?_, rfl, rfl, rfl⟩ ?_ ?_ (by decide)
        · by_cases hki : k = i
          · subst hki; exact hg
          · exact hno k (by omega)
        · unfold eV0
          ((repeat' (refine List.forall_mem_cons.2 ⟨⟨rfl, ?_⟩, ?_⟩; (first | exact scT_g rfl | exact ⟨by decide, rfl⟩ | exact ⟨by decide, fun h => (by cases h)⟩))); exact fun _ h => (by cases h))
        · unfold hV0
          ((repeat' (refine List.forall_mem_cons.2 ⟨⟨Nat.le_of_ble_eq_true rfl, _, rfl, ?_⟩, ?_⟩; (first | exact ObjRen_g (flat_g _ _) | exact ObjRen_j rfl rfl))); exact fun _ h => (by cases h))
    · have hge : i = l.length := by simp only [cA_lt, cA_num, decide_eq_false_iff_not] at g1; omega
      subst hge
      have hTl := stF_len l s l.length
      have hTB := fun k hk => stF_B (l := l) (s := s) hR (k := k) (n := l.length) hk
      have hW : ∀ i, i < (stF l s l.length).length → okR l s (at2 (stF l s l.length) i) (nxF (stF l s l.length) (at2 (stF l s l.length) i) (stF l s l.length).length) = false → wR l s = false := fun i hi h => wR_no fun hw => by
        rw [hw.2.2.2.2.2 i hi] at h
        cases h
      have hWy : (∀ i, i < (stF l s l.length).length → okR l s (at2 (stF l s l.length) i) (nxF (stF l s l.length) (at2 (stF l s l.length) i) (stF l s l.length).length) = true) → wR l s = true := fun h => wR_yes ⟨hR, hP, hA, hB, hno, h⟩
      have hcond : noXB l s = true := noXB_of hno
      (conv => whnf)
      refine Exists.intro l (And.intro (LsAt_own elP rfl) ?_)
      ((conv => whnf); refine bm (fun g2 => ?_) (fun g2 => ?_))
      rotate_left
      · exfalso
        have hg : (goodL l && rightG s && noXB l s) = false := g2
        rw [hgl, hR, hcond] at hg
        exact absurd hg (by decide)
      show outK elP (stF l s l.length) none _ _ _
      generalize stF l s l.length = T at hTl hTB hW hWy ⊢
      refine outK_own elP (by omega) ?_
      clear g1 g2 hcond hno
      (conv => whnf)
      refine ⟨fun n e h nx => ∃ (i : Nat) (j : Int), j = i ∧ i ≤ T.length ∧ n = T.length - i ∧ (∀ k, k < i → okR l s (at2 T k) (nxF T (at2 T k) T.length) = true) ∧ e = eV1 l T c j ∧ h = hV1 l T s ∧ nx = 3, ⟨T.length, ?_⟩, ?_⟩
      · refine Into_id (e0 := eV1 l T c 0) (h0 := hV1 l T s) (n0 := 3) ⟨0, 0, rfl, Nat.zero_le _, rfl, fun k hk => absurd hk (Nat.not_lt_zero _), rfl, rfl, rfl⟩ ?_ ?_ (by decide)
        · unfold eV1
          ((repeat' (refine List.forall_mem_cons.2 ⟨⟨rfl, ?_⟩, ?_⟩; (first | exact scT_g rfl | exact ⟨by decide, rfl⟩ | exact ⟨by decide, fun h => (by cases h)⟩))); exact fun _ h => (by cases h))
        · unfold hV1
          ((repeat' (refine List.forall_mem_cons.2 ⟨⟨Nat.le_of_ble_eq_true rfl, _, rfl, ?_⟩, ?_⟩; (first | exact ObjRen_g (flat_g _ _) | exact ObjRen_j rfl rfl))); exact fun _ h => (by cases h))
      · rintro n e h nx ⟨i, j, hj, hi, rfl, hok, rfl, rfl, rfl⟩
        unfold eV1 hV1
        ((conv => whnf); refine bm (fun g1 => ?_) (fun g1 => ?_))
        · have hlt : i < T.length := by simp only [cA_lt, cA_num, decide_eq_true_eq] at g1; omega
          have hWi := hW i hlt
          have hBi := hTB i hlt
          (conv => whnf)
          refine ⟨fun n e h nx => ∃ (k : Nat) (y : Int) (o : Option (Int × Int)), o = nxF T (at2 T i) k ∧ y = k ∧ k ≤ T.length ∧ n = T.length - k ∧ e = eV2 l T c j (oB o) y ∧ h = hV2 l T s (oN o) ∧ nx = 4, ⟨T.length, ?_⟩, ?_⟩
          · refine Into_id (e0 := eV2 l T c j false 0) (h0 := hV2 l T s (0, 0)) (n0 := 4) ⟨0, 0, none, (by unfold nxF; rfl), rfl, Nat.zero_le _, rfl, rfl, rfl, rfl⟩ ?_ ?_ (by decide)
            · unfold eV2
              ((repeat' (refine List.forall_mem_cons.2 ⟨⟨rfl, ?_⟩, ?_⟩; (first | exact scT_g rfl | exact ⟨by decide, rfl⟩ | exact ⟨by decide, fun h => (by cases h)⟩))); exact fun _ h => (by cases h))
            · unfold hV2
              ((repeat' (refine List.forall_mem_cons.2 ⟨⟨Nat.le_of_ble_eq_true rfl, _, rfl, ?_⟩, ?_⟩; (first | exact ObjRen_g (flat_g _ _) | exact ObjRen_j rfl rfl))); exact fun _ h => (by cases h))
          · rintro n e h nx ⟨k, y, o, ho, hy, hk, rfl, rfl, rfl, rfl⟩
            unfold eV2 hV2
            ((conv => whnf); refine bm (fun g2 => ?_) (fun g2 => ?_))
            · have hlk : k < T.length := by simp only [cA_lt, cA_num, decide_eq_true_eq] at g2; omega
              have hBk := hTB k hlk
              have m1 := mulB (a := (at2 T k).1) (b := (at2 T i).2) (A := 10000) (B := 10000) (by omega) (by omega) (by omega) (by omega)
              have m2 := mulB (a := (at2 T i).1) (b := (at2 T k).2) (A := 10000) (B := 10000) (by omega) (by omega) (by omega) (by omega)
              have hyes := nxF_yes ho
              have hnot := nxF_no ho
              cases o with
              | none =>
                repeat' first
                  | (exfalso; simp only [oN_some, cA_mul, cA_add, cA_sub, cA_fits, cA_lt, cA_le, cA_andB, cA_num, fitsK, Bool.and_eq_false_iff, Bool.and_eq_true, decide_eq_true_eq, decide_eq_false_iff_not] at g; omega)
                  | (((conv => whnf); refine bm (fun g => ?_) (fun g => ?_)))
                  | ((conv => whnf)
                     refine boV (pt_x' T hlk ?_) ?_
                     · simp [cfgS, std]; omega)
                  | ((conv => whnf)
                     refine boV (pt_y' T hlk ?_) ?_
                     · simp [cfgS, std]; omega)
                  | ((conv => whnf)
                     refine boV (pt_x' T hlt ?_) ?_
                     · simp [cfgS, std]; omega)
                  | ((conv => whnf)
                     refine boV (pt_y' T hlt ?_) ?_
                     · simp [cfgS, std]; omega)
                  | ((conv => whnf)
                     refine boL (getP T hlk ?_) ?_
                     · simp [cfgS, std]; omega)
                all_goals (conv => whnf)
                all_goals first
                  | (have hbh : behB (at2 T i) (at2 T k) = true := by
                       apply eqB_T
                       assumption
                     refine ⟨T.length - (k + 1), by omega, ?_⟩
                     refine Into_id (e0 := eV2 l T c j true (y + 1)) (h0 := hV2 l T s (at2 T k)) (n0 := 4) ⟨k + 1, y + 1, some (at2 T k), (hyes hbh rfl).symm, by omega, by omega, rfl, rfl, rfl, rfl⟩ ?_ ?_ (by decide)
                     · unfold eV2
                       ((repeat' (refine List.forall_mem_cons.2 ⟨⟨rfl, ?_⟩, ?_⟩; (first | exact scT_g rfl | exact ⟨by decide, rfl⟩ | exact ⟨by decide, fun h => (by cases h)⟩))); exact fun _ h => (by cases h))
                     · unfold hV2
                       ((repeat' (refine List.forall_mem_cons.2 ⟨⟨Nat.le_of_ble_eq_true rfl, _, rfl, ?_⟩, ?_⟩; (first | exact ObjRen_g (flat_g _ _) | exact ObjRen_j rfl rfl))); exact fun _ h => (by cases h)))
                  | (have hbh : behB (at2 T i) (at2 T k) = false := by
                       apply eqB_F
                       assumption
                     refine ⟨T.length - (k + 1), by omega, ?_⟩
                     refine Into_id (e0 := eV2 l T c j false (y + 1)) (h0 := hV2 l T s (0, 0)) (n0 := 4) ⟨k + 1, y + 1, none, (hnot (.inl hbh)).symm, by omega, by omega, rfl, rfl, rfl, rfl⟩ ?_ ?_ (by decide)
                     · unfold eV2
                       ((repeat' (refine List.forall_mem_cons.2 ⟨⟨rfl, ?_⟩, ?_⟩; (first | exact scT_g rfl | exact ⟨by decide, rfl⟩ | exact ⟨by decide, fun h => (by cases h)⟩))); exact fun _ h => (by cases h))
                     · unfold hV2
                       ((repeat' (refine List.forall_mem_cons.2 ⟨⟨Nat.le_of_ble_eq_true rfl, _, rfl, ?_⟩, ?_⟩; (first | exact ObjRen_g (flat_g _ _) | exact ObjRen_j rfl rfl))); exact fun _ h => (by cases h)))
                  | trace_state
              | some x =>
                obtain ⟨q, hq, hxq⟩ := nxF_in ho.symm
                have hxB := hTB q (by omega)
                rw [← hxq] at hxB
                have m3 := mulB (a := (at2 T k).1) (b := x.2) (A := 10000) (B := 10000) (by omega) (by omega) (by omega) (by omega)
                have m4 := mulB (a := x.1) (b := (at2 T k).2) (A := 10000) (B := 10000) (by omega) (by omega) (by omega) (by omega)
                repeat' first
                  | (exfalso; simp only [oN_some, cA_mul, cA_add, cA_sub, cA_fits, cA_lt, cA_le, cA_andB, cA_num, fitsK, Bool.and_eq_false_iff, Bool.and_eq_true, decide_eq_true_eq, decide_eq_false_iff_not] at g; omega)
                  | (((conv => whnf); refine bm (fun g => ?_) (fun g => ?_)))
                  | ((conv => whnf)
                     refine boV (pt_x' T hlk ?_) ?_
                     · simp [cfgS, std]; omega)
                  | ((conv => whnf)
                     refine boV (pt_y' T hlk ?_) ?_
                     · simp [cfgS, std]; omega)
                  | ((conv => whnf)
                     refine boV (pt_x' T hlt ?_) ?_
                     · simp [cfgS, std]; omega)
                  | ((conv => whnf)
                     refine boV (pt_y' T hlt ?_) ?_
                     · simp [cfgS, std]; omega)
                  | ((conv => whnf)
                     refine boL (getP T hlk ?_) ?_
                     · simp [cfgS, std]; omega)
                all_goals (conv => whnf)
                all_goals first
                  | (have hbh : behB (at2 T i) (at2 T k) = true := by
                       apply eqB_T
                       assumption
                     have hnr : nearB (some x) (at2 T k) = true := by assumption
                     refine ⟨T.length - (k + 1), by omega, ?_⟩
                     refine Into_id (e0 := eV2 l T c j true (y + 1)) (h0 := hV2 l T s (at2 T k)) (n0 := 4) ⟨k + 1, y + 1, some (at2 T k), (hyes hbh hnr).symm, by omega, by omega, rfl, rfl, rfl, rfl⟩ ?_ ?_ (by decide)
                     · unfold eV2
                       ((repeat' (refine List.forall_mem_cons.2 ⟨⟨rfl, ?_⟩, ?_⟩; (first | exact scT_g rfl | exact ⟨by decide, rfl⟩ | exact ⟨by decide, fun h => (by cases h)⟩))); exact fun _ h => (by cases h))
                     · unfold hV2
                       ((repeat' (refine List.forall_mem_cons.2 ⟨⟨Nat.le_of_ble_eq_true rfl, _, rfl, ?_⟩, ?_⟩; (first | exact ObjRen_g (flat_g _ _) | exact ObjRen_j rfl rfl))); exact fun _ h => (by cases h)))
                  | (have hbh : behB (at2 T i) (at2 T k) = false ∨ nearB (some x) (at2 T k) = false := by
                       first
                         | (right; assumption)
                         | (left; apply eqB_F; assumption)
                     refine ⟨T.length - (k + 1), by omega, ?_⟩
                     refine Into_id (e0 := eV2 l T c j true (y + 1)) (h0 := hV2 l T s x) (n0 := 4) ⟨k + 1, y + 1, some x, (hnot hbh).symm, by omega, by omega, rfl, rfl, rfl, rfl⟩ ?_ ?_ (by decide)
                     · unfold eV2
                       ((repeat' (refine List.forall_mem_cons.2 ⟨⟨rfl, ?_⟩, ?_⟩; (first | exact scT_g rfl | exact ⟨by decide, rfl⟩ | exact ⟨by decide, fun h => (by cases h)⟩))); exact fun _ h => (by cases h))
                     · unfold hV2
                       ((repeat' (refine List.forall_mem_cons.2 ⟨⟨Nat.le_of_ble_eq_true rfl, _, rfl, ?_⟩, ?_⟩; (first | exact ObjRen_g (flat_g _ _) | exact ObjRen_j rfl rfl))); exact fun _ h => (by cases h)))
                  | trace_state
            · have hge : k = T.length := by simp only [cA_lt, cA_num, decide_eq_false_iff_not] at g2; omega
              subst hge
              cases o with
              | none =>
                have hk0 : okR l s (at2 T i) (nxF T (at2 T i) T.length) = true := by rw [← ho]; rfl
                repeat' first
                  | (exfalso; simp only [oN_some, cA_mul, cA_add, cA_sub, cA_fits, cA_lt, cA_le, cA_andB, cA_num, fitsK, Bool.and_eq_false_iff, Bool.and_eq_true, decide_eq_true_eq, decide_eq_false_iff_not] at g; omega)
                  | (((conv => whnf); refine bm (fun g => ?_) (fun g => ?_)))
                all_goals (conv => whnf)
                refine ⟨T.length - (i + 1), by omega, ?_⟩
                refine Into_id (e0 := eV1 l T c (j + 1)) (h0 := hV1 l T s) (n0 := 3) ⟨i + 1, j + 1, by omega, by omega, rfl, fun k hk => ?_, rfl, rfl, rfl⟩ ?_ ?_ (by decide)
                · by_cases hki : k = i
                  · subst hki; exact hk0
                  · exact hok k (by omega)
                · unfold eV1
                  ((repeat' (refine List.forall_mem_cons.2 ⟨⟨rfl, ?_⟩, ?_⟩; (first | exact scT_g rfl | exact ⟨by decide, rfl⟩ | exact ⟨by decide, fun h => (by cases h)⟩))); exact fun _ h => (by cases h))
                · unfold hV1
                  ((repeat' (refine List.forall_mem_cons.2 ⟨⟨Nat.le_of_ble_eq_true rfl, _, rfl, ?_⟩, ?_⟩; (first | exact ObjRen_g (flat_g _ _) | exact ObjRen_j rfl rfl))); exact fun _ h => (by cases h))
              | some x =>
                obtain ⟨q, hq, hxq⟩ := nxF_in ho.symm
                have hxB := hTB q (by omega)
                rw [← hxq] at hxB
                have hk0 : okR l s (at2 T i) (nxF T (at2 T i) T.length) = midV l s ((at2 T i).1 * x.2 + x.1 * (at2 T i).2) (2 * (at2 T i).2 * x.2) := by rw [← ho]; rfl
                rw [hk0] at hWi
                have m1 := mulB (a := (at2 T i).1) (b := x.2) (A := 10000) (B := 10000) (by omega) (by omega) (by omega) (by omega)
                have m2 := mulB (a := x.1) (b := (at2 T i).2) (A := 10000) (B := 10000) (by omega) (by omega) (by omega) (by omega)
                have m3 := mulB (a := 2 * (at2 T i).2) (b := x.2) (A := 20000) (B := 10000) (by omega) (by omega) (by omega) (by omega)
                have p1 := Int.mul_nonneg (show 0 ≤ (at2 T i).1 by omega) (show 0 ≤ x.2 by omega)
                have p2 := Int.mul_nonneg (show 0 ≤ x.1 by omega) (show 0 ≤ (at2 T i).2 by omega)
                have p3 := Int.mul_pos (show 0 < 2 * (at2 T i).2 by omega) (show 0 < x.2 by omega)
                repeat' first
                  | (exfalso; simp only [oN_some, cA_mul, cA_add, cA_sub, cA_fits, cA_lt, cA_le, cA_andB, cA_num, fitsK, Bool.and_eq_false_iff, Bool.and_eq_true, decide_eq_true_eq, decide_eq_false_iff_not] at g; omega)
                  | (((conv => whnf); refine bm (fun g => ?_) (fun g => ?_)))
                  | ((conv => whnf)
                     refine boV (pt_x' T hlt ?_) ?_
                     · simp [cfgS, std]; omega)
                  | ((conv => whnf)
                     refine boV (pt_y' T hlt ?_) ?_
                     · simp [cfgS, std]; omega)
                  | ((conv => whnf)
                     refine Exists.intro l (And.intro (LsAt_own elP rfl) ?_))
                all_goals (conv => whnf)
                all_goals first
                  | (exfalso
                     have hg : (goodL l && rightG s && decide (0 ≤ (at2 T i).1 * x.2 + x.1 * (at2 T i).2) && decide ((at2 T i).1 * x.2 + x.1 * (at2 T i).2 ≤ 200000000) && decide (0 < 2 * (at2 T i).2 * x.2) && decide (2 * (at2 T i).2 * x.2 ≤ 200000000)) = false := g
                     rw [hgl, hR, decide_eq_true (by omega), decide_eq_true (by omega), decide_eq_true (by omega), decide_eq_true (by omega)] at hg
                     exact absurd hg (by decide))
                  | (have hg : midV l s ((at2 T i).1 * x.2 + x.1 * (at2 T i).2) (2 * (at2 T i).2 * x.2) = false := by
                       apply notB_T
                       assumption
                     rw [hWi hg]
                     done)
                  | (have hg : midV l s ((at2 T i).1 * x.2 + x.1 * (at2 T i).2) (2 * (at2 T i).2 * x.2) = true := by
                       apply notB_F
                       assumption
                     refine ⟨T.length - (i + 1), by omega, ?_⟩
                     refine Into_id (e0 := eV1 l T c (j + 1)) (h0 := hV1 l T s) (n0 := 3) ⟨i + 1, j + 1, by omega, by omega, rfl, fun k hk => ?_, rfl, rfl, rfl⟩ ?_ ?_ (by decide)
                     · by_cases hki : k = i
                       · subst hki; rw [hk0]; exact hg
                       · exact hok k (by omega)
                     · unfold eV1
                       ((repeat' (refine List.forall_mem_cons.2 ⟨⟨rfl, ?_⟩, ?_⟩; (first | exact scT_g rfl | exact ⟨by decide, rfl⟩ | exact ⟨by decide, fun h => (by cases h)⟩))); exact fun _ h => (by cases h))
                     · unfold hV1
                       ((repeat' (refine List.forall_mem_cons.2 ⟨⟨Nat.le_of_ble_eq_true rfl, _, rfl, ?_⟩, ?_⟩; (first | exact ObjRen_g (flat_g _ _) | exact ObjRen_j rfl rfl))); exact fun _ h => (by cases h)))
                  | trace_state
        · have hge : i = T.length := by simp only [cA_lt, cA_num, decide_eq_false_iff_not] at g1; omega
          subst hge
          (conv => whnf)
          rw [hWy hok]
end Go.Aw
