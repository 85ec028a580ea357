/-
  Normal and Convex: the program's; Convex: the reference's. No condition.
-/
import Derived.Test.YtmkcjbpekejgdaaGreatSeJ
import Derived.Test.YtmkcjbpekejgdaaGreatSe71
import Derived.Test.YtmkcjbpekejgdaaGreatSeH
set_option linter.unusedSimpArgs false
set_option linter.unusedVariables false
noncomputable section
namespace Go.Aw
set_option maxRecDepth 100000
theorem outK_own {α : Type} (E : El α) {l : List α} {e : Option Int} {h : Heap} {nx : Nat} {K : KE} (hl : 0 < l.length) (hk : K (wrapV e (.slice (some ⟨nx, 0, none⟩) l.length l.length)) (app h [(nx, .cells true false E.sz (flat E.fl l))]) (nx + 1)) : outK E l e h nx K := by
  cases l with
  | nil => cases hl
  | cons a r => exact hk
theorem norR_right {l : List (Int × Int)} (h : goodP l) : (norR l).all rightS = true := by
  refine List.all_eq_true.2 fun p hp => ?_
  have h3 := h.1
  obtain ⟨j, _, rfl⟩ := segI_mem hp
  have hr : (dirI l).all rightS = true := by
    unfold dirI
    split
    · rw [List.all_reverse]; exact h.2.2.1
    · exact h.2.2.1
  exact all_at hr (Nat.mod_lt _ (by rw [dirI_len]; omega))
theorem norR_len (l : List (Int × Int)) : (norR l).length ≤ l.length := segI_len _ _ _
theorem norR_pos {l : List (Int × Int)} (h : goodP l) (hs : simpleP l) : 0 < (norR l).length := by
  rw [← norI_eq h hs]
  have h0 := raw_pos h hs
  have hd : (dirI (rawI l l.length)).length = (rawI l l.length).length := dirI_len _
  unfold norI topI
  have hjm := idxP_mem (p := minI (dirI (rawI l l.length)) ((dirI (rawI l l.length)).length - 1)) (l := dirI (rawI l l.length)) 0 (minI_mem _ _ (by omega))
  rw [turnI_len _ _ (by omega)]
  omega
def S49 := S50
def X49 : Nat × XF := (22, rfX elP elP S50)
attribute [local irreducible] norI norO polyE norR in
theorem x49 : XOK Go.Proofs.Tryz.prog X49.1 X49.2 := rfX_ok elP elP (s := S50) (f := 22) (body_calls (xl := [X32, X85]) (.cons x32 (.cons x85 .nil))) fun l r out e hs => by
  obtain ⟨rfl, hlen, rfl, rfl⟩ := S50_inv hs
  refine ⟨rfl, fun c => ?_⟩
  clear hs
  (conv => whnf)
  refine ⟨l, LsAt_own elP rfl, ?_⟩
  ((conv => whnf); refine bm (fun h1 => ?_) (fun h1 => ?_))
  · ((conv => whnf); refine bm (fun h2 => ?_) (fun h2 => ?_))
    · (conv => whnf)
      have hne : ¬ polyE l = 0 := by simpa only [cA_eq, cA_notB, Bool.not_eq_true', decide_eq_false_iff_not] using h2
      rw [show norO l = [] by unfold norO; rw [if_neg hne]]
      rfl
    · have he : polyE l = 0 := by simpa only [cA_eq, cA_notB, Bool.not_eq_false', decide_eq_true_eq] using h2
      obtain ⟨hg, hsim⟩ := polyE_ok he
      rw [show norO l = norR l by unfold norO; rw [if_pos he], he]
      have hpos := norR_pos hg hsim
      have hrp := raw_pos hg hsim
      (conv => whnf)
      refine ⟨l, LsAt_own elP rfl, ?_⟩
      ((conv => whnf); refine bm (fun h3 => ?_) (fun h3 => ?_))
      · rw [show norI l = norR l from norI_eq hg hsim]
        generalize norR l = N at hpos ⊢
        refine outK_own elP hpos ?_
        (conv => whnf)
        refine Yields_own (l := N) (e := some 0) (q := 1) (nx := 0) elP hpos ?_
        rfl
      · exfalso
        have hg3 : (goodL l && decide (0 < (rawI l l.length).length)) = false := h3
        rw [goodL_iff.2 hg, decide_eq_true hrp] at hg3
        cases hg3
  · exfalso
    have hg : decide (l.length ≤ 1000000000) = false := h1
    rw [decide_eq_false_iff_not] at hg
    omega
/-! ### Convex -/
def bendP (N : List (Int × Int)) (i : Nat) : Prop := 0 < turnS (cyc N i) (cyc N (i + 1)) (cyc N (i + 2))
open Classical in
def convB (l : List (Int × Int)) : Bool := decide (polyE l = 0 ∧ ∀ i, i < (norR l).length → bendP (norR l) i)
theorem convB_bad {l : List (Int × Int)} (h : ¬ polyE l = 0) : convB l = false := by simp [convB, h]
theorem convB_no {l : List (Int × Int)} {i : Nat} (hi : i < (norR l).length) (h : ¬ bendP (norR l) i) : convB l = false := by
  have hn : ¬ (polyE l = 0 ∧ ∀ i, i < (norR l).length → bendP (norR l) i) := fun h' => h (h'.2 i hi)
  simp only [convB, hn, decide_false]
theorem convB_yes {l : List (Int × Int)} (h0 : polyE l = 0) (h : ∀ i, i < (norR l).length → bendP (norR l) i) : convB l = true := by
  have hn : polyE l = 0 ∧ ∀ i, i < (norR l).length → bendP (norR l) i := ⟨h0, h⟩
  simp only [convB, decide_eq_true_eq]
  exact hn
def SConv (l : List (Int × Int)) : List Value → Option (Bool × Value)
  | [] => some (decide (l.length ≤ 1000000000), .bool (convB l))
  | _ => none
theorem SConv_inv {l : List (Int × Int)} {r : List Value} {v : Value} (hs : SConv l r = some (true, v)) : r = [] ∧ l.length ≤ 1000000000 ∧ v = .bool (convB l) := by
  unfold SConv at hs
  split at hs
  · injection hs with hs; injection hs with h1 h2; exact ⟨rfl, by simpa using h1, h2.symm⟩
  · cases hs
def h36 (l N : List (Int × Int)) : Heap := [(0, .cells false true 2 (flat elP.fl l)), (1, .cells true false 2 (flat elP.fl N))]
def e36 (n : Nat) (j : Int) : List (Nat × Value) := [(3, .slice (some ⟨1, 0, none⟩) n n), (11, iv n), (12, iv j)]
def e37 (n : Nat) (j : Int) : List (Nat × Value) := [(3, .slice (some ⟨1, 0, none⟩) n n), (5, iv n), (6, iv j)]
def X36 : Nat × XF := (20, lX elP SConv)
attribute [local irreducible] norI norO polyE norR turnS convB bendP in
theorem x36 : XOK Go.Proofs.Tryz.prog X36.1 X36.2 := lX_ok elP (body_calls (xl := [X32, X85, X55]) (.cons x32 (.cons x85 (.cons x55 .nil)))) fun l r v hs => by
  obtain ⟨rfl, hlen, rfl⟩ := SConv_inv hs
  refine ⟨rfl, rfl, fun c => ?_⟩
  clear hs
  (conv => whnf)
  refine ⟨l, LsAt_own elP rfl, ?_⟩
  ((conv => whnf); refine bm (fun h1 => ?_) (fun h1 => ?_))
  · ((conv => whnf); refine bm (fun h2 => ?_) (fun h2 => ?_))
    · (conv => whnf)
      have hne : ¬ polyE l = 0 := by simpa only [cA_eq, cA_notB, Bool.not_eq_true', decide_eq_false_iff_not] using h2
      rw [convB_bad hne]
    · have he : polyE l = 0 := by simpa only [cA_eq, cA_notB, Bool.not_eq_false', decide_eq_true_eq] using h2
      obtain ⟨hg, hsim⟩ := polyE_ok he
      have hpos := norR_pos hg hsim
      have hrp := raw_pos hg hsim
      have hNr := norR_right hg
      have hNl : (norR l).length ≤ 200 := Nat.le_trans (norR_len l) hg.2.1
      have hno : ∀ i, i < (norR l).length → ¬ bendP (norR l) i → convB l = false := fun i => convB_no
      have hyes : (∀ i, i < (norR l).length → bendP (norR l) i) → convB l = true := convB_yes he
      (conv => whnf)
      refine ⟨l, LsAt_own elP rfl, ?_⟩
      ((conv => whnf); refine bm (fun h3 => ?_) (fun h3 => ?_))
      · rw [show norI l = norR l from norI_eq hg hsim]
        generalize norR l = N at hpos hNr hNl hno hyes ⊢
        refine outK_own elP hpos ?_
        (conv => whnf)
        refine ⟨fun n e h nx => ∃ (i : Nat) (j : Int), j = i ∧ i ≤ N.length ∧ n = N.length - i ∧ (∀ k, k < i → bendP N k) ∧ e = e36 N.length j ∧ h = h36 l N ∧ nx = 2, ⟨N.length, ?_⟩, ?_⟩
        · refine Into_id (e0 := e36 N.length 0) (h0 := h36 l N) (n0 := 2) ⟨0, 0, rfl, Nat.zero_le _, rfl, (fun k hk => by omega), rfl, rfl, rfl⟩ ?_ ?_ (by decide)
          · unfold e36
            ((repeat' (refine List.forall_mem_cons.2 ⟨⟨rfl, ?_⟩, ?_⟩; (first | exact scT_g rfl | exact ⟨by decide, rfl⟩ | exact ⟨by decide, fun h => (by cases h)⟩))); exact fun _ h => (by cases h))
          · unfold h36
            ((repeat' (refine List.forall_mem_cons.2 ⟨⟨Nat.le_of_ble_eq_true rfl, _, rfl, ?_⟩, ?_⟩; (first | exact ObjRen_g (flat_g _ _) | exact ObjRen_j rfl rfl))); exact fun _ h => (by cases h))
        · rintro n e h nx ⟨i, j, hj, hi, rfl, hall, rfl, rfl, rfl⟩
          unfold e36 h36
          ((conv => whnf); refine bm (fun g1 => ?_) (fun g1 => ?_))
          · have hlt : i < N.length := by simp only [cA_lt, cA_num, decide_eq_true_eq] at g1; omega
            have hn1 : (i + 1) % N.length < N.length := Nat.mod_lt _ (by omega)
            have hn2 : (i + 2) % N.length < N.length := Nat.mod_lt _ (by omega)
            have t1 : (j + 1).tmod (N.length : Int) = ((i + 1) % N.length : Nat) := by rw [hj]; exact (Int.ofNat_tmod _ _).symm
            have t2 : (j + 2).tmod (N.length : Int) = ((i + 2) % N.length : Nat) := by rw [hj]; exact (Int.ofNat_tmod _ _).symm
            have w1 := rightS_wide (all_at hNr hlt)
            have w2 := rightS_wide (all_at hNr hn1)
            have w3 := rightS_wide (all_at hNr hn2)
            repeat' first
              | (((conv => whnf); refine bm (fun g => ?_) (fun g => ?_)))
              | ((conv => whnf)
                 refine boL (getP N hlt ?_) ?_
                 · simp [cfgS, std]; omega)
              | ((conv => whnf)
                 refine boL (getP N hn1 ?_) ?_
                 · show 0 + ((j + 1).tmod (N.length : Int)).toNat * 2 = _
                   rw [t1, Int.toNat_natCast, Nat.zero_add])
              | ((conv => whnf)
                 refine boL (getP N hn2 ?_) ?_
                 · show 0 + ((j + 2).tmod (N.length : Int)).toNat * 2 = _
                   rw [t2, Int.toNat_natCast, Nat.zero_add])
            all_goals (conv => whnf)
            all_goals first
              | (exfalso
                 simp only [cA_add, cA_sub, cA_fits, cA_lt, cA_le, cA_eq, cA_notB, cA_andB, cA_num, fitsK, Bool.and_eq_false_iff, Bool.not_eq_false', decide_eq_true_eq, decide_eq_false_iff_not] at g
                 omega)
              | (exfalso
                 simp only [cA_rem, cA_add, cA_sub, cA_lt, cA_le, cA_andB, cA_num, Bool.and_eq_false_iff, decide_eq_false_iff_not] at g
                 rw [t1] at g
                 omega)
              | (exfalso
                 simp only [cA_rem, cA_add, cA_sub, cA_lt, cA_le, cA_andB, cA_num, Bool.and_eq_false_iff, decide_eq_false_iff_not] at g
                 rw [t2] at g
                 omega)
              | (exfalso
                 have hg : (wide (at2 N i) && wide (at2 N ((i + 1) % N.length)) && wide (at2 N ((i + 2) % N.length))) = false := g
                 rw [w1, w2, w3] at hg
                 cases hg)
              | (have hb : ¬ 0 < turnS (at2 N i) (at2 N ((i + 1) % N.length)) (at2 N ((i + 2) % N.length)) := by
                   have hg : decide (turnS (at2 N i) (at2 N ((i + 1) % N.length)) (at2 N ((i + 2) % N.length)) ≤ 0) = true := g
                   rw [decide_eq_true_eq] at hg
                   omega
                 rw [hno i hlt (by unfold bendP; rw [cyc_lt hlt]; exact hb)])
              | (rename_i gk
                 have hb : 0 < turnS (at2 N i) (at2 N ((i + 1) % N.length)) (at2 N ((i + 2) % N.length)) := by
                   have hg : decide (turnS (at2 N i) (at2 N ((i + 1) % N.length)) (at2 N ((i + 2) % N.length)) ≤ 0) = false := gk
                   rw [decide_eq_false_iff_not] at hg
                   omega
                 refine ⟨N.length - (i + 1), by omega, ?_⟩
                 refine Into_id (e0 := e36 N.length (j + 1)) (h0 := h36 l N) (n0 := 2) ⟨i + 1, j + 1, by omega, by omega, rfl, ?_, rfl, rfl, rfl⟩ ?_ ?_ (by decide)
                 · intro k hk
                   by_cases hki : k = i
                   · rw [hki]
                     unfold bendP
                     rw [cyc_lt hlt]
                     exact hb
                   · exact hall k (by omega)
                 · unfold e36
                   ((repeat' (refine List.forall_mem_cons.2 ⟨⟨rfl, ?_⟩, ?_⟩; (first | exact scT_g rfl | exact ⟨by decide, rfl⟩ | exact ⟨by decide, fun h => (by cases h)⟩))); exact fun _ h => (by cases h))
                 · unfold h36
                   ((repeat' (refine List.forall_mem_cons.2 ⟨⟨Nat.le_of_ble_eq_true rfl, _, rfl, ?_⟩, ?_⟩; (first | exact ObjRen_g (flat_g _ _) | exact ObjRen_j rfl rfl))); exact fun _ h => (by cases h)))
              | trace_state
          · have hge : i = N.length := by simp only [cA_lt, cA_num, decide_eq_false_iff_not] at g1; omega
            subst hge
            (conv => whnf)
            rw [hyes hall]
      · exfalso
        have hg3 : (goodL l && decide (0 < (rawI l l.length).length)) = false := h3
        rw [goodL_iff.2 hg, decide_eq_true hrp] at hg3
        cases hg3
  · exfalso
    have hg : decide (l.length ≤ 1000000000) = false := h1
    rw [decide_eq_false_iff_not] at hg
    omega
def X37 : Nat × XF := (21, lX elP SConv)
attribute [local irreducible] norI norO polyE norR turnS convB bendP in
theorem x37 : XOK Go.Proofs.Tryz.prog X37.1 X37.2 := lX_ok elP (body_calls (xl := [X50, X57]) (.cons x50 (.cons x57 .nil))) fun l r v hs => by
  obtain ⟨rfl, hlen, rfl⟩ := SConv_inv hs
  refine ⟨rfl, rfl, fun c => ?_⟩
  clear hs
  (conv => whnf)
  refine ⟨l, LsAt_own elP rfl, ?_⟩
  ((conv => whnf); refine bm (fun h1 => ?_) (fun h1 => ?_))
  · by_cases he : polyE l = 0
    · obtain ⟨hg, hsim⟩ := polyE_ok he
      have hpos := norR_pos hg hsim
      have hrp := raw_pos hg hsim
      have hNr := norR_right hg
      have hNl : (norR l).length ≤ 200 := Nat.le_trans (norR_len l) hg.2.1
      have hno : ∀ i, i < (norR l).length → ¬ bendP (norR l) i → convB l = false := fun i => convB_no
      have hyes : (∀ i, i < (norR l).length → bendP (norR l) i) → convB l = true := convB_yes he
      rw [show norO l = norR l by unfold norO; rw [if_pos he], he]
      generalize norR l = N at hpos hNr hNl hno hyes ⊢
      refine outK_own elP hpos ?_
      (conv => whnf)
      refine ⟨fun n e h nx => ∃ (i : Nat) (j : Int), j = i ∧ i ≤ N.length ∧ n = N.length - i ∧ (∀ k, k < i → bendP N k) ∧ e = e37 N.length j ∧ h = h36 l N ∧ nx = 2, ⟨N.length, ?_⟩, ?_⟩
      · refine Into_id (e0 := e37 N.length 0) (h0 := h36 l N) (n0 := 2) ⟨0, 0, rfl, Nat.zero_le _, rfl, (fun k hk => by omega), rfl, rfl, rfl⟩ ?_ ?_ (by decide)
        · unfold e37
          ((repeat' (refine List.forall_mem_cons.2 ⟨⟨rfl, ?_⟩, ?_⟩; (first | exact scT_g rfl | exact ⟨by decide, rfl⟩ | exact ⟨by decide, fun h => (by cases h)⟩))); exact fun _ h => (by cases h))
        · unfold h36
          ((repeat' (refine List.forall_mem_cons.2 ⟨⟨Nat.le_of_ble_eq_true rfl, _, rfl, ?_⟩, ?_⟩; (first | exact ObjRen_g (flat_g _ _) | exact ObjRen_j rfl rfl))); exact fun _ h => (by cases h))
      · rintro n e h nx ⟨i, j, hj, hi, rfl, hall, rfl, rfl, rfl⟩
        unfold e37 h36
        ((conv => whnf); refine bm (fun g1 => ?_) (fun g1 => ?_))
        · have hlt : i < N.length := by simp only [cA_lt, cA_num, decide_eq_true_eq] at g1; omega
          have hn1 : (i + 1) % N.length < N.length := Nat.mod_lt _ (by omega)
          have hn2 : (i + 2) % N.length < N.length := Nat.mod_lt _ (by omega)
          have t1 : (j + 1).tmod (N.length : Int) = ((i + 1) % N.length : Nat) := by rw [hj]; exact (Int.ofNat_tmod _ _).symm
          have t2 : (j + 2).tmod (N.length : Int) = ((i + 2) % N.length : Nat) := by rw [hj]; exact (Int.ofNat_tmod _ _).symm
          have w1 := rightS_wide (all_at hNr hlt)
          have w2 := rightS_wide (all_at hNr hn1)
          have w3 := rightS_wide (all_at hNr hn2)
          repeat' first
            | (((conv => whnf); refine bm (fun g => ?_) (fun g => ?_)))
            | ((conv => whnf)
               refine boL (getP N hlt ?_) ?_
               · simp [cfgS, std]; omega)
            | ((conv => whnf)
               refine boL (getP N hn1 ?_) ?_
               · show 0 + ((j + 1).tmod (N.length : Int)).toNat * 2 = _
                 rw [t1, Int.toNat_natCast, Nat.zero_add])
            | ((conv => whnf)
               refine boL (getP N hn2 ?_) ?_
               · show 0 + ((j + 2).tmod (N.length : Int)).toNat * 2 = _
                 rw [t2, Int.toNat_natCast, Nat.zero_add])
          all_goals (conv => whnf)
          all_goals first
            | (exfalso
               simp only [cA_add, cA_sub, cA_fits, cA_lt, cA_le, cA_eq, cA_notB, cA_andB, cA_num, fitsK, Bool.and_eq_false_iff, Bool.not_eq_false', decide_eq_true_eq, decide_eq_false_iff_not] at g
               omega)
            | (exfalso
               simp only [cA_rem, cA_add, cA_sub, cA_lt, cA_le, cA_andB, cA_num, Bool.and_eq_false_iff, decide_eq_false_iff_not] at g
               rw [t1] at g
               omega)
            | (exfalso
               simp only [cA_rem, cA_add, cA_sub, cA_lt, cA_le, cA_andB, cA_num, Bool.and_eq_false_iff, decide_eq_false_iff_not] at g
               rw [t2] at g
               omega)
            | (exfalso
               have hg : (wide (at2 N i) && wide (at2 N ((i + 1) % N.length)) && wide (at2 N ((i + 2) % N.length))) = false := g
               rw [w1, w2, w3] at hg
               cases hg)
            | (have hb : ¬ 0 < turnS (at2 N i) (at2 N ((i + 1) % N.length)) (at2 N ((i + 2) % N.length)) := by
                 have hg : decide (turnS (at2 N i) (at2 N ((i + 1) % N.length)) (at2 N ((i + 2) % N.length)) ≤ 0) = true := g
                 rw [decide_eq_true_eq] at hg
                 omega
               rw [hno i hlt (by unfold bendP; rw [cyc_lt hlt]; exact hb)])
            | (rename_i gk
               have hb : 0 < turnS (at2 N i) (at2 N ((i + 1) % N.length)) (at2 N ((i + 2) % N.length)) := by
                 have hg : decide (turnS (at2 N i) (at2 N ((i + 1) % N.length)) (at2 N ((i + 2) % N.length)) ≤ 0) = false := gk
                 rw [decide_eq_false_iff_not] at hg
                 omega
               refine ⟨N.length - (i + 1), by omega, ?_⟩
               refine Into_id (e0 := e37 N.length (j + 1)) (h0 := h36 l N) (n0 := 2) ⟨i + 1, j + 1, by omega, by omega, rfl, ?_, rfl, rfl, rfl⟩ ?_ ?_ (by decide)
               · intro k hk
                 by_cases hki : k = i
                 · rw [hki]
                   unfold bendP
                   rw [cyc_lt hlt]
                   exact hb
                 · exact hall k (by omega)
               · unfold e37
                 ((repeat' (refine List.forall_mem_cons.2 ⟨⟨rfl, ?_⟩, ?_⟩; (first | exact scT_g rfl | exact ⟨by decide, rfl⟩ | exact ⟨by decide, fun h => (by cases h)⟩))); exact fun _ h => (by cases h))
               · unfold h36
                 ((repeat' (refine List.forall_mem_cons.2 ⟨⟨Nat.le_of_ble_eq_true rfl, _, rfl, ?_⟩, ?_⟩; (first | exact ObjRen_g (flat_g _ _) | exact ObjRen_j rfl rfl))); exact fun _ h => (by cases h)))
            | trace_state
        · have hge : i = N.length := by simp only [cA_lt, cA_num, decide_eq_false_iff_not] at g1; omega
          subst hge
          (conv => whnf)
          rw [hyes hall]
    · rw [show norO l = [] by unfold norO; rw [if_neg he], convB_bad he]
      ((conv => whnf); refine bm (fun h2 => ?_) (fun h2 => ?_))
      · (conv => whnf)
      · exfalso
        have hg : (!decide (polyE l = 0)) = false := h2
        rw [decide_eq_false he] at hg
        cases hg
  · exfalso
    have hg : decide (l.length ≤ 1000000000) = false := h1
    rw [decide_eq_false_iff_not] at hg
    omega
end Go.Aw
