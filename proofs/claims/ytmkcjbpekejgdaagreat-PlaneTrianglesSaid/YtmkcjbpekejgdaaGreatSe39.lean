/-
  CheckPoly: the program's. No condition.
-/
import Derived.Test.YtmkcjbpekejgdaaGreatSe38
set_option linter.unusedSimpArgs false
set_option linter.unusedVariables false
noncomputable section
namespace Go.Aw
set_option maxRecDepth 100000
def mapE (l : List (Int × Int)) : List (Value × Value) := l.map fun p => (ptv p, .bool true)
theorem veq_pt (p q : Int × Int) : veq cfgS.A cfgS.T 100 32 (ptv p) (ptv q) = some (eqP p q) := rfl
theorem vfind_no {p : Int × Int} {l : List (Int × Int)} (h : p ∉ l) : vfind cfgS.A cfgS.T 32 (ptv p) (mapE l) = some none := by
  induction l with
  | nil => rfl
  | cons q r ih =>
    simp only [List.mem_cons, not_or] at h
    show (match veq cfgS.A cfgS.T 100 32 (ptv p) (ptv q) with | none => none | some true => _ | some false => _) = _
    rw [veq_pt, (eqP_f p q).2 h.1]
    exact ih h.2
theorem vfind_yes {p : Int × Int} {l : List (Int × Int)} (h : p ∈ l) : vfind cfgS.A cfgS.T 32 (ptv p) (mapE l) = some (some (.bool true)) := by
  induction l with
  | nil => cases h
  | cons q r ih =>
    show (match veq cfgS.A cfgS.T 100 32 (ptv p) (ptv q) with | none => none | some true => _ | some false => _) = _
    rw [veq_pt]
    by_cases hq : p = q
    · rw [(eqP_iff p q).2 hq]
    · rw [(eqP_f p q).2 hq]
      simp only [List.mem_cons] at h
      exact ih (h.resolve_left hq)
theorem ObjRen_map {ρ : Nat → Nat} {n : Nat} {es es' : List (Value × Value)} {l : List (Int × Int)} (e : es = mapE l) (e' : es' = mapE l) : ObjRen ρ n (.map es) (.map es') := by
  subst e e'
  refine ⟨?_, ?_⟩
  · unfold mapE
    rw [List.map_map]
    apply List.map_congr_left
    intro p _
    rfl
  · intro e he
    unfold mapE at he
    obtain ⟨p, _, rfl⟩ := List.mem_map.1 he
    exact scS_g rfl
theorem mapE_nil : mapE [] = [] := rfl
theorem mapE_next {l : List (Int × Int)} {i : Nat} (h : i < l.length) : mapE (l.take i) ++ [(Value.agg #[iv (at2 l i).1, iv (at2 l i).2], .bool true)] = mapE (l.take (i + 1)) := by
  rw [List.take_add_one, List.getElem?_eq_getElem h, at2_eq h]
  unfold mapE
  rw [List.map_append]
  rfl
def eM32 (l : List (Int × Int)) (c : Nat) (j : Int) : List (Nat × Value) := [(0, .slice (some ⟨0, 0, none⟩) l.length c), (3, .map (some 1)), (23, .slice (some ⟨0, 0, none⟩) l.length c), (24, iv l.length), (25, iv j)]
def hM (l : List (Int × Int)) (i : Nat) : Heap := [(0, .cells false true 2 (flat elP.fl l)), (1, .map (mapE (l.take i)))]
theorem polyE_cross {l : List (Int × Int)} (h : goodP l) (hs : ¬ simpleP l) : polyE l = 10 := by
  rw [polyE_good h, simpleB_f hs]
  rfl
def eO32 (l : List (Int × Int)) (c : Nat) (j : Int) : List (Nat × Value) := [(0, .slice (some ⟨0, 0, none⟩) l.length c), (36, iv l.length), (37, iv j)]
def eI32 (l : List (Int × Int)) (c : Nat) (j m : Int) : List (Nat × Value) := [(0, .slice (some ⟨0, 0, none⟩) l.length c), (36, iv l.length), (37, iv j), (6, iv j), (7, iv m)]
def X32 : Nat × XF := (16, lX elP SPoly)
attribute [local irreducible] meetS edgeS mapE in
theorem x32 : XOK Go.Proofs.Tryz.prog X32.1 X32.2 := lX_ok elP (body_calls (xl := [X54, X81, X68]) (.cons x54 (.cons x81 (.cons x68 .nil)))) fun l r v hs => by
  obtain ⟨rfl, hlen, rfl⟩ := SPoly_inv hs
  refine ⟨rfl, rfl, fun c => ?_⟩
  ((conv => whnf); refine bm (fun h1 => ?_) (fun h1 => ?_))
  · (conv => whnf)
    simp only [cA_lt, cA_num, decide_eq_true_eq] at h1
    rw [polyE_limit (by omega)]
    rfl
  · have h200 : ¬ 200 < l.length := by simp only [cA_lt, cA_num, decide_eq_false_iff_not] at h1; omega
    ((conv => whnf); refine bm (fun h2 => ?_) (fun h2 => ?_))
    · (conv => whnf)
      refine ⟨l, LsAt_own elP rfl, ?_⟩
      ((conv => whnf); refine bm (fun h3 => ?_) (fun h3 => ?_))
      · ((conv => whnf); refine bm (fun h4 => ?_) (fun h4 => ?_))
        · (conv => whnf)
          rw [polyE_arg h200 (by
            unfold argP
            simp only [cA_notB, Bool.not_eq_true'] at h4
            exact .inr h4)]
          rfl
        · have hna : ¬ argP l := by
            unfold argP
            simp only [cA_eqB, cA_notB, cA_lt, cA_num, beq_iff_eq, decide_eq_false_iff_not, Bool.not_eq_false'] at h2 h4
            rw [h4]
            rintro (h | h)
            · omega
            · cases h
          (conv => whnf)
          refine ⟨fun n e h nx => ∃ (i : Nat) (j : Int), j = i ∧ i ≤ l.length ∧ n = l.length - i ∧ (l.take i).Nodup ∧ e = eM32 l c j ∧ h = hM l i ∧ nx = 2, ⟨l.length, ?_⟩, ?_⟩
          · refine Into_id (e0 := eM32 l c 0) (h0 := hM l 0) (n0 := 2) ⟨0, 0, rfl, Nat.zero_le _, rfl, by simp, rfl, rfl, rfl⟩ ?_ ?_ (by decide)
            · unfold eM32
              ((repeat' (refine List.forall_mem_cons.2 ⟨⟨rfl, ?_⟩, ?_⟩; (first | exact scT_g rfl | exact ⟨by decide, rfl⟩ | exact ⟨by decide, fun h => (by cases h)⟩))); exact fun _ h => (by cases h))
            · unfold hM
              ((repeat' (refine List.forall_mem_cons.2 ⟨⟨Nat.le_of_ble_eq_true rfl, _, rfl, ?_⟩, ?_⟩; (first | exact (ObjRen_map (l := []) rfl mapE_nil.symm) | exact ObjRen_g (flat_g _ _) | exact ObjRen_j rfl rfl))); exact fun _ h => (by cases h))
          · rintro n e h nx ⟨i, j, hj, hi, rfl, hb, rfl, rfl, rfl⟩
            unfold eM32 hM
            ((conv => whnf); refine bm (fun g1 => ?_) (fun g1 => ?_))
            · have hlt : i < l.length := by simp [cfgS, std] at g1; omega
              ((conv => whnf); refine bm (fun g2 => ?_) (fun g2 => ?_))
              · (conv => whnf)
                refine boL (getP l hlt ?_) ?_
                · simp [cfgS, std]; omega
                (conv => whnf)
                by_cases hmem : at2 l i ∈ l.take i
                · have hv : vfind cfgS.A cfgS.T 32 (Value.agg #[iv (at2 l i).fst, iv (at2 l i).snd]) (mapE (List.take i l)) = some (some (.bool true)) := vfind_yes hmem
                  rw [hv]
                  (conv => whnf)
                  rw [polyE_twice h200 hna (by
                    obtain ⟨k, hk, he⟩ := List.mem_iff_getElem.1 hmem
                    simp only [List.length_take] at hk
                    rw [List.getElem_take, ← at2_eq (by omega)] at he
                    exact not_nodup hlt (k := k) (by omega) he.symm)]
                  rfl
                · have hv : vfind cfgS.A cfgS.T 32 (Value.agg #[iv (at2 l i).fst, iv (at2 l i).snd]) (mapE (List.take i l)) = some none := vfind_no hmem
                  rw [hv]
                  (conv => whnf)
                  rw [hv]
                  ((conv => whnf); refine bm (fun g => ?_) (fun g => ?_))
                  · (conv => whnf)
                    refine ⟨l.length - (i + 1), by omega, ?_⟩
                    refine Into_id (e0 := eM32 l c (j + 1)) (h0 := hM l (i + 1)) (n0 := 2) ⟨i + 1, j + 1, by omega, hlt, rfl, ?_, rfl, rfl, rfl⟩ ?_ ?_ (by decide)
                    · refine take_nodup hlt hb fun k hk he => hmem ?_
                      rw [he, at2_eq (by omega)]
                      exact List.mem_iff_getElem.2 ⟨k, by rw [List.length_take]; omega, by rw [List.getElem_take]⟩
                    · unfold eM32
                      ((repeat' (refine List.forall_mem_cons.2 ⟨⟨rfl, ?_⟩, ?_⟩; (first | exact scT_g rfl | exact ⟨by decide, rfl⟩ | exact ⟨by decide, fun h => (by cases h)⟩))); exact fun _ h => (by cases h))
                    · unfold hM
                      ((repeat' (refine List.forall_mem_cons.2 ⟨⟨Nat.le_of_ble_eq_true rfl, _, rfl, ?_⟩, ?_⟩; (first | exact (ObjRen_map (l := l.take (i + 1)) rfl (mapE_next hlt)) | exact ObjRen_g (flat_g _ _) | exact ObjRen_j rfl rfl))); exact fun _ h => (by cases h))
                  · exfalso; simp only [cA_add, cA_fits, fitsK, Bool.eq_false_iff, ne_eq, Bool.and_eq_true, decide_eq_true_eq] at g; omega
              · exfalso; simp only [cA_lt, cA_le, cA_andB, cA_num, Bool.eq_false_iff, ne_eq, Bool.and_eq_true, decide_eq_true_eq] at g2; omega
            · have hge : i = l.length := by simp [cfgS, std] at g1; omega
              subst hge
              rw [List.take_length] at hb
              have hgood := good_of h200 hna hb
              (conv => whnf)
              have h3' := hgood.1
              have h200' := hgood.2.1
              clear hi hb g1 hj h1 h2 h3 h4
              refine ⟨fun n e h nx => ∃ (i : Nat) (j : Int), j = i ∧ i ≤ l.length ∧ n = l.length - i ∧ (∀ i' k, i' < i → i' < k → k < l.length → okE l i' k) ∧ e = eO32 l c j ∧ h = hP l ∧ nx = 1, ⟨l.length, ?_⟩, ?_⟩
              · refine Into_id (e0 := eO32 l c 0) (h0 := hP l) (n0 := 1) ⟨0, 0, rfl, Nat.zero_le _, rfl, fun _ _ h => absurd h (Nat.not_lt_zero _), rfl, rfl, rfl⟩ ?_ ?_ (Nat.le_refl _)
                · unfold eO32
                  ((repeat' (refine List.forall_mem_cons.2 ⟨⟨rfl, ?_⟩, ?_⟩; (first | exact scT_g rfl | exact ⟨by decide, rfl⟩ | exact ⟨by decide, fun h => (by cases h)⟩))); exact fun _ h => (by cases h))
                · unfold hP
                  ((repeat' (refine List.forall_mem_cons.2 ⟨⟨Nat.le_of_ble_eq_true rfl, _, rfl, ?_⟩, ?_⟩; (first | exact ObjRen_g (flat_g _ _) | exact ObjRen_j rfl rfl))); exact fun _ h => (by cases h))
              · rintro n e h nx ⟨i, j, hj, hi, rfl, hb, rfl, rfl, rfl⟩
                unfold eO32 hP
                ((conv => whnf); refine bm (fun g1 => ?_) (fun g1 => ?_))
                · have hlt : i < l.length := by simp [cfgS, std] at g1; omega
                  ((conv => whnf); refine bm (fun g2 => ?_) (fun g2 => ?_))
                  · (conv => whnf)
                    refine ⟨fun n e h nx => ∃ (k : Nat) (m : Int), m = k ∧ i < k ∧ k ≤ l.length ∧ n = l.length - k ∧ (∀ k', i < k' → k' < k → okE l i k') ∧ e = eI32 l c j m ∧ h = hP l ∧ nx = 1, ⟨l.length - (i + 1), ?_⟩, ?_⟩
                    · refine Into_id (e0 := eI32 l c j (j + 1)) (h0 := hP l) (n0 := 1) ⟨i + 1, j + 1, by omega, Nat.lt_succ_self _, hlt, rfl, fun k' h1 h2 => by omega, rfl, rfl, rfl⟩ ?_ ?_ (Nat.le_refl _)
                      · unfold eI32
                        ((repeat' (refine List.forall_mem_cons.2 ⟨⟨rfl, ?_⟩, ?_⟩; (first | exact scT_g rfl | exact ⟨by decide, rfl⟩ | exact ⟨by decide, fun h => (by cases h)⟩))); exact fun _ h => (by cases h))
                      · unfold hP
                        ((repeat' (refine List.forall_mem_cons.2 ⟨⟨Nat.le_of_ble_eq_true rfl, _, rfl, ?_⟩, ?_⟩; (first | exact ObjRen_g (flat_g _ _) | exact ObjRen_j rfl rfl))); exact fun _ h => (by cases h))
                    · rintro n e h nx ⟨k, m, hm, hik, hk, rfl, hbk, rfl, rfl, rfl⟩
                      unfold eI32 hP
                      ((conv => whnf); refine bm (fun f1 => ?_) (fun f1 => ?_))
                      · have hltk : k < l.length := by simp [cfgS, std] at f1; omega
                        have ra := edge_right hgood hlt
                        have rb := edge_right hgood hltk
                        have hji : j.toNat = i := by omega
                        have hmk : m.toNat = k := by omega
                        repeat' first
                          | (((conv => whnf); refine bm (fun g => ?_) (fun g => ?_)))
                          | ((conv => whnf)
                             refine Exists.intro l (And.intro (LsAt_own elP rfl) ?_))
                        all_goals (conv => whnf)
                        all_goals (simp only [cA_eq, cA_eqB, cA_notB, cA_add, cA_sub, cA_fits, cA_num, fitsK, Bool.not_eq_true', Bool.not_eq_false', beq_iff_eq, beq_eq_false_iff_ne, ne_eq, decide_eq_true_eq, decide_eq_false_iff_not, pEta, sEta, hji, hmk] at *)
                        all_goals first
                          | (refine Eq.trans ?_ (congrArg iv (polyE_cross hgood fun hh => ?_)).symm
                             · rfl
                             have hh := hh i k hik hltk
                             unfold okE wantS at hh
                             split at hh <;> omega)
                          | (refine ⟨l.length - (k + 1), by omega, ?_⟩
                             refine Into_id (e0 := eI32 l c j (m + 1)) (h0 := hP l) (n0 := 1) ⟨k + 1, m + 1, by omega, by omega, hltk, rfl, fun k' h1 h2 => ?_, rfl, rfl, rfl⟩ ?_ ?_ (Nat.le_refl _)
                             · by_cases hkk : k' = k
                               · subst hkk
                                 unfold okE wantS
                                 split <;> omega
                               · exact hbk k' h1 (by omega)
                             · unfold eI32
                               ((repeat' (refine List.forall_mem_cons.2 ⟨⟨rfl, ?_⟩, ?_⟩; (first | exact scT_g rfl | exact ⟨by decide, rfl⟩ | exact ⟨by decide, fun h => (by cases h)⟩))); exact fun _ h => (by cases h))
                             · unfold hP
                               ((repeat' (refine List.forall_mem_cons.2 ⟨⟨Nat.le_of_ble_eq_true rfl, _, rfl, ?_⟩, ?_⟩; (first | exact ObjRen_g (flat_g _ _) | exact ObjRen_j rfl rfl))); exact fun _ h => (by cases h)))
                          | (exfalso; simp only [rightG_wide ra, rightG_wide rb, Bool.and_eq_false_iff, decide_eq_false_iff_not, Bool.true_eq_false, or_self] at *; omega)
                          | (exfalso; simp [rightG_wide ra, rightG_wide rb] at *; done)
                          | trace_state
                      · have hge : k = l.length := by simp [cfgS, std] at f1; omega
                        ((conv => whnf); refine bm (fun g => ?_) (fun g => ?_))
                        · (conv => whnf)
                          refine ⟨l.length - (i + 1), by omega, ?_⟩
                          refine Into_id (e0 := eO32 l c (j + 1)) (h0 := hP l) (n0 := 1) ⟨i + 1, j + 1, by omega, hlt, rfl, fun i' k' h1 h2 h3 => ?_, rfl, rfl, rfl⟩ ?_ ?_ (Nat.le_refl _)
                          · by_cases hii : i' = i
                            · subst hii
                              exact hbk k' h2 (by omega)
                            · exact hb i' k' (by omega) h2 h3
                          · unfold eO32
                            ((repeat' (refine List.forall_mem_cons.2 ⟨⟨rfl, ?_⟩, ?_⟩; (first | exact scT_g rfl | exact ⟨by decide, rfl⟩ | exact ⟨by decide, fun h => (by cases h)⟩))); exact fun _ h => (by cases h))
                          · unfold hP
                            ((repeat' (refine List.forall_mem_cons.2 ⟨⟨Nat.le_of_ble_eq_true rfl, _, rfl, ?_⟩, ?_⟩; (first | exact ObjRen_g (flat_g _ _) | exact ObjRen_j rfl rfl))); exact fun _ h => (by cases h))
                        · exfalso; simp only [cA_add, cA_fits, fitsK, Bool.eq_false_iff, ne_eq, Bool.and_eq_true, decide_eq_true_eq] at g; omega
                  · exfalso; simp only [cA_add, cA_fits, fitsK, Bool.eq_false_iff, ne_eq, Bool.and_eq_true, decide_eq_true_eq] at g2; omega
                · have hge : i = l.length := by simp [cfgS, std] at g1; omega
                  subst hge
                  (conv => whnf)
                  rw [polyE_good hgood, simpleB_iff.2 fun i' k h1 h2 => hb i' k (by omega) h1 h2]
                  rfl
      · exact absurd hlen (by simpa using h3)
    · (conv => whnf)
      rw [polyE_arg h200 (by
        unfold argP
        simp only [cA_eqB, cA_lt, cA_num, beq_eq_false_iff_ne, ne_eq, Bool.not_eq_false, decide_eq_true_eq] at h2
        exact .inl (by omega))]
      rfl
end Go.Aw
