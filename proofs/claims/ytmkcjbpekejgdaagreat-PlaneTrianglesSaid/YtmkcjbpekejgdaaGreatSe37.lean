/-
  Simple polygons: what both checks ask; the reference's 'simple'. No condition.
-/
import Derived.Test.YtmkcjbpekejgdaaGreatSe36
set_option linter.unusedSimpArgs false
set_option linter.unusedVariables false
noncomputable section
namespace Go.Aw
set_option maxRecDepth 100000
theorem sEta (s : Sg) : (s.1, s.2) = s := rfl
def wantS (i k n : Nat) : Int := if k = i + 1 ∨ (i = 0 ∧ k = n - 1) then 1 else 0
def okE (l : List (Int × Int)) (i k : Nat) : Prop := meetS (edgeS l i) (edgeS l k) = wantS i k l.length
def simpleP (l : List (Int × Int)) : Prop := ∀ i k, i < k → k < l.length → okE l i k
open Classical in
def simpleB (l : List (Int × Int)) : Bool := decide (simpleP l)
def goodP (l : List (Int × Int)) : Prop := 3 ≤ l.length ∧ l.length ≤ 200 ∧ l.all rightS = true ∧ l.Nodup
open Classical in
def goodL (l : List (Int × Int)) : Bool := decide (goodP l)
theorem goodL_iff {l : List (Int × Int)} : goodL l = true ↔ goodP l := by simp [goodL]
theorem simpleB_iff {l : List (Int × Int)} : simpleB l = true ↔ simpleP l := by simp [simpleB]
theorem simpleB_f {l : List (Int × Int)} (h : ¬ simpleP l) : simpleB l = false := by simp [simpleB, h]
theorem next_lt {l : List (Int × Int)} (h : 0 < l.length) (i : Nat) : (i + 1) % l.length < l.length := Nat.mod_lt _ h
theorem next_ne {n i : Nat} (hn : 2 ≤ n) (hi : i < n) : i ≠ (i + 1) % n := by
  by_cases h : i + 1 = n
  · rw [h, Nat.mod_self]; omega
  · rw [Nat.mod_eq_of_lt (by omega)]; omega
theorem nodup_get {l : List (Int × Int)} (h : l.Nodup) {i k : Nat} (hi : i < l.length) (hk : k < l.length) (e : l[i] = l[k]) : i = k := by
  have hp := List.pairwise_iff_getElem.1 h
  by_cases h1 : i < k
  · exact absurd e (hp i k hi hk h1)
  · by_cases h2 : k < i
    · exact absurd e.symm (hp k i hk hi h2)
    · omega
theorem nodup_at {l : List (Int × Int)} (h : l.Nodup) {i k : Nat} (hi : i < l.length) (hk : k < l.length) (e : at2 l i = at2 l k) : i = k := by
  rw [at2_eq hi, at2_eq hk] at e
  exact nodup_get h hi hk e
theorem edge_right {l : List (Int × Int)} (h : goodP l) {i : Nat} (hi : i < l.length) : rightG (edgeS l i) = true := by
  obtain ⟨h3, h200, hr, hnd⟩ := h
  have hn := next_lt (l := l) (by omega) i
  have ra := all_at hr hi
  have rb := all_at hr hn
  simp only [rightG, edgeS, Bool.and_eq_true, Bool.not_eq_true']
  refine ⟨⟨ra, rb⟩, (eqP_f _ _).2 fun e => ?_⟩
  exact next_ne (n := l.length) (by omega) hi (nodup_at hnd hi hn e)
def S82 (l : List (Int × Int)) : List Value → Option (Bool × Value)
  | [] => some (goodL l, .bool (simpleB l))
  | _ => none
theorem S82_inv {l : List (Int × Int)} {r : List Value} {v : Value} (hs : S82 l r = some (true, v)) : r = [] ∧ goodP l ∧ v = .bool (simpleB l) := by
  unfold S82 at hs
  split at hs
  · injection hs with hs; injection hs with h1 h2; exact ⟨rfl, goodL_iff.1 h1, h2.symm⟩
  · cases hs
def hP (l : List (Int × Int)) : Heap := [(0, .cells false true 2 (flat elP.fl l))]
def eO82 (l : List (Int × Int)) (c : Nat) (j : Int) : List (Nat × Value) := [(0, .slice (some ⟨0, 0, none⟩) l.length c), (3, iv l.length), (4, iv j)]
def eI82 (l : List (Int × Int)) (c : Nat) (j m : Int) : List (Nat × Value) := [(0, .slice (some ⟨0, 0, none⟩) l.length c), (3, iv l.length), (4, iv j), (5, iv m)]
def X82 : Nat × XF := (59, lX elP S82)
attribute [local irreducible] meetS edgeS in
theorem x82 : XOK Go.Proofs.Tryz.prog X82.1 X82.2 := lX_ok elP (body_calls (xl := [X84, X72']) (.cons x84 (.cons x72' .nil))) fun l r v hs => by
  obtain ⟨rfl, hgood, rfl⟩ := S82_inv hs
  refine ⟨rfl, rfl, fun c => ?_⟩
  have h3 := hgood.1
  have h200 := hgood.2.1
  (conv => whnf)
  refine ⟨fun n e h nx => ∃ (i : Nat) (j : Int), j = i ∧ i ≤ l.length ∧ n = l.length - i ∧ (∀ i' k, i' < i → i' < k → k < l.length → okE l i' k) ∧ e = eO82 l c j ∧ h = hP l ∧ nx = 1, ⟨l.length, ?_⟩, ?_⟩
  · refine Into_id (e0 := eO82 l c 0) (h0 := hP l) (n0 := 1) ⟨0, 0, rfl, Nat.zero_le _, rfl, fun _ _ h => absurd h (Nat.not_lt_zero _), rfl, rfl, rfl⟩ ?_ ?_ (Nat.le_refl _)
    · unfold eO82
      ((repeat' (refine List.forall_mem_cons.2 ⟨⟨rfl, ?_⟩, ?_⟩; (first | exact scT_g rfl | exact ⟨by decide, rfl⟩ | exact ⟨by decide, fun h => (by cases h)⟩))); exact fun _ h => (by cases h))
    · unfold hP
      ((repeat' (refine List.forall_mem_cons.2 ⟨⟨Nat.le_of_ble_eq_true rfl, _, rfl, ?_⟩, ?_⟩; (first | exact ObjRen_g (flat_g _ _) | exact ObjRen_j rfl rfl))); exact fun _ h => (by cases h))
  · rintro n e h nx ⟨i, j, hj, hi, rfl, hb, rfl, rfl, rfl⟩
    unfold eO82 hP
    ((conv => whnf); refine bm (fun g1 => ?_) (fun g1 => ?_))
    · have hlt : i < l.length := by simp [cfgS, std] at g1; omega
      ((conv => whnf); refine bm (fun g2 => ?_) (fun g2 => ?_))
      · (conv => whnf)
        refine ⟨fun n e h nx => ∃ (k : Nat) (m : Int), m = k ∧ i < k ∧ k ≤ l.length ∧ n = l.length - k ∧ (∀ k', i < k' → k' < k → okE l i k') ∧ e = eI82 l c j m ∧ h = hP l ∧ nx = 1, ⟨l.length - (i + 1), ?_⟩, ?_⟩
        · refine Into_id (e0 := eI82 l c j (j + 1)) (h0 := hP l) (n0 := 1) ⟨i + 1, j + 1, by omega, Nat.lt_succ_self _, hlt, rfl, fun k' h1 h2 => by omega, rfl, rfl, rfl⟩ ?_ ?_ (Nat.le_refl _)
          · unfold eI82
            ((repeat' (refine List.forall_mem_cons.2 ⟨⟨rfl, ?_⟩, ?_⟩; (first | exact scT_g rfl | exact ⟨by decide, rfl⟩ | exact ⟨by decide, fun h => (by cases h)⟩))); exact fun _ h => (by cases h))
          · unfold hP
            ((repeat' (refine List.forall_mem_cons.2 ⟨⟨Nat.le_of_ble_eq_true rfl, _, rfl, ?_⟩, ?_⟩; (first | exact ObjRen_g (flat_g _ _) | exact ObjRen_j rfl rfl))); exact fun _ h => (by cases h))
        · rintro n e h nx ⟨k, m, hm, hik, hk, rfl, hbk, rfl, rfl, rfl⟩
          unfold eI82 hP
          ((conv => whnf); refine bm (fun f1 => ?_) (fun f1 => ?_))
          · have hltk : k < l.length := by simp [cfgS, std] at f1; omega
            have ra := edge_right hgood hlt
            have rb := edge_right hgood hltk
            have hji : j.toNat = i := by omega
            have hmk : m.toNat = k := by omega
            (conv => whnf)
            refine ⟨l, LsAt_own elP rfl, ?_⟩
            ((conv => whnf); refine bm (fun g3 => ?_) (fun g3 => ?_))
            · (conv => whnf)
              refine ⟨l, LsAt_own elP rfl, ?_⟩
              ((conv => whnf); refine bm (fun g4 => ?_) (fun g4 => ?_))
              · ((conv => whnf); refine bm (fun g5 => ?_) (fun g5 => ?_))
                · repeat' ((conv => whnf); refine bm (fun g => ?_) (fun g => ?_))
                  all_goals (conv => whnf)
                  all_goals (simp only [cA_eq, cA_eqB, cA_notB, cA_add, cA_sub, cA_fits, cA_num, fitsK, Bool.not_eq_true', Bool.not_eq_false', beq_iff_eq, beq_eq_false_iff_ne, ne_eq, decide_eq_true_eq, decide_eq_false_iff_not, pEta, sEta, hji, hmk] at *)
                  all_goals first
                    | (refine congrArg Value.bool (simpleB_f fun hh => ?_).symm
                       have hh := hh i k hik hltk
                       unfold okE wantS at hh
                       split at hh <;> omega)
                    | (refine ⟨l.length - (k + 1), by omega, ?_⟩
                       refine Into_id (e0 := eI82 l c j (m + 1)) (h0 := hP l) (n0 := 1) ⟨k + 1, m + 1, by omega, by omega, hltk, rfl, fun k' h1 h2 => ?_, rfl, rfl, rfl⟩ ?_ ?_ (Nat.le_refl _)
                       · by_cases hkk : k' = k
                         · subst hkk
                           unfold okE wantS
                           split <;> omega
                         · exact hbk k' h1 (by omega)
                       · unfold eI82
                         ((repeat' (refine List.forall_mem_cons.2 ⟨⟨rfl, ?_⟩, ?_⟩; (first | exact scT_g rfl | exact ⟨by decide, rfl⟩ | exact ⟨by decide, fun h => (by cases h)⟩))); exact fun _ h => (by cases h))
                       · unfold hP
                         ((repeat' (refine List.forall_mem_cons.2 ⟨⟨Nat.le_of_ble_eq_true rfl, _, rfl, ?_⟩, ?_⟩; (first | exact ObjRen_g (flat_g _ _) | exact ObjRen_j rfl rfl))); exact fun _ h => (by cases h)))
                    | (exfalso; simp only [Bool.and_eq_false_iff, decide_eq_false_iff_not] at *; omega)
                    | trace_state
                · exfalso; simp only [pEta, sEta, hji, hmk, rightT, ra, rb] at g5; cases g5
              · exfalso; simp only [Bool.and_eq_false_iff, decide_eq_false_iff_not] at g4; omega
            · exfalso; simp only [Bool.and_eq_false_iff, decide_eq_false_iff_not] at g3; omega
          · have hge : k = l.length := by simp [cfgS, std] at f1; omega
            ((conv => whnf); refine bm (fun g => ?_) (fun g => ?_))
            · (conv => whnf)
              refine ⟨l.length - (i + 1), by omega, ?_⟩
              refine Into_id (e0 := eO82 l c (j + 1)) (h0 := hP l) (n0 := 1) ⟨i + 1, j + 1, by omega, hlt, rfl, fun i' k' h1 h2 h3 => ?_, rfl, rfl, rfl⟩ ?_ ?_ (Nat.le_refl _)
              · by_cases hii : i' = i
                · subst hii
                  exact hbk k' h2 (by omega)
                · exact hb i' k' (by omega) h2 h3
              · unfold eO82
                ((repeat' (refine List.forall_mem_cons.2 ⟨⟨rfl, ?_⟩, ?_⟩; (first | exact scT_g rfl | exact ⟨by decide, rfl⟩ | exact ⟨by decide, fun h => (by cases h)⟩))); exact fun _ h => (by cases h))
              · unfold hP
                ((repeat' (refine List.forall_mem_cons.2 ⟨⟨Nat.le_of_ble_eq_true rfl, _, rfl, ?_⟩, ?_⟩; (first | exact ObjRen_g (flat_g _ _) | exact ObjRen_j rfl rfl))); exact fun _ h => (by cases h))
            · exfalso; simp only [cA_add, cA_fits, fitsK, Bool.eq_false_iff, ne_eq, Bool.and_eq_true, decide_eq_true_eq] at g; omega
      · exfalso; simp only [cA_add, cA_fits, fitsK, Bool.eq_false_iff, ne_eq, Bool.and_eq_true, decide_eq_true_eq] at g2; omega
    · have hge : i = l.length := by simp [cfgS, std] at g1; omega
      subst hge
      (conv => whnf)
      rw [show simpleB l = true from simpleB_iff.2 fun i' k h1 h2 => hb i' k (by omega) h1 h2]
end Go.Aw
