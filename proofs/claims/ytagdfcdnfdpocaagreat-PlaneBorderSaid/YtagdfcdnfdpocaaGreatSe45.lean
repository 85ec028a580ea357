/-
  PlaneBorder: its body. No condition.
-/
import Derived.Test.YtagdfcdnfdpocaaGreatSe42
set_option linter.unusedSimpArgs false
set_option linter.unusedVariables false
noncomputable section
namespace Go.Aw
set_option maxRecDepth 100000
theorem at_right {l : List (Int × Int)} (h : goodP l) {i : Nat} (hi : i < l.length) : rightS (at2 l i) = true := all_at h.2.2.1 hi
theorem corner_on {l : List (Int × Int)} (h : polyE l = 0) {i : Nat} (hi : i < l.length) : WhV l (at2 l i) = 1 := by
  have hg := (polyE_ok h).1
  rw [WhV, if_pos ⟨h, at_right hg hi⟩]
  refine whI_on hi ?_
  rw [on_eq _ _ (edge_right hg hi)]
  exact onR_end _ _ (.inl rfl)
theorem border_iff {l : List (Int × Int)} (h : polyE l = 0) {p : Int × Int} (hp : rightS p = true) : WhV l p = 1 ↔ onP l p := by
  rw [WhV, if_pos ⟨h, hp⟩, whI]
  constructor
  · intro h1
    split at h1
    · assumption
    · split at h1 <;> cases h1
  · intro h1
    rw [if_pos h1]
theorem On_edge {l : List (Int × Int)} (h : goodP l) {p : Int × Int} (hp : rightS p = true) {i : Nat} (hi : i < l.length) : OnS p (edgeS l i) = onS p (edgeS l i) := by
  rw [OnS, hp, edge_right h hi]
  rfl
def e11 (l : List (Int × Int)) (c : Nat) (j : Int) (b : Bool) : List (Nat × Value) := [(0, .slice (some ⟨0, 0, none⟩) l.length c), (3, .pointer (some ⟨1, 0, none⟩)), (5, .bool b), (22, iv l.length), (23, iv j)]
attribute [local irreducible] WhV OnS polyE in
theorem law11 (l : List (Int × Int)) (p : Int × Int) (c : Nat) : body [X19, X32, X17, X40, X20] 11 [.slice (some ⟨0, 0, none⟩) l.length c, ptv p] [(0, .cells false true 2 (flat elP.fl l))] 1 (fun u _ _ => u = .bool true) := by
  obtain ⟨px, py⟩ := p
  repeat' first
    | (((conv => whnf); refine bm (fun g => ?_) (fun g => ?_)))
    | ((conv => whnf)
       refine Exists.intro l (And.intro (LsAt_own elP rfl) ?_))
  all_goals (conv => whnf)
  · rename_i g0 ga gb
    have hlen : l.length ≤ 60 := by simp only [cA_lt, cA_num, cA_eqB, beq_iff_eq, decide_eq_false_iff_not] at g0; omega
    have hE : polyE l = 0 := by simpa only [cA_eqB, cA_notB, cA_eq, beq_iff_eq, Bool.not_eq_false', decide_eq_true_eq] using gb
    have hp : rightS (px, py) = true := by
      simp only [cA_notB, cA_eq, Bool.not_eq_false', decide_eq_true_eq, pEta] at g
      split at g
      · assumption
      · cases g
    have hg := (polyE_ok hE).1
    have h3' := hg.1
    clear g0 ga gb g
    refine ⟨fun n e h nx => ∃ (i : Nat) (j : Int) (b : Bool), j = i ∧ i ≤ l.length ∧ n = l.length - i ∧ (b = true ↔ ∃ k, k < i ∧ onS (px, py) (edgeS l k) = true) ∧ e = e11 l c j b ∧ h = hW l (px, py) ∧ nx = 2, ⟨l.length, ?_⟩, ?_⟩
    · refine Into_id (e0 := e11 l c 0 false) (h0 := hW l (px, py)) (n0 := 2) ⟨0, 0, false, rfl, Nat.zero_le _, rfl, ⟨fun h => (by cases h), fun h => by obtain ⟨k, hk, _⟩ := h; omega⟩, rfl, rfl, rfl⟩ ?_ ?_ (by decide)
      · unfold e11
        ((repeat' (refine List.forall_mem_cons.2 ⟨⟨rfl, ?_⟩, ?_⟩; (first | exact scT_g rfl | exact ⟨by decide, rfl⟩ | exact ⟨by decide, fun h => (by cases h)⟩))); exact fun _ h => (by cases h))
      · unfold hW
        ((repeat' (refine List.forall_mem_cons.2 ⟨⟨Nat.le_of_ble_eq_true rfl, _, rfl, ?_⟩, ?_⟩; (first | exact ObjRen_g (flat_g _ _) | exact ObjRen_j rfl rfl))); exact fun _ h => (by cases h))
    · rintro n e h nx ⟨i, j, b, hj, hi, rfl, hb, rfl, rfl, rfl⟩
      unfold e11 hW
      ((conv => whnf); refine bm (fun f1 => ?_) (fun f1 => ?_))
      · have hlt : i < l.length := by simp [cfgS, std] at f1; omega
        have hm : (i + 1) % l.length < l.length := Nat.mod_lt _ (by omega)
        have ht : (j + 1).tmod (l.length : Int) = ((i + 1) % l.length : Nat) := by rw [hj]; exact tmod_nat
        have hon : OnS (px, py) (at2 l i, at2 l ((i + 1) % l.length)) = onS (px, py) (edgeS l i) := On_edge hg hp hlt
        have hc := corner_on hE hlt
        repeat' first
          | (((conv => whnf); refine bm (fun g => ?_) (fun g => ?_)))
          | ((conv => whnf)
             refine Exists.intro l (And.intro (LsAt_own elP rfl) ?_))
          | ((conv => whnf)
             refine boL (getP l hlt ?_) ?_
             · simp [cfgS, std]; omega)
          | ((conv => whnf)
             refine boL (getP l hm ?_) ?_
             · show 0 + ((j + 1).tmod (l.length : Int)).toNat * 2 = _
               rw [ht, Int.toNat_natCast, Nat.zero_add])
        all_goals (conv => whnf)
        all_goals (simp only [cA_eq, cA_eqB, cA_notB, cA_lt, cA_le, cA_add, cA_rem, cA_num, cA_andB, cA_fits, fitsK, beq_iff_eq, beq_eq_false_iff_ne, ne_eq, Bool.not_eq_true', Bool.not_eq_false', Bool.not_eq_true, Bool.not_eq_false, decide_eq_true_eq, decide_eq_false_iff_not, pEta, hc] at *)
        all_goals first
          | (exfalso; refine absurd trivial ?_; assumption)
          | (exfalso; omega)
          | (exfalso; simp only [Bool.and_eq_false_iff, decide_eq_false_iff_not] at *; omega)
          | (refine (fun (hbt : b = true) => ?_) ?_
             rotate_left
             · assumption
             refine ⟨l.length - (i + 1), by omega, ?_⟩
             refine Into_id (e0 := e11 l c (j + 1) true) (h0 := hW l (px, py)) (n0 := 2) ⟨i + 1, j + 1, true, by omega, hlt, rfl, ⟨fun _ => ?_, fun _ => rfl⟩, rfl, rfl, rfl⟩ ?_ ?_ (by decide)
             · obtain ⟨k, hk, h2⟩ := hb.1 hbt
               exact ⟨k, by omega, h2⟩
             · unfold e11
               ((repeat' (refine List.forall_mem_cons.2 ⟨⟨rfl, ?_⟩, ?_⟩; (first | exact scT_g rfl | exact ⟨by decide, rfl⟩ | exact ⟨by decide, fun h => (by cases h)⟩))); exact fun _ h => (by cases h))
             · unfold hW
               ((repeat' (refine List.forall_mem_cons.2 ⟨⟨Nat.le_of_ble_eq_true rfl, _, rfl, ?_⟩, ?_⟩; (first | exact ObjRen_g (flat_g _ _) | exact ObjRen_j rfl rfl))); exact fun _ h => (by cases h))
             done)
          | (refine ⟨l.length - (i + 1), by omega, ?_⟩
             refine Into_id (e0 := e11 l c (j + 1) (OnS (px, py) (at2 l i, at2 l ((i + 1) % l.length)))) (h0 := hW l (px, py)) (n0 := 2) ⟨i + 1, j + 1, OnS (px, py) (at2 l i, at2 l ((i + 1) % l.length)), by omega, hlt, rfl, ⟨fun h1 => ?_, fun h1 => ?_⟩, rfl, rfl, rfl⟩ ?_ ?_ (by decide)
             · rw [hon] at h1
               exact ⟨i, Nat.lt_succ_self _, h1⟩
             · rw [hon]
               obtain ⟨k, hk, h2⟩ := h1
               by_cases hki : k = i
               · rw [← hki]; exact h2
               · have := hb.2 ⟨k, by omega, h2⟩
                 simp_all
             · unfold e11
               ((repeat' (refine List.forall_mem_cons.2 ⟨⟨rfl, ?_⟩, ?_⟩; (first | exact scT_g rfl | exact ⟨by decide, rfl⟩ | exact ⟨by decide, fun h => (by cases h)⟩))); exact fun _ h => (by cases h))
             · unfold hW
               ((repeat' (refine List.forall_mem_cons.2 ⟨⟨Nat.le_of_ble_eq_true rfl, _, rfl, ?_⟩, ?_⟩; (first | exact ObjRen_g (flat_g _ _) | exact ObjRen_j rfl rfl))); exact fun _ h => (by cases h))
             done)
          | (exfalso; simp only [Bool.and_eq_false_iff, decide_eq_false_iff_not] at *; omega)
          | trace_state
      · have hge : i = l.length := by simp [cfgS, std] at f1; omega
        subst hge
        have hbi := border_iff hE hp
        repeat' first
          | (((conv => whnf); refine bm (fun g => ?_) (fun g => ?_)))
          | ((conv => whnf)
             refine Exists.intro l (And.intro (LsAt_own elP rfl) ?_))
        all_goals (conv => whnf)
        · show Value.bool (b == decide (WhV l (px, py) = 1)) = .bool true
          have : b = decide (WhV l (px, py) = 1) := by
            rw [Bool.eq_iff_iff, decide_eq_true_eq, hbi, hb]
            rfl
          rw [this]
          simp
        · exfalso
          simp at g
          omega
  · exfalso
    simp at g
    simp only [cA_lt, cA_num, cA_eqB, beq_iff_eq, decide_eq_false_iff_not] at *
    omega
end Go.Aw
