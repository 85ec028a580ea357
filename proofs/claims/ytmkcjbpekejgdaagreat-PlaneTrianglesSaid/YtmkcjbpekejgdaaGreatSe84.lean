/-
  Ears: the reference's. No condition.
-/
import Derived.Test.YtmkcjbpekejgdaaGreatSe83
set_option linter.unusedSimpArgs false
set_option linter.unusedVariables false
noncomputable section
namespace Go.Aw
set_option maxRecDepth 100000
def e68 (l : List (Int × Int)) (c : Nat) (k : Int) : List (Nat × Value) := [(0, .slice (some ⟨0, 0, none⟩) l.length c), (5, iv l.length), (6, .pointer (some ⟨1, 0, none⟩)), (7, iv k)]
def h68 (l : List (Int × Int)) (a b c : Int × Int) : Heap := [(0, .cells false true 2 (flat elP.fl l)), (1, .cells true false 1 [iv a.1, iv a.2, iv b.1, iv b.2, iv c.1, iv c.2])]
def D68 : Nat × XF := (68, lX elP SEar)
attribute [local irreducible] turnS prv nxt at2 holdB earB in
theorem d68 : XOK Go.Proofs.Tryz.prog D68.1 D68.2 := lX_ok elP (body_calls (xl := [X57, D135]) (.cons x57 (.cons d135 .nil))) fun l r v hs => by
  obtain ⟨i, rfl, hi, hlen, hall, rfl⟩ := SEar_inv hs
  refine ⟨rfl, rfl, fun c => ?_⟩
  clear hs
  have hn : (i + 1) % l.length < l.length := Nat.mod_lt _ (by omega)
  have hp : (i + l.length - 1) % l.length < l.length := Nat.mod_lt _ (by omega)
  have tn : ((i : Int) + 1).tmod (l.length : Int) = ((i + 1) % l.length : Nat) := tmod_nat
  have tp : ((i : Int) + (l.length : Int) - 1).tmod (l.length : Int) = ((i + l.length - 1) % l.length : Nat) := tmod_prev (by omega)
  have ep : at2 l ((i + l.length - 1) % l.length) = prv l i := by unfold prv; rfl
  have en : at2 l ((i + 1) % l.length) = nxt l i := by unfold nxt; rfl
  have w1 : wide (at2 l i) = true := rightS_wide (all_at hall hi)
  have w2 : wide (nxt l i) = true := by rw [← en]; exact rightS_wide (all_at hall hn)
  have w3 : wide (prv l i) = true := by rw [← ep]; exact rightS_wide (all_at hall hp)
  obtain ⟨j, hj⟩ : ∃ j : Int, j = i := ⟨_, rfl⟩
  rw [← hj] at tn tp ⊢
  repeat' first
    | (((conv => whnf); refine bm (fun g => ?_) (fun g => ?_)))
    | ((conv => whnf)
       refine boL (getP l hi ?_) ?_
       · simp [cfgS, std]; omega)
    | ((conv => whnf)
       refine boL (getP l hn ?_) ?_
       · show 0 + ((j + 1).tmod (l.length : Int)).toNat * 2 = _
         rw [tn, Int.toNat_natCast, Nat.zero_add])
    | ((conv => whnf)
       refine boL (getP l hp ?_) ?_
       · show 0 + ((j + (l.length : Int) - 1).tmod (l.length : Int)).toNat * 2 = _
         rw [tp, Int.toNat_natCast, Nat.zero_add])
  all_goals (conv => whnf)
  all_goals try
    (exfalso
     first
      | (simp only [cA_add, cA_sub, cA_fits, cA_lt, cA_le, cA_eq, cA_notB, cA_andB, cA_num, fitsK, Bool.and_eq_false_iff, Bool.not_eq_false', decide_eq_true_eq, decide_eq_false_iff_not] at g; omega)
      | (simp only [cA_rem, cA_add, cA_sub, cA_lt, cA_le, cA_andB, cA_num, Bool.and_eq_false_iff, decide_eq_false_iff_not] at g
         rw [tn] at g
         omega)
      | (simp only [cA_rem, cA_add, cA_sub, cA_lt, cA_le, cA_andB, cA_num, Bool.and_eq_false_iff, decide_eq_false_iff_not] at g
         rw [tp] at g
         omega)
      | (have hg : (wide (at2 l ((i + l.length - 1) % l.length)) && wide (at2 l i) && wide (at2 l ((i + 1) % l.length))) = false := g
         rw [ep, en, w1, w2, w3] at hg
         cases hg))
  · have hg : decide (turnS (at2 l ((i + l.length - 1) % l.length)) (at2 l i) (at2 l ((i + 1) % l.length)) ≤ 0) = true := g
    rw [ep, en] at hg
    rw [earB_no (of_decide_eq_true hg)]
  · have hg : decide (turnS (at2 l ((i + l.length - 1) % l.length)) (at2 l i) (at2 l ((i + 1) % l.length)) ≤ 0) = false := g
    rw [ep, en] at hg
    have hpos : 0 < turnS (prv l i) (at2 l i) (nxt l i) := by
      have := of_decide_eq_false hg
      omega
    rw [ep, en]
    clear hg
    refine ⟨fun n e h nx => ∃ (k : Nat) (m : Int), m = k ∧ k ≤ l.length ∧ n = l.length - k ∧ (∀ q, q < k → clearB (prv l i) (at2 l i) (nxt l i) (at2 l q) = true) ∧ e = e68 l c m ∧ h = h68 l (prv l i) (at2 l i) (nxt l i) ∧ nx = 2, ⟨l.length, ?_⟩, ?_⟩
    · refine Into_id (e0 := e68 l c 0) (h0 := h68 l (prv l i) (at2 l i) (nxt l i)) (n0 := 2) ⟨0, 0, rfl, Nat.zero_le _, rfl, fun q h => absurd h (Nat.not_lt_zero q), rfl, rfl, rfl⟩ ?_ ?_ (by decide)
      · unfold e68
        ((repeat' (refine List.forall_mem_cons.2 ⟨⟨rfl, ?_⟩, ?_⟩; (first | exact scT_g rfl | exact ⟨by decide, rfl⟩ | exact ⟨by decide, fun h => (by cases h)⟩))); exact fun _ h => (by cases h))
      · unfold h68
        ((repeat' (refine List.forall_mem_cons.2 ⟨⟨Nat.le_of_ble_eq_true rfl, _, rfl, ?_⟩, ?_⟩; (first | exact ObjRen_g (flat_g _ _) | exact ObjRen_j rfl rfl))); exact fun _ h => (by cases h))
    · rintro n e h nx ⟨k, m, hm, hk, rfl, hb, rfl, rfl, rfl⟩
      unfold e68 h68
      ((conv => whnf); refine bm (fun g1 => ?_) (fun g1 => ?_))
      · have hlt : k < l.length := by simp [cfgS, std] at g1; omega
        have w4 := rightS_wide (all_at hall hlt)
        have wAll : (wide (prv l i) && wide (at2 l i) && wide (nxt l i) && wide (at2 l k)) = true := by rw [w1, w2, w3, w4]; rfl
        have hno := earB_not (i := i) hlt
        generalize prv l i = A at *
        generalize at2 l i = B at *
        generalize nxt l i = C at *
        repeat' first
          | (((conv => whnf); refine bm (fun g => ?_) (fun g => ?_)))
          | ((conv => whnf)
             refine boL (getP l hlt ?_) ?_
             · simp [cfgS, std]; omega)
        all_goals (conv => whnf)
        all_goals try
          (exfalso
           first
            | (simp only [cA_add, cA_fits, cA_lt, cA_le, cA_andB, cA_num, fitsK, Bool.and_eq_false_iff, decide_eq_false_iff_not] at g
               omega)
            | (have hg : (wide A && wide B && wide C && wide (at2 l k)) = false := g
               rw [wAll] at hg
               cases hg))
        all_goals generalize hpk : at2 l k = p at *
        all_goals first
          | (show Value.bool false = .bool (earB l i)
             rw [hno ?_]
             clear hno hb hpk hall tn tp hn hp ep en w1 w2 w3 w4 wAll hpos
             unfold clearB eqP
             simp only [cA_eq, cA_andB, cA_notB, cA_eqB, Bool.and_true] at *
             generalize (decide (p.1 = A.1) && decide (p.2 = A.2)) = x1 at *
             generalize (decide (p.1 = B.1) && decide (p.2 = B.2)) = x2 at *
             generalize (decide (p.1 = C.1) && decide (p.2 = C.2)) = x3 at *
             generalize holdB A B C p = x4 at *
             cases x1 <;> cases x2 <;> cases x3 <;> cases x4 <;> simp_all)
          | (have hcl : clearB A B C p = true := by
               clear hno hb hpk hall tn tp hn hp ep en w1 w2 w3 w4 wAll hpos
               unfold clearB eqP
               simp only [cA_eq, cA_andB, cA_notB, cA_eqB, Bool.and_true] at *
               generalize (decide (p.1 = A.1) && decide (p.2 = A.2)) = x1 at *
               generalize (decide (p.1 = B.1) && decide (p.2 = B.2)) = x2 at *
               generalize (decide (p.1 = C.1) && decide (p.2 = C.2)) = x3 at *
               generalize holdB A B C p = x4 at *
               cases x1 <;> cases x2 <;> cases x3 <;> cases x4 <;> simp_all
             refine ⟨l.length - (k + 1), by omega, ?_⟩
             refine Into_id (e0 := e68 l c (m + 1)) (h0 := h68 l A B C) (n0 := 2) ⟨k + 1, m + 1, by omega, hlt, rfl, fun q hq => ?_, rfl, rfl, rfl⟩ ?_ ?_ (by decide)
             · by_cases hqk : q = k
               · subst hqk
                 rw [hpk]
                 exact hcl
               · exact hb q (by omega)
             · unfold e68
               ((repeat' (refine List.forall_mem_cons.2 ⟨⟨rfl, ?_⟩, ?_⟩; (first | exact scT_g rfl | exact ⟨by decide, rfl⟩ | exact ⟨by decide, fun h => (by cases h)⟩))); exact fun _ h => (by cases h))
             · unfold h68
               ((repeat' (refine List.forall_mem_cons.2 ⟨⟨Nat.le_of_ble_eq_true rfl, _, rfl, ?_⟩, ?_⟩; (first | exact ObjRen_g (flat_g _ _) | exact ObjRen_j rfl rfl))); exact fun _ h => (by cases h)))
          | trace_state
      · have hge : k = l.length := by simp only [cA_lt, cA_num, decide_eq_false_iff_not] at g1; omega
        subst hge
        (conv => whnf)
        rw [earB_yes hpos hb]
end Go.Aw
