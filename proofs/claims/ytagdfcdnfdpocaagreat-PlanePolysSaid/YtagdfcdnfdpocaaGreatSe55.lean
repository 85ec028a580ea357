/-
  Changed lists: what is asked; the reference's. No condition.
-/
import Derived.Test.YtagdfcdnfdpocaaGreatSe54
import Derived.Test.YtagdfcdnfdpocaaGreatSe37
set_option linter.unusedSimpArgs false
set_option linter.unusedVariables false
noncomputable section
namespace Go.Aw
set_option maxRecDepth 100000
def chgO (l : List (Int × Int)) (bad : Bool) (F : Int × Int → Int × Int) : List (Int × Int) := if l.length ≤ 400 ∧ l.all rightS = true ∧ bad = false ∧ (l.map F).all rightS = true then l.map F else []
def chgE (l : List (Int × Int)) (bad : Bool) (F : Int × Int → Int × Int) : Int := if 400 < l.length then 2 else if l.all rightS = true ∧ bad = false ∧ (l.map F).all rightS = true then 0 else 1
theorem chg_limit {l : List (Int × Int)} {bad : Bool} {F : Int × Int → Int × Int} (h : 400 < l.length) : chgO l bad F = [] ∧ chgE l bad F = 2 := by
  rw [chgO, chgE, if_neg (by omega), if_pos h]
  exact ⟨rfl, rfl⟩
theorem chg_arg {l : List (Int × Int)} {bad : Bool} {F : Int × Int → Int × Int} (h : ¬ 400 < l.length) (h2 : ¬ (l.all rightS = true ∧ bad = false ∧ (l.map F).all rightS = true)) : chgO l bad F = [] ∧ chgE l bad F = 1 := by
  rw [chgO, chgE, if_neg (fun h3 => h2 h3.2), if_neg h, if_neg h2]
  exact ⟨rfl, rfl⟩
theorem chg_ok {l : List (Int × Int)} {bad : Bool} {F : Int × Int → Int × Int} (h : ¬ 400 < l.length) (h2 : l.all rightS = true ∧ bad = false ∧ (l.map F).all rightS = true) : chgO l bad F = l.map F ∧ chgE l bad F = 0 := by
  rw [chgO, chgE, if_pos ⟨by omega, h2⟩, if_neg h, if_pos h2]
  exact ⟨rfl, rfl⟩
def outI (n : Int) : Bool := decide (n < -20000) || decide (20000 < n)
def affF (a b c d : Int) (p : Int × Int) : Int × Int := (a * p.1 + b, c * p.2 + d)
def S92 (l : List (Int × Int)) : List Value → Option (Bool × List (Int × Int) × Option Int)
  | [.int .i64 a, .int .i64 b, .int .i64 c, .int .i64 d] => some (decide (l.length ≤ 1000000000), chgO l ([a, b, c, d].any outI) (affF a b c d), some (chgE l ([a, b, c, d].any outI) (affF a b c d)))
  | _ => none
theorem S92_inv {l : List (Int × Int)} {r : List Value} {out : List (Int × Int)} {e : Option Int} (hs : S92 l r = some (true, out, e)) : ∃ a b c d, r = [iv a, iv b, iv c, iv d] ∧ l.length ≤ 1000000000 ∧ out = chgO l ([a, b, c, d].any outI) (affF a b c d) ∧ e = some (chgE l ([a, b, c, d].any outI) (affF a b c d)) := by
  unfold S92 at hs
  split at hs
  · rename_i a b c d
    injection hs with hs
    injection hs with h1 h2
    injection h2 with h2 h3
    exact ⟨a, b, c, d, rfl, by simpa using h1, h2.symm, h3.symm⟩
  · cases hs
theorem Yields_no {α : Type} (E : El α) {e : Option Int} {h : Heap} {nx : Nat} : Yields E [] e (wrapV e (.slice none 0 0)) h nx := rfl
def atI (l : List Int) (i : Nat) : Int := l.getD i 0
theorem getI (l : List Int) {i o : Nat} (hi : i < l.length) (ho : o = i) : nth (flat elI.fl l) o = some (iv (atI l i)) := by
  have : atI l i = l[i] := by
    unfold atI
    rw [List.getD_eq_getElem?_getD, List.getElem?_eq_getElem hi]
    rfl
  rw [this]
  exact nth_flat elI l (k := 0) hi rfl (by decide) (by simp [ho, elI])
def e92a (l : List (Int × Int)) (cc : Nat) (a b c d j : Int) : List (Nat × Value) := [(0, .slice (some ⟨0, 0, none⟩) l.length cc), (1, iv a), (2, iv b), (3, iv c), (4, iv d), (29, .slice (some ⟨1, 0, none⟩) 4 4), (30, iv 4), (31, iv j)]
def h92a (l : List (Int × Int)) (ns : List Int) : Heap := [(0, .cells false true 2 (flat elP.fl l)), (1, .cells true false 1 (flat elI.fl ns))]
def e92b (l : List (Int × Int)) (cc : Nat) (a b c d : Int) (v : Value) (j : Int) : List (Nat × Value) := [(0, .slice (some ⟨0, 0, none⟩) l.length cc), (1, iv a), (2, iv b), (3, iv c), (4, iv d), (15, v), (16, iv j)]
def h92b (l out : List (Int × Int)) : Heap := [(0, .cells false true 2 (flat elP.fl l)), (1, .cells true false 2 (flat elP.fl out))]
theorem take_map_next {l : List (Int × Int)} {i : Nat} (h : i < l.length) (F : Int × Int → Int × Int) : (l.take (i + 1)).map F = (l.take i).map F ++ [F (at2 l i)] := by
  rw [List.take_add_one, List.getElem?_eq_getElem h, at2_eq h, List.map_append]
  rfl
def X92 : Nat × XF := (92, rfX elP elP S92)
attribute [local irreducible] chgO chgE in
theorem x92 : XOK Go.Proofs.Tryz.prog X92.1 X92.2 := rfX_ok elP elP (s := S92) (f := 92) (body_calls (xl := [X80]) (.cons x80 .nil)) fun l r out e hs => by
  obtain ⟨a, b, c, d, rfl, hlen, rfl, rfl⟩ := S92_inv hs
  refine ⟨rfl, fun cc => ?_⟩
  clear hs
  ((conv => whnf); refine bm (fun h1 => ?_) (fun h1 => ?_))
  · (conv => whnf)
    have h400 : 400 < l.length := by simp only [cA_lt, cA_num, decide_eq_true_eq] at h1; omega
    rw [(chg_limit h400).1, (chg_limit h400).2]
    rfl
  · have h400 : ¬ 400 < l.length := by simp only [cA_lt, cA_num, decide_eq_false_iff_not] at h1; omega
    (conv => whnf)
    refine ⟨l, LsAt_own elP rfl, ?_⟩
    ((conv => whnf); refine bm (fun h2 => ?_) (fun h2 => ?_))
    · ((conv => whnf); refine bm (fun h3 => ?_) (fun h3 => ?_))
      · (conv => whnf)
        have hna : ¬ (l.all rightS = true ∧ [a, b, c, d].any outI = false ∧ (l.map (affF a b c d)).all rightS = true) := by
          simp only [cA_notB, Bool.not_eq_true'] at h3
          rw [h3]
          exact fun h => by cases h.1
        rw [(chg_arg h400 hna).1, (chg_arg h400 hna).2]
        rfl
      · have hall : l.all rightS = true := by simpa only [cA_notB, Bool.not_eq_false'] using h3
        obtain ⟨ns, hns⟩ : ∃ ns : List Int, ns = [a, b, c, d] := ⟨_, rfl⟩
        have hn4 : ns.length = 4 := by rw [hns]; rfl
        (conv => whnf)
        refine ⟨fun n e h nx => ∃ (i : Nat) (j : Int), j = i ∧ i ≤ 4 ∧ n = 4 - i ∧ ns.any outI = (ns.drop i).any outI ∧ e = e92a l cc a b c d j ∧ h = h92a l ns ∧ nx = 2, ⟨4, ?_⟩, ?_⟩
        · rw [hns]
          refine Into_id (e0 := e92a l cc a b c d 0) (h0 := h92a l [a, b, c, d]) (n0 := 2) ⟨0, 0, rfl, Nat.zero_le _, rfl, rfl, rfl, rfl, rfl⟩ ?_ ?_ (by decide)
          · unfold e92a
            ((repeat' (refine List.forall_mem_cons.2 ⟨⟨rfl, ?_⟩, ?_⟩; (first | exact scT_g rfl | exact ⟨by decide, rfl⟩ | exact ⟨by decide, fun h => (by cases h)⟩))); exact fun _ h => (by cases h))
          · unfold h92a
            ((repeat' (refine List.forall_mem_cons.2 ⟨⟨Nat.le_of_ble_eq_true rfl, _, rfl, ?_⟩, ?_⟩; (first | exact ObjRen_g (flat_g _ _) | exact ObjRen_j rfl rfl))); exact fun _ h => (by cases h))
        · rintro n e h nx ⟨i, j, hj, hi, rfl, hb, rfl, rfl, rfl⟩
          unfold e92a h92a
          ((conv => whnf); refine bm (fun g1 => ?_) (fun g1 => ?_))
          · have hlt : i < ns.length := by simp [cfgS, std] at g1; omega
            have hd : ns.drop i = atI ns i :: ns.drop (i + 1) := by
              unfold atI
              rw [List.getD_eq_getElem?_getD, List.getElem?_eq_getElem hlt]
              exact List.drop_eq_getElem_cons hlt
            rw [hd, List.any_cons] at hb
            ((conv => whnf); refine bm (fun g2 => ?_) (fun g2 => ?_))
            · (conv => whnf)
              refine boV (getI ns hlt ?_) ?_
              · simp [cfgS, std]; omega
              repeat' ((conv => whnf); refine bm (fun g => ?_) (fun g => ?_))
              all_goals (conv => whnf)
              all_goals (simp only [cA_lt, cA_eqB, cA_add, cA_fits, fitsK, beq_iff_eq, beq_eq_false_iff_ne, ne_eq, Bool.not_eq_false, decide_eq_true_eq, decide_eq_false_iff_not] at *)
              all_goals first
                | (have hbad : [a, b, c, d].any outI = true := by
                     rw [← hns, hb]
                     simp only [outI, Bool.or_eq_true, decide_eq_true_eq]
                     omega
                   rw [(chg_arg (F := affF a b c d) h400 (fun h => by rw [hbad] at h; cases h.2.1)).1, (chg_arg (F := affF a b c d) h400 (fun h => by rw [hbad] at h; cases h.2.1)).2]
                   rfl)
                | (refine ⟨4 - (i + 1), by omega, ?_⟩
                   refine Into_id (e0 := e92a l cc a b c d (j + 1)) (h0 := h92a l ns) (n0 := 2) ⟨i + 1, j + 1, by omega, by omega, rfl, ?_, rfl, rfl, rfl⟩ ?_ ?_ (by decide)
                   · rw [hb]
                     have : outI (atI ns i) = false := by
                       simp only [outI, Bool.or_eq_false_iff, decide_eq_false_iff_not]
                       omega
                     rw [this, Bool.false_or]
                   · unfold e92a
                     ((repeat' (refine List.forall_mem_cons.2 ⟨⟨rfl, ?_⟩, ?_⟩; (first | exact scT_g rfl | exact ⟨by decide, rfl⟩ | exact ⟨by decide, fun h => (by cases h)⟩))); exact fun _ h => (by cases h))
                   · unfold h92a
                     ((repeat' (refine List.forall_mem_cons.2 ⟨⟨Nat.le_of_ble_eq_true rfl, _, rfl, ?_⟩, ?_⟩; (first | exact ObjRen_g (flat_g _ _) | exact ObjRen_j rfl rfl))); exact fun _ h => (by cases h)))
                | (exfalso; simp only [Bool.and_eq_false_iff, decide_eq_false_iff_not] at *; omega)
                | trace_state
            · exfalso; simp only [cA_lt, cA_le, cA_andB, cA_num, Bool.eq_false_iff, ne_eq, Bool.and_eq_true, decide_eq_true_eq] at g1 g2; omega
          · have hge : i = ns.length := by simp [cfgS, std] at g1; omega
            subst hge
            rw [List.drop_length] at hb
            have hbad : [a, b, c, d].any outI = false := by rw [← hns, hb]; rfl
            have hab : (-20000 ≤ a ∧ a ≤ 20000) ∧ (-20000 ≤ b ∧ b ≤ 20000) ∧ (-20000 ≤ c ∧ c ≤ 20000) ∧ (-20000 ≤ d ∧ d ≤ 20000) := by
              simp only [List.any_cons, List.any_nil, outI, Bool.or_eq_false_iff, decide_eq_false_iff_not] at hbad
              omega
            clear hb g1 hi hj hns hn4
            (conv => whnf)
            refine ⟨fun n e h nx => ∃ (i : Nat) (j : Int), j = i ∧ i ≤ l.length ∧ n = l.length - i ∧
              ((i = 0 ∧ e = e92b l cc a b c d (.slice none 0 0) j ∧ h = hP l ∧ nx = 1) ∨ (0 < i ∧ e = e92b l cc a b c d (.slice (some ⟨1, 0, none⟩) i i) j ∧ h = h92b l ((l.take i).map (affF a b c d)) ∧ nx = 2)), ⟨l.length, ?_⟩, ?_⟩
            · refine Into_id (e0 := e92b l cc a b c d (.slice none 0 0) 0) (h0 := hP l) (n0 := 1) ⟨0, 0, rfl, Nat.zero_le _, rfl, .inl ⟨rfl, rfl, rfl, rfl⟩⟩ ?_ ?_ (by decide)
              · unfold e92b
                ((repeat' (refine List.forall_mem_cons.2 ⟨⟨rfl, ?_⟩, ?_⟩; (first | exact scT_g rfl | exact ⟨by decide, rfl⟩ | exact ⟨by decide, fun h => (by cases h)⟩))); exact fun _ h => (by cases h))
              · unfold hP
                ((repeat' (refine List.forall_mem_cons.2 ⟨⟨Nat.le_of_ble_eq_true rfl, _, rfl, ?_⟩, ?_⟩; (first | exact ObjRen_g (flat_g _ _) | exact ObjRen_j rfl rfl))); exact fun _ h => (by cases h))
            · rintro n e h nx ⟨i, j, hj, hi, rfl, ⟨hi0, rfl, rfl, rfl⟩ | ⟨hip, rfl, rfl, rfl⟩⟩
              · subst hi0
                unfold e92b hP
                ((conv => whnf); refine bm (fun g1 => ?_) (fun g1 => ?_))
                · have hlt : 0 < l.length := by simp [cfgS, std] at g1; omega
                  have hr := right_low (all_at hall hlt)
                  have m1 := mulB (a := a) (b := (at2 l 0).1) (A := 20000) (B := 10000) (by omega) (by omega) (by omega) (by omega)
                  have m2 := mulB (a := c) (b := (at2 l 0).2) (A := 20000) (B := 10000) (by omega) (by omega) (by omega) (by omega)
                  repeat' first
                    | (((conv => whnf); refine bm (fun g => ?_) (fun g => ?_)))
                    | ((conv => whnf)
                       refine boV (pt_x' l hlt ?_) ?_
                       · simp [cfgS, std]; omega)
                    | ((conv => whnf)
                       refine boV (pt_y' l hlt ?_) ?_
                       · simp [cfgS, std]; omega)
                  all_goals (conv => whnf)
                  · refine ⟨l.length - 1, by omega, ?_⟩
                    refine Into_mv (e0 := e92b l cc a b c d (.slice (some ⟨1, 0, none⟩) 1 1) (j + 1)) (h0 := h92b l [affF a b c d (at2 l 0)]) (n0 := 2) 1 2 (by decide) (by decide)
                      ⟨1, j + 1, by omega, by omega, rfl, .inr ⟨Nat.one_pos, rfl, by rw [take_map_next hlt]; rfl, rfl⟩⟩ ?_ ?_ ?_
                    · unfold e92b
                      ((repeat' (refine List.forall_mem_cons.2 ⟨⟨rfl, ?_⟩, ?_⟩; (first | exact scT_g rfl | exact ⟨by decide, rfl⟩ | exact ⟨by decide, fun h => (by cases h)⟩))); exact fun _ h => (by cases h))
                    · unfold h92b
                      ((repeat' (refine List.forall_mem_cons.2 ⟨⟨Nat.le_of_ble_eq_true rfl, _, rfl, ?_⟩, ?_⟩; (first | exact ObjRen_g (flat_g _ _) | exact ObjRen_j rfl rfl))); exact fun _ h => (by cases h))
                    · unfold h92b
                      ((repeat' (refine List.forall_mem_cons.2 ⟨?_, ?_⟩; (intro _ h; revert h; simp))); exact fun _ h => (by cases h))
                  all_goals (exfalso; simp only [cA_mul, cA_add, cA_lt, cA_le, cA_andB, cA_num, cA_fits, fitsK, Bool.eq_false_iff, ne_eq, Bool.and_eq_true, decide_eq_true_eq] at g g1; omega)
                · have hge : l = [] := by
                    simp only [cA_lt, cA_num, decide_eq_false_iff_not] at g1
                    exact List.length_eq_zero_iff.1 (by omega)
                  subst hge
                  (conv => whnf)
                  refine ⟨[], ⟨rfl, rfl, rfl⟩, ?_⟩
                  (conv => whnf)
                  rw [(chg_ok h400 ⟨hall, hbad, rfl⟩).1, (chg_ok h400 ⟨hall, hbad, rfl⟩).2]
                  rfl
              · unfold e92b h92b
                have hll : ((l.take i).map (affF a b c d)).length = i := by rw [List.length_map, List.length_take]; omega
                ((conv => whnf); refine bm (fun g1 => ?_) (fun g1 => ?_))
                · have hlt : i < l.length := by simp [cfgS, std] at g1; omega
                  have hr := right_low (all_at hall hlt)
                  have m1 := mulB (a := a) (b := (at2 l i).1) (A := 20000) (B := 10000) (by omega) (by omega) (by omega) (by omega)
                  have m2 := mulB (a := c) (b := (at2 l i).2) (A := 20000) (B := 10000) (by omega) (by omega) (by omega) (by omega)
                  repeat' first
                    | (((conv => whnf); refine bm (fun g => ?_) (fun g => ?_)))
                    | ((conv => whnf)
                       refine boV (pt_x' l hlt ?_) ?_
                       · simp [cfgS, std]; omega)
                    | ((conv => whnf)
                       refine boV (pt_y' l hlt ?_) ?_
                       · simp [cfgS, std]; omega)
                  all_goals (conv => whnf)
                  · exfalso; rename_i gc _; have := Nat.le_of_ble_eq_true gc; omega
                  · exfalso; rename_i gc _; have := Nat.le_of_ble_eq_true gc; omega
                  · exfalso; rename_i gc; have := Nat.le_of_ble_eq_true gc; omega
                  · refine ⟨l.length - (i + 1), by omega, ?_⟩
                    refine Into_mv (e0 := e92b l cc a b c d (.slice (some ⟨1, 0, none⟩) (i + 1) (i + 1)) (j + 1)) (h0 := h92b l ((l.take i).map (affF a b c d) ++ [affF a b c d (at2 l i)])) (n0 := 2) 1 3 (by decide) (by decide)
                      ⟨i + 1, j + 1, by omega, by omega, rfl, .inr ⟨Nat.succ_pos _, rfl, by rw [take_map_next hlt]; rfl, rfl⟩⟩ ?_ ?_ ?_
                    · unfold e92b
                      ((repeat' (refine List.forall_mem_cons.2 ⟨⟨rfl, ?_⟩, ?_⟩; (first | exact scT_g rfl | exact ⟨by decide, rfl⟩ | exact ⟨by decide, fun h => (by cases h)⟩))); exact fun _ h => (by cases h))
                    · unfold h92b
                      have hgrow := flat_grow ((l.take i).map (affF a b c d)) (affF a b c d (at2 l i))
                      rw [hll] at hgrow
                      ((repeat' (refine List.forall_mem_cons.2 ⟨⟨Nat.le_of_ble_eq_true rfl, _, rfl, ?_⟩, ?_⟩; (first | exact (ObjRen_j (flat_g elP _) hgrow) | exact ObjRen_g (flat_g _ _) | exact ObjRen_j rfl rfl))); exact fun _ h => (by cases h))
                    · unfold h92b
                      ((repeat' (refine List.forall_mem_cons.2 ⟨?_, ?_⟩; (intro _ h; revert h; simp))); exact fun _ h => (by cases h))
                  · exfalso; simp only [cA_mul, cA_add, cA_lt, cA_le, cA_andB, cA_num, cA_fits, fitsK, Bool.eq_false_iff, ne_eq, Bool.and_eq_true, decide_eq_true_eq] at g g1; omega
                  · exfalso
                    have hf : (flat elP.fl ((l.take i).map (affF a b c d))).length = i * 2 := by rw [flat_len, hll]; rfl
                    simp only [cA_andB, hf] at g
                    revert g
                    simp
                    omega
                  all_goals (exfalso; simp only [cA_mul, cA_add, cA_lt, cA_le, cA_andB, cA_num, cA_fits, fitsK, Bool.eq_false_iff, ne_eq, Bool.and_eq_true, decide_eq_true_eq] at g g1; omega)
                · have hge : i = l.length := by simp [cfgS, std] at g1; omega
                  subst hge
                  rw [List.take_length]
                  have hmap : 0 < (l.map (affF a b c d)).length := by rw [List.length_map]; exact hip
                  (conv => whnf)
                  refine ⟨l.map (affF a b c d), ⟨by rw [List.length_map], _, _, _, _, rfl, by rw [List.drop_zero, List.take_length]⟩, ?_⟩
                  ((conv => whnf); refine bm (fun g2 => ?_) (fun g2 => ?_))
                  · ((conv => whnf); refine bm (fun g3 => ?_) (fun g3 => ?_))
                    · (conv => whnf)
                      have hna : ¬ (l.all rightS = true ∧ [a, b, c, d].any outI = false ∧ (l.map (affF a b c d)).all rightS = true) := by
                        simp only [cA_notB, Bool.not_eq_true'] at g3
                        rw [g3]
                        exact fun h => by cases h.2.2
                      rw [(chg_arg h400 hna).1, (chg_arg h400 hna).2]
                      rfl
                    · (conv => whnf)
                      have hall2 : (l.map (affF a b c d)).all rightS = true := by simpa only [cA_notB, Bool.not_eq_false'] using g3
                      rw [(chg_ok h400 ⟨hall, hbad, hall2⟩).1, (chg_ok h400 ⟨hall, hbad, hall2⟩).2]
                      have hy := Yields_own (q := 1) (h := h92b l (l.map (affF a b c d))) (nx := 2) (e := some 0) elP hmap rfl
                      rw [List.length_map] at hy
                      exact hy
                  · exact absurd (show (l.map (affF a b c d)).length ≤ 1000000000 by rw [List.length_map]; exact hlen) (by simpa using g2)
    · exact absurd hlen (by simpa using h2)
end Go.Aw
