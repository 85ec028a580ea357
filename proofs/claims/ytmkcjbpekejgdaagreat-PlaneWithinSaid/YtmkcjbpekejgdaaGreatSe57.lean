/-
  Changed lists: the program's. No condition.
-/
import Derived.Test.YtmkcjbpekejgdaaGreatSeI
set_option linter.unusedSimpArgs false
set_option linter.unusedVariables false
noncomputable section
namespace Go.Aw
set_option maxRecDepth 100000
def bodyM (xl : List (Nat × XF)) (vs : List Nat) : VC := vbody cfgS none (mixC cfgS vs (look xl)) noY
theorem bodyM_calls {xl : List (Nat × XF)} (h : XLOK xl) (vs : List Nat) : CallsOK Go.Proofs.Tryz.prog (bodyM xl vs) := vbody_ok cfgS_ok (mixC_ok cfgS_ok h.look) noY_ok (mixC_det cfgS_ok h.look) noY_det none
def movF (x y : Int) (p : Int × Int) : Int × Int := (p.1 + x, p.2 + y)
def mirF (x : Int) (p : Int × Int) : Int × Int := (x - p.1, p.2)
def enlF (x : Int) (p : Int × Int) : Int × Int := (x * p.1, x * p.2)
theorem movF_aff (x y : Int) : affF 1 x 1 y = movF x y := by
  funext p
  unfold affF movF
  rw [Int.one_mul, Int.one_mul]
theorem mirF_aff (x : Int) : affF (-1) x 1 0 = mirF x := by
  funext p
  unfold affF mirF
  rw [Int.one_mul, Int.add_zero, Int.neg_mul, Int.one_mul]
  congr 1
  omega
theorem enlF_aff (x : Int) : affF x 0 x 0 = enlF x := by
  funext p
  unfold affF enlF
  rw [Int.add_zero, Int.add_zero]
theorem any_move (x y : Int) : [1, x, 1, y].any outI = [x, y].any outI := by
  have h1 : outI 1 = false := rfl
  simp only [List.any_cons, List.any_nil, h1, Bool.false_or]
theorem any_mirror (x : Int) : [-1, x, 1, 0].any outI = [x].any outI := by
  have h1 : outI 1 = false := rfl
  have h2 : outI (-1) = false := rfl
  have h3 : outI 0 = false := rfl
  simp only [List.any_cons, List.any_nil, h1, h2, h3, Bool.false_or, Bool.or_false]
theorem any_enl (x : Int) : [x, 0, x, 0].any outI = [x].any outI := by
  have h3 : outI 0 = false := rfl
  simp only [List.any_cons, List.any_nil, h3, Bool.false_or, Bool.or_false, Bool.or_self]
theorem cell1 (n : Int) : (Value.int .i64 n).cells.toList = [iv n] := rfl
def fnC : Value := .func (.func 73) #[] #[.pointer (some ⟨1, 0, none⟩), .pointer (some ⟨2, 0, none⟩)]
def fnD (f : Nat) : Value := .func (.func f) #[] #[.pointer (some ⟨1, 0, none⟩)]
theorem ren_fnC {ρ : Nat → Nat} (h1 : ρ 1 = 1) (h2 : ρ 2 = 2) : ren ρ fnC = fnC := by
  simp [fnC, ren, tr, trA, trS, trP, trFn, at0, h1, h2]
theorem ren_fnD {ρ : Nat → Nat} (h1 : ρ 1 = 1) (f : Nat) : ren ρ (fnD f) = fnD f := by
  simp [fnD, ren, tr, trA, trS, trP, trFn, at0, h1]
theorem nm_fnC {n : Nat} (h : 2 < n) : nmT n fnC := by
  refine ⟨trivial, fun v hv => ?_⟩
  simp at hv
  rcases hv with rfl | rfl
  · exact ⟨show 1 < n by omega, rfl⟩
  · exact ⟨show 2 < n by omega, rfl⟩
theorem nm_fnD {n : Nat} (h : 1 < n) (f : Nat) : nmT n (fnD f) := by
  refine ⟨trivial, fun v hv => ?_⟩
  simp at hv
  subst hv
  exact ⟨h, rfl⟩
def hA0 (l : List (Int × Int)) (x y : Int) : Heap := [(0, .cells false true 2 (flat elP.fl l)), (1, .cells false false 1 [iv x]), (2, .cells false false 1 [iv y]), (3, .cells false false 1 [iv x, iv y])]
def hB0 (l : List (Int × Int)) (x : Int) : Heap := [(0, .cells false true 2 (flat elP.fl l)), (1, .cells false false 1 [iv x]), (2, .cells false false 1 [iv x])]
def hA1 (l : List (Int × Int)) (x y : Int) (o : List (Int × Int)) : Heap := [(0, .cells false true 2 (flat elP.fl l)), (1, .cells false false 1 [iv x]), (2, .cells false false 1 [iv y]), (4, .cells true false 2 (flat elP.fl o))]
def hB1 (l : List (Int × Int)) (x : Int) (o : List (Int × Int)) : Heap := [(0, .cells false true 2 (flat elP.fl l)), (1, .cells false false 1 [iv x]), (3, .cells true false 2 (flat elP.fl o))]
def hA2 (l : List (Int × Int)) (x y : Int) : Heap := [(0, .cells false true 2 (flat elP.fl l)), (1, .cells false false 1 [iv x]), (2, .cells false false 1 [iv y])]
def hB2 (l : List (Int × Int)) (x : Int) : Heap := [(0, .cells false true 2 (flat elP.fl l)), (1, .cells false false 1 [iv x])]
def e90 (l : List (Int × Int)) (c : Nat) (fn v : Value) (j : Int) : List (Nat × Value) := [(2, fn), (8, v), (21, .slice (some ⟨0, 0, none⟩) l.length c), (22, iv l.length), (23, iv j)]
def T90 : List Value → Heap → Nat → List (Int × Int) → Option Int → Prop := fun args0 h0 n0 out e => ∃ (l : List (Int × Int)) (c : Nat), l.length ≤ 1000000000 ∧
  ((∃ x y, args0 = [.slice (some ⟨0, 0, none⟩) l.length c, .slice (some ⟨3, 0, none⟩) 2 2, fnC] ∧ h0 = hA0 l x y ∧ n0 = 4 ∧ out = chgO l ([x, y].any outI) (movF x y) ∧ e = some (chgE l ([x, y].any outI) (movF x y))) ∨
   (∃ x, args0 = [.slice (some ⟨0, 0, none⟩) l.length c, .slice (some ⟨2, 0, none⟩) 1 1, fnD 74] ∧ h0 = hB0 l x ∧ n0 = 3 ∧ out = chgO l ([x].any outI) (mirF x) ∧ e = some (chgE l ([x].any outI) (mirF x))) ∨
   (∃ x, args0 = [.slice (some ⟨0, 0, none⟩) l.length c, .slice (some ⟨2, 0, none⟩) 1 1, fnD 75] ∧ h0 = hB0 l x ∧ n0 = 3 ∧ out = chgO l ([x].any outI) (enlF x) ∧ e = some (chgE l ([x].any outI) (enlF x))))
def X90 : Nat × XF := (72, yOf elP T90)
attribute [local irreducible] chgO chgE in
theorem c90A (l : List (Int × Int)) (c : Nat) (hlen : l.length ≤ 1000000000) (x y : Int) : bodyM [X54, X129] [73, 74, 75] 72 [.slice (some ⟨0, 0, none⟩) l.length c, .slice (some ⟨3, 0, none⟩) 2 2, fnC] (hA0 l x y) 4 (Yields elP (chgO l ([x, y].any outI) (movF x y)) (some (chgE l ([x, y].any outI) (movF x y)))) := by
  unfold hA0 fnC
  ((conv => whnf); refine bm (fun h1 => ?_) (fun h1 => ?_))
  · (conv => whnf)
    have h400 : 400 < l.length := by simp only [cA_lt, cA_num, decide_eq_true_eq] at h1; omega
    rw [(chg_limit h400).1, (chg_limit h400).2]
    rfl
  · have h400 : ¬ 400 < l.length := by simp only [cA_lt, cA_num, decide_eq_false_iff_not] at h1; omega
    (conv => whnf)
    refine ⟨l, LsAt_own elP rfl, ?_⟩
    ((conv => whnf); refine bm (fun h2 => ?_) (fun h2 => ?_))
    · repeat' first
        | (((conv => whnf); refine bm (fun g => ?_) (fun g => ?_)))
        | ((conv => whnf)
           refine Exists.intro [x, y] (And.intro ⟨rfl, _, _, _, _, rfl, rfl⟩ ?_))
      all_goals (conv => whnf)
      · have hna : ¬ (l.all rightS = true ∧ [x, y].any outI = false ∧ (l.map (movF x y)).all rightS = true) := fun h => by
          rw [show [x, y].any outI = true from g] at h
          cases h.2.1
        rw [(chg_arg h400 hna).1, (chg_arg h400 hna).2]
        rfl
      · rename_i ga
        have hall : l.all rightS = true := by
          simp only [cA_eqB, cA_notB, beq_iff_eq, Bool.not_eq_false'] at ga
          exact ga
        have hbad : [x, y].any outI = false := g
        have hxy : (-20000 ≤ x ∧ x ≤ 20000) ∧ (-20000 ≤ y ∧ y ≤ 20000) := by
          simp only [List.any_cons, List.any_nil, outI, Bool.or_eq_false_iff, decide_eq_false_iff_not] at hbad
          omega
        refine ⟨fun n e h nx => ∃ (i : Nat) (j : Int), j = i ∧ i ≤ l.length ∧ n = l.length - i ∧
          ((i = 0 ∧ e = e90 l c fnC (.slice none 0 0) j ∧ h = hA2 l x y ∧ nx = 4) ∨ (0 < i ∧ e = e90 l c fnC (.slice (some ⟨4, 0, none⟩) i i) j ∧ h = hA1 l x y ((l.take i).map (movF x y)) ∧ nx = 5)), ⟨l.length, ?_⟩, ?_⟩
        · refine Into_id (e0 := e90 l c fnC (.slice none 0 0) 0) (h0 := hA2 l x y) (n0 := 4) ⟨0, 0, rfl, Nat.zero_le _, rfl, .inl ⟨rfl, rfl, rfl, rfl⟩⟩ ?_ ?_ (by decide)
          · unfold e90
            refine List.forall_mem_cons.2 ⟨⟨by rw [show ren _ fnC = fnC from ren_fnC rfl rfl]; rfl, nm_fnC (by decide)⟩, ?_⟩
            ((repeat' (refine List.forall_mem_cons.2 ⟨⟨rfl, ?_⟩, ?_⟩; (first | exact scT_g rfl | exact ⟨by decide, rfl⟩ | exact ⟨by decide, fun h => (by cases h)⟩))); exact fun _ h => (by cases h))
          · unfold hA2
            ((repeat' (refine List.forall_mem_cons.2 ⟨⟨Nat.le_of_ble_eq_true rfl, _, rfl, ?_⟩, ?_⟩; (first | exact ObjRen_g (flat_g _ _) | exact ObjRen_j rfl rfl))); exact fun _ h => (by cases h))
        · rintro n e h nx ⟨i, j, hj, hi, rfl, ⟨hi0, rfl, rfl, rfl⟩ | ⟨hip, rfl, rfl, rfl⟩⟩
          · subst hi0
            unfold e90 hA2 fnC
            ((conv => whnf); refine bm (fun g1 => ?_) (fun g1 => ?_))
            · have hlt : 0 < l.length := by simp [cfgS, std] at g1; omega
              have hr := right_low (all_at hall hlt)
              repeat' first
                | (((conv => whnf); refine bm (fun g => ?_) (fun g => ?_)))
                | ((conv => whnf)
                   refine boL (getP l hlt ?_) ?_
                   · simp [cfgS, std]; omega)
              all_goals (conv => whnf)
              · refine ⟨l.length - 1, by omega, ?_⟩
                refine Into_mv (e0 := e90 l c fnC (.slice (some ⟨4, 0, none⟩) 1 1) (j + 1)) (h0 := hA1 l x y [movF x y (at2 l 0)]) (n0 := 5) 4 8 (by decide) (by decide)
                  ⟨1, j + 1, by omega, by omega, rfl, .inr ⟨Nat.one_pos, rfl, by rw [take_map_next hlt]; rfl, rfl⟩⟩ ?_ ?_ ?_
                · unfold e90
                  refine List.forall_mem_cons.2 ⟨⟨by rw [show ren _ fnC = fnC from ren_fnC rfl rfl]; rfl, nm_fnC (by decide)⟩, ?_⟩
                  ((repeat' (refine List.forall_mem_cons.2 ⟨⟨rfl, ?_⟩, ?_⟩; (first | exact scT_g rfl | exact ⟨by decide, rfl⟩ | exact ⟨by decide, fun h => (by cases h)⟩))); exact fun _ h => (by cases h))
                · unfold hA1
                  ((repeat' (refine List.forall_mem_cons.2 ⟨⟨Nat.le_of_ble_eq_true rfl, _, rfl, ?_⟩, ?_⟩; (first | exact ObjRen_g (flat_g _ _) | exact ObjRen_j rfl rfl))); exact fun _ h => (by cases h))
                · unfold hA1
                  ((repeat' (refine List.forall_mem_cons.2 ⟨?_, ?_⟩; (intro _ h; revert h; simp))); exact fun _ h => (by cases h))
              all_goals (exfalso; simp only [cA_mul, cA_add, cA_sub, cA_lt, cA_le, cA_andB, cA_num, cA_fits, fitsK, Bool.eq_false_iff, ne_eq, Bool.and_eq_true, decide_eq_true_eq] at g g1; omega)
            · have hge : l = [] := by
                simp only [cA_lt, cA_num, decide_eq_false_iff_not] at g1
                exact List.length_eq_zero_iff.1 (by omega)
              subst hge
              (conv => whnf)
              refine ⟨[], ⟨rfl, rfl, rfl⟩, ?_⟩
              (conv => whnf)
              rw [(chg_ok h400 ⟨hall, hbad, rfl⟩).1, (chg_ok h400 ⟨hall, hbad, rfl⟩).2]
              rfl
          · have hll : ((l.take i).map (movF x y)).length = i := by rw [List.length_map, List.length_take]; omega
            unfold e90 hA1 fnC
            ((conv => whnf); refine bm (fun g1 => ?_) (fun g1 => ?_))
            · have hlt : i < l.length := by simp [cfgS, std] at g1; omega
              have hr := right_low (all_at hall hlt)
              repeat' first
                | (((conv => whnf); refine bm (fun g => ?_) (fun g => ?_)))
                | ((conv => whnf)
                   refine boL (getP l hlt ?_) ?_
                   · simp [cfgS, std]; omega)
              all_goals (conv => whnf)
              · exfalso; rename_i gc _; have := Nat.le_of_ble_eq_true gc; omega
              · exfalso; rename_i gc _; have := Nat.le_of_ble_eq_true gc; omega
              · exfalso; rename_i gc; have := Nat.le_of_ble_eq_true gc; omega
              · refine ⟨l.length - (i + 1), by omega, ?_⟩
                refine Into_mv (e0 := e90 l c fnC (.slice (some ⟨4, 0, none⟩) (i + 1) (i + 1)) (j + 1)) (h0 := hA1 l x y ((l.take i).map (movF x y) ++ [movF x y (at2 l i)])) (n0 := 5) 4 9 (by decide) (by decide)
                  ⟨i + 1, j + 1, by omega, by omega, rfl, .inr ⟨Nat.succ_pos _, rfl, by rw [take_map_next hlt]; rfl, rfl⟩⟩ ?_ ?_ ?_
                · unfold e90
                  refine List.forall_mem_cons.2 ⟨⟨by rw [show ren _ fnC = fnC from ren_fnC rfl rfl]; rfl, nm_fnC (by decide)⟩, ?_⟩
                  ((repeat' (refine List.forall_mem_cons.2 ⟨⟨rfl, ?_⟩, ?_⟩; (first | exact scT_g rfl | exact ⟨by decide, rfl⟩ | exact ⟨by decide, fun h => (by cases h)⟩))); exact fun _ h => (by cases h))
                · unfold hA1
                  have hgrow := flat_grow ((l.take i).map (movF x y)) (movF x y (at2 l i))
                  rw [hll] at hgrow
                  ((repeat' (refine List.forall_mem_cons.2 ⟨⟨Nat.le_of_ble_eq_true rfl, _, rfl, ?_⟩, ?_⟩; (first | exact (ObjRen_j (flat_g elP _) hgrow) | exact ObjRen_g (flat_g _ _) | exact ObjRen_j rfl rfl))); exact fun _ h => (by cases h))
                · unfold hA1
                  ((repeat' (refine List.forall_mem_cons.2 ⟨?_, ?_⟩; (intro _ h; revert h; simp))); exact fun _ h => (by cases h))
              · exfalso; simp only [cA_mul, cA_add, cA_sub, cA_lt, cA_le, cA_andB, cA_num, cA_fits, fitsK, Bool.eq_false_iff, ne_eq, Bool.and_eq_true, decide_eq_true_eq] at g g1; omega
              · exfalso
                have hf : (flat elP.fl ((l.take i).map (movF x y))).length = i * 2 := by rw [flat_len, hll]; rfl
                simp only [cA_andB, hf] at g
                revert g
                simp
                omega
              all_goals (exfalso; simp only [cA_mul, cA_add, cA_sub, cA_lt, cA_le, cA_andB, cA_num, cA_fits, fitsK, Bool.eq_false_iff, ne_eq, Bool.and_eq_true, decide_eq_true_eq] at g g1; omega)
            · have hge : i = l.length := by simp [cfgS, std] at g1; omega
              subst hge
              rw [List.take_length]
              have hmap : 0 < (l.map (movF x y)).length := by rw [List.length_map]; exact hip
              (conv => whnf)
              refine ⟨l.map (movF x y), ⟨by rw [List.length_map], _, _, _, _, rfl, by rw [List.drop_zero, List.take_length]⟩, ?_⟩
              ((conv => whnf); refine bm (fun g2 => ?_) (fun g2 => ?_))
              · ((conv => whnf); refine bm (fun g3 => ?_) (fun g3 => ?_))
                · (conv => whnf)
                  have hna : ¬ (l.all rightS = true ∧ [x, y].any outI = false ∧ (l.map (movF x y)).all rightS = true) := by
                    simp only [cA_notB, Bool.not_eq_true'] at g3
                    rw [g3]
                    exact fun h => by cases h.2.2
                  rw [(chg_arg h400 hna).1, (chg_arg h400 hna).2]
                  rfl
                · (conv => whnf)
                  have hall2 : (l.map (movF x y)).all rightS = true := by simpa only [cA_notB, Bool.not_eq_false'] using g3
                  rw [(chg_ok h400 ⟨hall, hbad, hall2⟩).1, (chg_ok h400 ⟨hall, hbad, hall2⟩).2]
                  have hy := Yields_own (q := 4) (h := hA1 l x y (l.map (movF x y))) (nx := 5) (e := some 0) elP hmap rfl
                  rw [List.length_map] at hy
                  exact hy
              · exact absurd (show (l.map (movF x y)).length ≤ 1000000000 by rw [List.length_map]; exact hlen) (by simpa using g2)
      · have hna : ¬ (l.all rightS = true ∧ [x, y].any outI = false ∧ (l.map (movF x y)).all rightS = true) := fun h => by
          simp only [cA_eqB, cA_notB, beq_eq_false_iff_ne, ne_eq, Bool.not_eq_false, Bool.not_eq_true'] at g
          rw [g] at h
          cases h.1
        rw [(chg_arg h400 hna).1, (chg_arg h400 hna).2]
        rfl
    · exact absurd hlen (by simpa using h2)

attribute [local irreducible] chgO chgE in
theorem c90B (l : List (Int × Int)) (c : Nat) (hlen : l.length ≤ 1000000000) (x : Int) : bodyM [X54, X129] [73, 74, 75] 72 [.slice (some ⟨0, 0, none⟩) l.length c, .slice (some ⟨2, 0, none⟩) 1 1, (fnD 74)] (hB0 l x) 3 (Yields elP (chgO l ([x].any outI) (mirF x)) (some (chgE l ([x].any outI) (mirF x)))) := by
  unfold hB0 fnD
  ((conv => whnf); refine bm (fun h1 => ?_) (fun h1 => ?_))
  · (conv => whnf)
    have h400 : 400 < l.length := by simp only [cA_lt, cA_num, decide_eq_true_eq] at h1; omega
    rw [(chg_limit h400).1, (chg_limit h400).2]
    rfl
  · have h400 : ¬ 400 < l.length := by simp only [cA_lt, cA_num, decide_eq_false_iff_not] at h1; omega
    (conv => whnf)
    refine ⟨l, LsAt_own elP rfl, ?_⟩
    ((conv => whnf); refine bm (fun h2 => ?_) (fun h2 => ?_))
    · repeat' first
        | (((conv => whnf); refine bm (fun g => ?_) (fun g => ?_)))
        | ((conv => whnf)
           refine Exists.intro [x] (And.intro ⟨rfl, _, _, _, _, rfl, rfl⟩ ?_))
      all_goals (conv => whnf)
      · have hna : ¬ (l.all rightS = true ∧ [x].any outI = false ∧ (l.map (mirF x)).all rightS = true) := fun h => by
          rw [show [x].any outI = true from g] at h
          cases h.2.1
        rw [(chg_arg h400 hna).1, (chg_arg h400 hna).2]
        rfl
      · rename_i ga
        have hall : l.all rightS = true := by
          simp only [cA_eqB, cA_notB, beq_iff_eq, Bool.not_eq_false'] at ga
          exact ga
        have hbad : [x].any outI = false := g
        have hxy : -20000 ≤ x ∧ x ≤ 20000 := by
          simp only [List.any_cons, List.any_nil, outI, Bool.or_eq_false_iff, decide_eq_false_iff_not] at hbad
          omega
        refine ⟨fun n e h nx => ∃ (i : Nat) (j : Int), j = i ∧ i ≤ l.length ∧ n = l.length - i ∧
          ((i = 0 ∧ e = e90 l c (fnD 74) (.slice none 0 0) j ∧ h = hB2 l x ∧ nx = 3) ∨ (0 < i ∧ e = e90 l c (fnD 74) (.slice (some ⟨3, 0, none⟩) i i) j ∧ h = hB1 l x ((l.take i).map (mirF x)) ∧ nx = 4)), ⟨l.length, ?_⟩, ?_⟩
        · refine Into_id (e0 := e90 l c (fnD 74) (.slice none 0 0) 0) (h0 := hB2 l x) (n0 := 3) ⟨0, 0, rfl, Nat.zero_le _, rfl, .inl ⟨rfl, rfl, rfl, rfl⟩⟩ ?_ ?_ (by decide)
          · unfold e90
            refine List.forall_mem_cons.2 ⟨⟨by rw [show ren _ (fnD 74) = (fnD 74) from ren_fnD rfl _]; rfl, nm_fnD (by decide) _⟩, ?_⟩
            ((repeat' (refine List.forall_mem_cons.2 ⟨⟨rfl, ?_⟩, ?_⟩; (first | exact scT_g rfl | exact ⟨by decide, rfl⟩ | exact ⟨by decide, fun h => (by cases h)⟩))); exact fun _ h => (by cases h))
          · unfold hB2
            ((repeat' (refine List.forall_mem_cons.2 ⟨⟨Nat.le_of_ble_eq_true rfl, _, rfl, ?_⟩, ?_⟩; (first | exact ObjRen_g (flat_g _ _) | exact ObjRen_j rfl rfl))); exact fun _ h => (by cases h))
        · rintro n e h nx ⟨i, j, hj, hi, rfl, ⟨hi0, rfl, rfl, rfl⟩ | ⟨hip, rfl, rfl, rfl⟩⟩
          · subst hi0
            unfold e90 hB2 fnD
            ((conv => whnf); refine bm (fun g1 => ?_) (fun g1 => ?_))
            · have hlt : 0 < l.length := by simp [cfgS, std] at g1; omega
              have hr := right_low (all_at hall hlt)
              repeat' first
                | (((conv => whnf); refine bm (fun g => ?_) (fun g => ?_)))
                | ((conv => whnf)
                   refine boL (getP l hlt ?_) ?_
                   · simp [cfgS, std]; omega)
              all_goals (conv => whnf)
              · refine ⟨l.length - 1, by omega, ?_⟩
                refine Into_mv (e0 := e90 l c (fnD 74) (.slice (some ⟨3, 0, none⟩) 1 1) (j + 1)) (h0 := hB1 l x [mirF x (at2 l 0)]) (n0 := 4) 3 7 (by decide) (by decide)
                  ⟨1, j + 1, by omega, by omega, rfl, .inr ⟨Nat.one_pos, rfl, by rw [take_map_next hlt]; rfl, rfl⟩⟩ ?_ ?_ ?_
                · unfold e90
                  refine List.forall_mem_cons.2 ⟨⟨by rw [show ren _ (fnD 74) = (fnD 74) from ren_fnD rfl _]; rfl, nm_fnD (by decide) _⟩, ?_⟩
                  ((repeat' (refine List.forall_mem_cons.2 ⟨⟨rfl, ?_⟩, ?_⟩; (first | exact scT_g rfl | exact ⟨by decide, rfl⟩ | exact ⟨by decide, fun h => (by cases h)⟩))); exact fun _ h => (by cases h))
                · unfold hB1
                  ((repeat' (refine List.forall_mem_cons.2 ⟨⟨Nat.le_of_ble_eq_true rfl, _, rfl, ?_⟩, ?_⟩; (first | exact ObjRen_g (flat_g _ _) | exact ObjRen_j rfl rfl))); exact fun _ h => (by cases h))
                · unfold hB1
                  ((repeat' (refine List.forall_mem_cons.2 ⟨?_, ?_⟩; (intro _ h; revert h; simp))); exact fun _ h => (by cases h))
              all_goals (exfalso; simp only [cA_mul, cA_add, cA_sub, cA_lt, cA_le, cA_andB, cA_num, cA_fits, fitsK, Bool.eq_false_iff, ne_eq, Bool.and_eq_true, decide_eq_true_eq] at g g1; omega)
            · have hge : l = [] := by
                simp only [cA_lt, cA_num, decide_eq_false_iff_not] at g1
                exact List.length_eq_zero_iff.1 (by omega)
              subst hge
              (conv => whnf)
              refine ⟨[], ⟨rfl, rfl, rfl⟩, ?_⟩
              (conv => whnf)
              rw [(chg_ok h400 ⟨hall, hbad, rfl⟩).1, (chg_ok h400 ⟨hall, hbad, rfl⟩).2]
              rfl
          · have hll : ((l.take i).map (mirF x)).length = i := by rw [List.length_map, List.length_take]; omega
            unfold e90 hB1 fnD
            ((conv => whnf); refine bm (fun g1 => ?_) (fun g1 => ?_))
            · have hlt : i < l.length := by simp [cfgS, std] at g1; omega
              have hr := right_low (all_at hall hlt)
              repeat' first
                | (((conv => whnf); refine bm (fun g => ?_) (fun g => ?_)))
                | ((conv => whnf)
                   refine boL (getP l hlt ?_) ?_
                   · simp [cfgS, std]; omega)
              all_goals (conv => whnf)
              · exfalso; rename_i gc _; have := Nat.le_of_ble_eq_true gc; omega
              · exfalso; rename_i gc _; have := Nat.le_of_ble_eq_true gc; omega
              · exfalso; rename_i gc; have := Nat.le_of_ble_eq_true gc; omega
              · refine ⟨l.length - (i + 1), by omega, ?_⟩
                refine Into_mv (e0 := e90 l c (fnD 74) (.slice (some ⟨3, 0, none⟩) (i + 1) (i + 1)) (j + 1)) (h0 := hB1 l x ((l.take i).map (mirF x) ++ [mirF x (at2 l i)])) (n0 := 4) 3 8 (by decide) (by decide)
                  ⟨i + 1, j + 1, by omega, by omega, rfl, .inr ⟨Nat.succ_pos _, rfl, by rw [take_map_next hlt]; rfl, rfl⟩⟩ ?_ ?_ ?_
                · unfold e90
                  refine List.forall_mem_cons.2 ⟨⟨by rw [show ren _ (fnD 74) = (fnD 74) from ren_fnD rfl _]; rfl, nm_fnD (by decide) _⟩, ?_⟩
                  ((repeat' (refine List.forall_mem_cons.2 ⟨⟨rfl, ?_⟩, ?_⟩; (first | exact scT_g rfl | exact ⟨by decide, rfl⟩ | exact ⟨by decide, fun h => (by cases h)⟩))); exact fun _ h => (by cases h))
                · unfold hB1
                  have hgrow := flat_grow ((l.take i).map (mirF x)) (mirF x (at2 l i))
                  rw [hll] at hgrow
                  ((repeat' (refine List.forall_mem_cons.2 ⟨⟨Nat.le_of_ble_eq_true rfl, _, rfl, ?_⟩, ?_⟩; (first | exact (ObjRen_j (flat_g elP _) hgrow) | exact ObjRen_g (flat_g _ _) | exact ObjRen_j rfl rfl))); exact fun _ h => (by cases h))
                · unfold hB1
                  ((repeat' (refine List.forall_mem_cons.2 ⟨?_, ?_⟩; (intro _ h; revert h; simp))); exact fun _ h => (by cases h))
              · exfalso; simp only [cA_mul, cA_add, cA_sub, cA_lt, cA_le, cA_andB, cA_num, cA_fits, fitsK, Bool.eq_false_iff, ne_eq, Bool.and_eq_true, decide_eq_true_eq] at g g1; omega
              · exfalso
                have hf : (flat elP.fl ((l.take i).map (mirF x))).length = i * 2 := by rw [flat_len, hll]; rfl
                simp only [cA_andB, hf] at g
                revert g
                simp
                omega
              all_goals (exfalso; simp only [cA_mul, cA_add, cA_sub, cA_lt, cA_le, cA_andB, cA_num, cA_fits, fitsK, Bool.eq_false_iff, ne_eq, Bool.and_eq_true, decide_eq_true_eq] at g g1; omega)
            · have hge : i = l.length := by simp [cfgS, std] at g1; omega
              subst hge
              rw [List.take_length]
              have hmap : 0 < (l.map (mirF x)).length := by rw [List.length_map]; exact hip
              (conv => whnf)
              refine ⟨l.map (mirF x), ⟨by rw [List.length_map], _, _, _, _, rfl, by rw [List.drop_zero, List.take_length]⟩, ?_⟩
              ((conv => whnf); refine bm (fun g2 => ?_) (fun g2 => ?_))
              · ((conv => whnf); refine bm (fun g3 => ?_) (fun g3 => ?_))
                · (conv => whnf)
                  have hna : ¬ (l.all rightS = true ∧ [x].any outI = false ∧ (l.map (mirF x)).all rightS = true) := by
                    simp only [cA_notB, Bool.not_eq_true'] at g3
                    rw [g3]
                    exact fun h => by cases h.2.2
                  rw [(chg_arg h400 hna).1, (chg_arg h400 hna).2]
                  rfl
                · (conv => whnf)
                  have hall2 : (l.map (mirF x)).all rightS = true := by simpa only [cA_notB, Bool.not_eq_false'] using g3
                  rw [(chg_ok h400 ⟨hall, hbad, hall2⟩).1, (chg_ok h400 ⟨hall, hbad, hall2⟩).2]
                  have hy := Yields_own (q := 3) (h := hB1 l x (l.map (mirF x))) (nx := 4) (e := some 0) elP hmap rfl
                  rw [List.length_map] at hy
                  exact hy
              · exact absurd (show (l.map (mirF x)).length ≤ 1000000000 by rw [List.length_map]; exact hlen) (by simpa using g2)
      · have hna : ¬ (l.all rightS = true ∧ [x].any outI = false ∧ (l.map (mirF x)).all rightS = true) := fun h => by
          simp only [cA_eqB, cA_notB, beq_eq_false_iff_ne, ne_eq, Bool.not_eq_false, Bool.not_eq_true'] at g
          rw [g] at h
          cases h.1
        rw [(chg_arg h400 hna).1, (chg_arg h400 hna).2]
        rfl
    · exact absurd hlen (by simpa using h2)

attribute [local irreducible] chgO chgE in
theorem c90C (l : List (Int × Int)) (c : Nat) (hlen : l.length ≤ 1000000000) (x : Int) : bodyM [X54, X129] [73, 74, 75] 72 [.slice (some ⟨0, 0, none⟩) l.length c, .slice (some ⟨2, 0, none⟩) 1 1, (fnD 75)] (hB0 l x) 3 (Yields elP (chgO l ([x].any outI) (enlF x)) (some (chgE l ([x].any outI) (enlF x)))) := by
  unfold hB0 fnD
  ((conv => whnf); refine bm (fun h1 => ?_) (fun h1 => ?_))
  · (conv => whnf)
    have h400 : 400 < l.length := by simp only [cA_lt, cA_num, decide_eq_true_eq] at h1; omega
    rw [(chg_limit h400).1, (chg_limit h400).2]
    rfl
  · have h400 : ¬ 400 < l.length := by simp only [cA_lt, cA_num, decide_eq_false_iff_not] at h1; omega
    (conv => whnf)
    refine ⟨l, LsAt_own elP rfl, ?_⟩
    ((conv => whnf); refine bm (fun h2 => ?_) (fun h2 => ?_))
    · repeat' first
        | (((conv => whnf); refine bm (fun g => ?_) (fun g => ?_)))
        | ((conv => whnf)
           refine Exists.intro [x] (And.intro ⟨rfl, _, _, _, _, rfl, rfl⟩ ?_))
      all_goals (conv => whnf)
      · have hna : ¬ (l.all rightS = true ∧ [x].any outI = false ∧ (l.map (enlF x)).all rightS = true) := fun h => by
          rw [show [x].any outI = true from g] at h
          cases h.2.1
        rw [(chg_arg h400 hna).1, (chg_arg h400 hna).2]
        rfl
      · rename_i ga
        have hall : l.all rightS = true := by
          simp only [cA_eqB, cA_notB, beq_iff_eq, Bool.not_eq_false'] at ga
          exact ga
        have hbad : [x].any outI = false := g
        have hxy : -20000 ≤ x ∧ x ≤ 20000 := by
          simp only [List.any_cons, List.any_nil, outI, Bool.or_eq_false_iff, decide_eq_false_iff_not] at hbad
          omega
        refine ⟨fun n e h nx => ∃ (i : Nat) (j : Int), j = i ∧ i ≤ l.length ∧ n = l.length - i ∧
          ((i = 0 ∧ e = e90 l c (fnD 75) (.slice none 0 0) j ∧ h = hB2 l x ∧ nx = 3) ∨ (0 < i ∧ e = e90 l c (fnD 75) (.slice (some ⟨3, 0, none⟩) i i) j ∧ h = hB1 l x ((l.take i).map (enlF x)) ∧ nx = 4)), ⟨l.length, ?_⟩, ?_⟩
        · refine Into_id (e0 := e90 l c (fnD 75) (.slice none 0 0) 0) (h0 := hB2 l x) (n0 := 3) ⟨0, 0, rfl, Nat.zero_le _, rfl, .inl ⟨rfl, rfl, rfl, rfl⟩⟩ ?_ ?_ (by decide)
          · unfold e90
            refine List.forall_mem_cons.2 ⟨⟨by rw [show ren _ (fnD 75) = (fnD 75) from ren_fnD rfl _]; rfl, nm_fnD (by decide) _⟩, ?_⟩
            ((repeat' (refine List.forall_mem_cons.2 ⟨⟨rfl, ?_⟩, ?_⟩; (first | exact scT_g rfl | exact ⟨by decide, rfl⟩ | exact ⟨by decide, fun h => (by cases h)⟩))); exact fun _ h => (by cases h))
          · unfold hB2
            ((repeat' (refine List.forall_mem_cons.2 ⟨⟨Nat.le_of_ble_eq_true rfl, _, rfl, ?_⟩, ?_⟩; (first | exact ObjRen_g (flat_g _ _) | exact ObjRen_j rfl rfl))); exact fun _ h => (by cases h))
        · rintro n e h nx ⟨i, j, hj, hi, rfl, ⟨hi0, rfl, rfl, rfl⟩ | ⟨hip, rfl, rfl, rfl⟩⟩
          · subst hi0
            unfold e90 hB2 fnD
            ((conv => whnf); refine bm (fun g1 => ?_) (fun g1 => ?_))
            · have hlt : 0 < l.length := by simp [cfgS, std] at g1; omega
              have hr := right_low (all_at hall hlt)
              have m1 := mulB (a := x) (b := (at2 l 0).1) (A := 20000) (B := 10000) (by omega) (by omega) (by omega) (by omega)
              have m2 := mulB (a := x) (b := (at2 l 0).2) (A := 20000) (B := 10000) (by omega) (by omega) (by omega) (by omega)
              repeat' first
                | (((conv => whnf); refine bm (fun g => ?_) (fun g => ?_)))
                | ((conv => whnf)
                   refine boL (getP l hlt ?_) ?_
                   · simp [cfgS, std]; omega)
              all_goals (conv => whnf)
              · refine ⟨l.length - 1, by omega, ?_⟩
                refine Into_mv (e0 := e90 l c (fnD 75) (.slice (some ⟨3, 0, none⟩) 1 1) (j + 1)) (h0 := hB1 l x [enlF x (at2 l 0)]) (n0 := 4) 3 7 (by decide) (by decide)
                  ⟨1, j + 1, by omega, by omega, rfl, .inr ⟨Nat.one_pos, rfl, by rw [take_map_next hlt]; rfl, rfl⟩⟩ ?_ ?_ ?_
                · unfold e90
                  refine List.forall_mem_cons.2 ⟨⟨by rw [show ren _ (fnD 75) = (fnD 75) from ren_fnD rfl _]; rfl, nm_fnD (by decide) _⟩, ?_⟩
                  ((repeat' (refine List.forall_mem_cons.2 ⟨⟨rfl, ?_⟩, ?_⟩; (first | exact scT_g rfl | exact ⟨by decide, rfl⟩ | exact ⟨by decide, fun h => (by cases h)⟩))); exact fun _ h => (by cases h))
                · unfold hB1
                  ((repeat' (refine List.forall_mem_cons.2 ⟨⟨Nat.le_of_ble_eq_true rfl, _, rfl, ?_⟩, ?_⟩; (first | exact ObjRen_g (flat_g _ _) | exact ObjRen_j rfl rfl))); exact fun _ h => (by cases h))
                · unfold hB1
                  ((repeat' (refine List.forall_mem_cons.2 ⟨?_, ?_⟩; (intro _ h; revert h; simp))); exact fun _ h => (by cases h))
              all_goals (exfalso; simp only [cA_mul, cA_add, cA_sub, cA_lt, cA_le, cA_andB, cA_num, cA_fits, fitsK, Bool.eq_false_iff, ne_eq, Bool.and_eq_true, decide_eq_true_eq] at g g1; omega)
            · have hge : l = [] := by
                simp only [cA_lt, cA_num, decide_eq_false_iff_not] at g1
                exact List.length_eq_zero_iff.1 (by omega)
              subst hge
              (conv => whnf)
              refine ⟨[], ⟨rfl, rfl, rfl⟩, ?_⟩
              (conv => whnf)
              rw [(chg_ok h400 ⟨hall, hbad, rfl⟩).1, (chg_ok h400 ⟨hall, hbad, rfl⟩).2]
              rfl
          · have hll : ((l.take i).map (enlF x)).length = i := by rw [List.length_map, List.length_take]; omega
            unfold e90 hB1 fnD
            ((conv => whnf); refine bm (fun g1 => ?_) (fun g1 => ?_))
            · have hlt : i < l.length := by simp [cfgS, std] at g1; omega
              have hr := right_low (all_at hall hlt)
              have m1 := mulB (a := x) (b := (at2 l i).1) (A := 20000) (B := 10000) (by omega) (by omega) (by omega) (by omega)
              have m2 := mulB (a := x) (b := (at2 l i).2) (A := 20000) (B := 10000) (by omega) (by omega) (by omega) (by omega)
              repeat' first
                | (((conv => whnf); refine bm (fun g => ?_) (fun g => ?_)))
                | ((conv => whnf)
                   refine boL (getP l hlt ?_) ?_
                   · simp [cfgS, std]; omega)
              all_goals (conv => whnf)
              · exfalso; rename_i gc _; have := Nat.le_of_ble_eq_true gc; omega
              · exfalso; rename_i gc _; have := Nat.le_of_ble_eq_true gc; omega
              · exfalso; rename_i gc; have := Nat.le_of_ble_eq_true gc; omega
              · refine ⟨l.length - (i + 1), by omega, ?_⟩
                refine Into_mv (e0 := e90 l c (fnD 75) (.slice (some ⟨3, 0, none⟩) (i + 1) (i + 1)) (j + 1)) (h0 := hB1 l x ((l.take i).map (enlF x) ++ [enlF x (at2 l i)])) (n0 := 4) 3 8 (by decide) (by decide)
                  ⟨i + 1, j + 1, by omega, by omega, rfl, .inr ⟨Nat.succ_pos _, rfl, by rw [take_map_next hlt]; rfl, rfl⟩⟩ ?_ ?_ ?_
                · unfold e90
                  refine List.forall_mem_cons.2 ⟨⟨by rw [show ren _ (fnD 75) = (fnD 75) from ren_fnD rfl _]; rfl, nm_fnD (by decide) _⟩, ?_⟩
                  ((repeat' (refine List.forall_mem_cons.2 ⟨⟨rfl, ?_⟩, ?_⟩; (first | exact scT_g rfl | exact ⟨by decide, rfl⟩ | exact ⟨by decide, fun h => (by cases h)⟩))); exact fun _ h => (by cases h))
                · unfold hB1
                  have hgrow := flat_grow ((l.take i).map (enlF x)) (enlF x (at2 l i))
                  rw [hll] at hgrow
                  ((repeat' (refine List.forall_mem_cons.2 ⟨⟨Nat.le_of_ble_eq_true rfl, _, rfl, ?_⟩, ?_⟩; (first | exact (ObjRen_j (flat_g elP _) hgrow) | exact ObjRen_g (flat_g _ _) | exact ObjRen_j rfl rfl))); exact fun _ h => (by cases h))
                · unfold hB1
                  ((repeat' (refine List.forall_mem_cons.2 ⟨?_, ?_⟩; (intro _ h; revert h; simp))); exact fun _ h => (by cases h))
              · exfalso; simp only [cA_mul, cA_add, cA_sub, cA_lt, cA_le, cA_andB, cA_num, cA_fits, fitsK, Bool.eq_false_iff, ne_eq, Bool.and_eq_true, decide_eq_true_eq] at g g1; omega
              · exfalso
                have hf : (flat elP.fl ((l.take i).map (enlF x))).length = i * 2 := by rw [flat_len, hll]; rfl
                simp only [cA_andB, hf] at g
                revert g
                simp
                omega
              all_goals (exfalso; simp only [cA_mul, cA_add, cA_sub, cA_lt, cA_le, cA_andB, cA_num, cA_fits, fitsK, Bool.eq_false_iff, ne_eq, Bool.and_eq_true, decide_eq_true_eq] at g g1; omega)
            · have hge : i = l.length := by simp [cfgS, std] at g1; omega
              subst hge
              rw [List.take_length]
              have hmap : 0 < (l.map (enlF x)).length := by rw [List.length_map]; exact hip
              (conv => whnf)
              refine ⟨l.map (enlF x), ⟨by rw [List.length_map], _, _, _, _, rfl, by rw [List.drop_zero, List.take_length]⟩, ?_⟩
              ((conv => whnf); refine bm (fun g2 => ?_) (fun g2 => ?_))
              · ((conv => whnf); refine bm (fun g3 => ?_) (fun g3 => ?_))
                · (conv => whnf)
                  have hna : ¬ (l.all rightS = true ∧ [x].any outI = false ∧ (l.map (enlF x)).all rightS = true) := by
                    simp only [cA_notB, Bool.not_eq_true'] at g3
                    rw [g3]
                    exact fun h => by cases h.2.2
                  rw [(chg_arg h400 hna).1, (chg_arg h400 hna).2]
                  rfl
                · (conv => whnf)
                  have hall2 : (l.map (enlF x)).all rightS = true := by simpa only [cA_notB, Bool.not_eq_false'] using g3
                  rw [(chg_ok h400 ⟨hall, hbad, hall2⟩).1, (chg_ok h400 ⟨hall, hbad, hall2⟩).2]
                  have hy := Yields_own (q := 3) (h := hB1 l x (l.map (enlF x))) (nx := 4) (e := some 0) elP hmap rfl
                  rw [List.length_map] at hy
                  exact hy
              · exact absurd (show (l.map (enlF x)).length ≤ 1000000000 by rw [List.length_map]; exact hlen) (by simpa using g2)
      · have hna : ¬ (l.all rightS = true ∧ [x].any outI = false ∧ (l.map (enlF x)).all rightS = true) := fun h => by
          simp only [cA_eqB, cA_notB, beq_eq_false_iff_ne, ne_eq, Bool.not_eq_false, Bool.not_eq_true'] at g
          rw [g] at h
          cases h.1
        rw [(chg_arg h400 hna).1, (chg_arg h400 hna).2]
        rfl
    · exact absurd hlen (by simpa using h2)

theorem x90 : XOK Go.Proofs.Tryz.prog X90.1 X90.2 := yOf_ok elP (T := T90) (f := 72) (bodyM_calls (xl := [X54, X129]) (.cons x54 (.cons x129 .nil)) [73, 74, 75]) fun args0 h0 n0 out e ⟨l, c, hlen, h⟩ => by
  rcases h with ⟨x, y, rfl, rfl, rfl, rfl, rfl⟩ | ⟨x, rfl, rfl, rfl, rfl, rfl⟩ | ⟨x, rfl, rfl, rfl, rfl, rfl⟩
  · exact c90A l c hlen x y
  · exact c90B l c hlen x
  · exact c90C l c hlen x

def X42 : Nat × XF := (30, rfX elP elP SMove)
attribute [local irreducible] chgO chgE yOf in
theorem x42 : XOK Go.Proofs.Tryz.prog X42.1 X42.2 := rfX_ok elP elP (s := SMove) (f := 30) (body_calls (xl := [X90]) (.cons x90 .nil)) fun l r out e hs => by
  obtain ⟨x, y, rfl, hlen, rfl, rfl⟩ := SMove_inv hs
  refine ⟨rfl, fun cc => ?_⟩
  clear hs
  rw [any_move, movF_aff]
  (conv => whnf)
  refine yOf_use elP (T := T90) (l := chgO l ([x, y].any outI) (movF x y)) (e := some (chgE l ([x, y].any outI) (movF x y))) ?a In_shut ?c
  case a => exact ⟨l, cc, hlen, .inl ⟨x, y, rfl, rfl, rfl, rfl, rfl⟩⟩
  generalize chgO l ([x, y].any outI) (movF x y) = O
  cases O with
  | nil =>
    (conv => whnf)
    rfl
  | cons a t =>
    (conv => whnf)
    exact ⟨4, rfl, rfl⟩

def X44 : Nat × XF := (31, rfX elP elP SMirror)
attribute [local irreducible] chgO chgE yOf in
theorem x44 : XOK Go.Proofs.Tryz.prog X44.1 X44.2 := rfX_ok elP elP (s := SMirror) (f := 31) (body_calls (xl := [X90]) (.cons x90 .nil)) fun l r out e hs => by
  obtain ⟨x, rfl, hlen, rfl, rfl⟩ := SMirror_inv hs
  refine ⟨rfl, fun cc => ?_⟩
  clear hs
  rw [any_mirror, mirF_aff]
  (conv => whnf)
  refine yOf_use elP (T := T90) (l := chgO l ([x].any outI) (mirF x)) (e := some (chgE l ([x].any outI) (mirF x))) ?a In_shut ?c
  case a => exact ⟨l, cc, hlen, .inr (.inl ⟨x, rfl, rfl, rfl, rfl, rfl⟩)⟩
  generalize chgO l ([x].any outI) (mirF x) = O
  cases O with
  | nil =>
    (conv => whnf)
    rfl
  | cons a t =>
    (conv => whnf)
    exact ⟨3, rfl, rfl⟩

def X46 : Nat × XF := (32, rfX elP elP SEnl)
attribute [local irreducible] chgO chgE yOf in
theorem x46 : XOK Go.Proofs.Tryz.prog X46.1 X46.2 := rfX_ok elP elP (s := SEnl) (f := 32) (body_calls (xl := [X90]) (.cons x90 .nil)) fun l r out e hs => by
  obtain ⟨x, rfl, hlen, rfl, rfl⟩ := SEnl_inv hs
  refine ⟨rfl, fun cc => ?_⟩
  clear hs
  rw [any_enl, enlF_aff]
  (conv => whnf)
  refine yOf_use elP (T := T90) (l := chgO l ([x].any outI) (enlF x)) (e := some (chgE l ([x].any outI) (enlF x))) ?a In_shut ?c
  case a => exact ⟨l, cc, hlen, .inr (.inr ⟨x, rfl, rfl, rfl, rfl, rfl⟩)⟩
  generalize chgO l ([x].any outI) (enlF x) = O
  cases O with
  | nil =>
    (conv => whnf)
    rfl
  | cons a t =>
    (conv => whnf)
    exact ⟨3, rfl, rfl⟩

end Go.Aw
