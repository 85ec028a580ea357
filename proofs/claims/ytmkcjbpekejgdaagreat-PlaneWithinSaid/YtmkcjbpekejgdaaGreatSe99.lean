/-
  Hull: the program's. No condition.
-/
import Derived.Test.YtmkcjbpekejgdaaGreatSe98
set_option linter.unusedSimpArgs false
set_option linter.unusedVariables false
noncomputable section
namespace Go.Aw
set_option maxRecDepth 100000
def lowI (D : List (Int × Int)) : List (Int × Int) := (halfS D D.length).1.take ((halfS D D.length).2 - 1)
def dedI (l : List (Int × Int)) : List (Int × Int) := ddI (sortI l) (sortI l).length
def hulL (l : List (Int × Int)) : List (Int × Int) := if (dedI l).length < 3 then dedI l else lowI (dedI l) ++ lowI (dedI l).reverse
def hulE (l : List (Int × Int)) : Int := if 400 < l.length then 2 else if l.all rightS = true then 0 else 1
def hulO (l : List (Int × Int)) : List (Int × Int) := if hulE l = 0 then hulL l else []
def S33 (l : List (Int × Int)) : List Value → Option (Bool × List (Int × Int) × Option Int)
  | [] => some (decide (l.length ≤ 1000000000) && decide (0 < l.length), hulO l, some (hulE l))
  | _ => none
theorem S33_inv {l out : List (Int × Int)} {r : List Value} {e : Option Int} (hs : S33 l r = some (true, out, e)) : r = [] ∧ l.length ≤ 1000000000 ∧ 0 < l.length ∧ out = hulO l ∧ e = some (hulE l) := by
  unfold S33 at hs
  split at hs
  · injection hs with hs; injection hs with h1 h2; injection h2 with h2 h3
    simp only [Bool.and_eq_true, decide_eq_true_eq] at h1
    exact ⟨rfl, h1.1, h1.2, h2.symm, h3.symm⟩
  · cases hs
theorem dedI_right {l : List (Int × Int)} (h : l.all rightS = true) : (dedI l).all rightS = true := by
  have hs : (sortI l).all rightS = true := List.all_eq_true.2 fun p hp => List.all_eq_true.1 h p ((sortI_perm l).mem_iff.1 hp)
  have key : ∀ p, p ≤ (sortI l).length → ∀ x ∈ ddI (sortI l) p, rightS x = true := by
    intro p
    induction p with
    | zero => intro _ x hx; cases hx
    | succ p ih =>
      intro hp x hx
      unfold ddI at hx
      rcases List.mem_append.1 hx with hx | hx
      · exact ih (by omega) x hx
      · split at hx
        · rw [List.mem_singleton.1 hx]
          exact all_at hs (by omega)
        · cases hx
  exact List.all_eq_true.2 (key _ (Nat.le_refl _))
theorem ded_pos {l : List (Int × Int)} (h : 0 < l.length) : 0 < (dedI l).length := by
  unfold dedI
  have hl : 0 < (sortI l).length := by rw [sortI_len]; exact h
  generalize sortI l = S at hl
  have key : ∀ p, 0 < p → 0 < (ddI S p).length := by
    intro p
    induction p with
    | zero => intro h; cases h
    | succ p ih =>
      intro _
      unfold ddI
      rw [List.length_append]
      by_cases h0 : p = 0
      · rw [if_pos (.inl h0)]
        simp
      · have := ih (by omega)
        omega
  exact key _ hl
theorem cloneC {l : List (Int × Int)} {X : List Value} {a z d z' : Nat} (ha : a = l.length * 2) (hz : z = 0) (hd : d = 0) : List.take z (List.drop z' X) ++ List.take a (List.drop d (flat elP.fl l)) = flat elP.fl l := by
  subst ha hz hd
  rw [List.take_zero, List.nil_append, List.drop_zero, List.take_of_length_le (by rw [flat2]; exact Nat.le_refl _)]
theorem half_facts (l : List (Int × Int)) : ∀ k, 0 < k → 1 ≤ (halfS l k).2 ∧ (halfS l k).2 ≤ (halfS l k).1.length ∧ (halfS l k).1.length ≤ k ∧ (2 ≤ k → 2 ≤ (halfS l k).2)
  | 0, h => by cases h
  | 1, _ => by
    rw [halfS_one]
    simp
  | k + 2, _ => by
    obtain ⟨h1, h2, h3, h4⟩ := half_facts l (k + 1) (by omega)
    obtain ⟨F, m, e⟩ : ∃ F m, halfS l (k + 1) = (F, m) := ⟨_, _, rfl⟩
    rw [e] at h1 h2 h3
    simp only at h1 h2 h3
    rw [halfS_succ e]
    have hp := popN_le F (at2 l (k + 1)) m
    have hl := pushI_len (F := F) (m := popN F (at2 l (k + 1)) m) (at2 l (k + 1)) (by omega)
    simp only
    rw [hl]
    split <;> omega
theorem Yields_atP {l : List (Int × Int)} {e : Int} {h : Heap} {nx q n c : Nat} (hl : 0 < l.length) (hn : n = l.length) (hc : c = l.length) (hq : ∃ cs, look h q = some (.cells true false 2 cs) ∧ cs = flat elP.fl l) : Yields elP l (some e) (.tuple #[.slice (some ⟨q, 0, none⟩) n c, .int .i64 e]) h nx := by
  obtain ⟨cs, hq, hcs⟩ := hq
  subst hn hc hcs
  exact Yields_own (e := some e) elP hl hq
theorem cat_src {l : List (Int × Int)} {x s d : Nat} (hx : x ≤ l.length) (hs : s = x * 2) (hd : d = 0) : List.take s (List.drop d (flat elP.fl l)) = flat elP.fl (l.take x) := by
  subst hs hd
  rw [List.drop_zero, flat_take l x hx]
theorem cat_cells {A B : List (Int × Int)} {x y N o0 s1 d1 o1 s2 d2 : Nat} {a b : Value} (hx : x ≤ A.length) (hy : y ≤ B.length) (hN : N = x + y) (h0 : o0 = 0) (hd1 : d1 = 0) (hs1 : s1 = x * 2) (ho1 : o1 = x * 2) (hd2 : d2 = 0) (hs2 : s2 = y * 2) :
    putN (putN (rep N [a, b]) o0 (List.take s1 (List.drop d1 (flat elP.fl A)))) o1 (List.take s2 (List.drop d2 (flat elP.fl B))) = flat elP.fl (A.take x ++ B.take y) := by
  rw [cat_src hx hs1 hd1, cat_src hy hs2 hd2]
  subst hN h0 ho1
  have e1 : (flat elP.fl (A.take x)).length = x * 2 := by rw [flat2, List.length_take]; omega
  have e2 : (flat elP.fl (B.take y)).length = y * 2 := by rw [flat2, List.length_take]; omega
  have e3 : (rep (x + y) [a, b]).length = (x + y) * 2 := rep_len _ _
  have e4 : List.drop (x * 2 + y * 2) (flat elP.fl (A.take x) ++ List.drop (x * 2) (rep (x + y) [a, b])) = [] := List.drop_eq_nil_of_le (by rw [List.length_append, List.length_drop, e1, e3]; omega)
  unfold putN
  rw [List.take_zero, List.nil_append, e1, e2, Nat.zero_add, List.take_left' e1, e4, List.append_nil, flat_append]
theorem cat_len {A : List (Int × Int)} {x N o0 s1 d1 : Nat} {a b : Value} (hx : x ≤ A.length) (hN : x ≤ N) (h0 : o0 = 0) (hd1 : d1 = 0) (hs1 : s1 = x * 2) :
    (putN (rep N [a, b]) o0 (List.take s1 (List.drop d1 (flat elP.fl A)))).length = N * 2 := by
  have e3 : (rep N [a, b]).length = N * 2 := rep_len _ _
  rw [cat_src hx hs1 hd1, putN_length (by rw [flat2, List.length_take, e3, h0]; omega), e3]
set_option maxHeartbeats 2000000 in
attribute [local irreducible] sortI ddI halfS in
theorem d33 : XOK Go.Proofs.Tryz.prog 33 (rfX elP elP S33) := rfX_ok elP elP (s := S33) (f := 33) (bodyN_calls (xl := [X54, (77, sX), (79, cpX), (80, hbX), (81, frX elP SRv)]) (.cons x54 (.cons d77 (.cons c79 (.cons d80 (.cons d81 .nil))))) [76, 82, 140]) fun l r out e hs => by
  obtain ⟨rfl, hlen, hpos, rfl, rfl⟩ := S33_inv hs
  refine ⟨rfl, fun c => ?_⟩
  clear hs
  ((conv => whnf); refine bm (fun g1 => ?_) (fun g1 => ?_))
  · have hl4 : 400 < l.length := by simp only [cA_lt, cA_num, decide_eq_true_eq] at g1; omega
    have hE : hulE l = 2 := by unfold hulE; rw [if_pos hl4]
    rw [show hulO l = [] by unfold hulO; rw [hE, if_neg (by decide)], hE]
    (conv => whnf)
    rfl
  · have hl4 : l.length ≤ 400 := by simp only [cA_lt, cA_num, decide_eq_false_iff_not] at g1; omega
    (conv => whnf)
    refine ⟨l, LsAt_own elP rfl, ?_⟩
    ((conv => whnf); refine bm (fun g2 => ?_) (fun g2 => ?_))
    · ((conv => whnf); refine bm (fun g3 => ?_) (fun g3 => ?_))
      · have hr : ¬ l.all rightS = true := by
          intro h
          have hg : (!(l.all rightS)) = true := g3
          rw [h] at hg
          cases hg
        have hE : hulE l = 1 := by unfold hulE; rw [if_neg (by omega), if_neg hr]
        rw [show hulO l = [] by unfold hulO; rw [hE, if_neg (by decide)], hE]
        (conv => whnf)
        rfl
      · have hr : l.all rightS = true := by
          have hg : (!(l.all rightS)) = false := g3
          simpa using hg
        have hE : hulE l = 0 := by unfold hulE; rw [if_neg (by omega), if_pos hr]
        rw [show hulO l = hulL l by unfold hulO; rw [hE, if_pos rfl], hE]
        have hDr := dedI_right hr
        have hDl : (dedI l).length ≤ l.length := by
          have h1 := ddI_len (sortI l) (sortI l).length
          rw [sortI_len] at h1
          unfold dedI
          rw [sortI_len]
          exact h1
        have hD0 : 0 < (dedI l).length := ded_pos hpos
        have hDe : ddI (sortI l) (sortI l).length = dedI l := rfl
        have hU : hulL l = if (dedI l).length < 3 then dedI l else lowI (dedI l) ++ lowI (dedI l).reverse := rfl
        obtain ⟨p, t, hl⟩ : ∃ p t, l = p :: t := by
          cases l with
          | nil => cases hpos
          | cons p t => exact ⟨p, t, rfl⟩
        subst hl
        repeat' first
          | (exfalso
             simp only [c4A, cA_andB, ble_t, ble_f, flat2, rep_len, cA_ix, Bool.and_eq_false_iff, beq_t, beq_f, List.length_nil] at g
             omega)
          | (((conv => whnf); refine bm (fun g => ?_) (fun g => ?_)))
        all_goals (conv => whnf)
        · refine ⟨p :: t, by omega, ?_, by omega, by omega, ?_⟩
          · show some (AObj.cells true false 2 (List.take (0 * 2) (List.drop 0 (rep 0 _)) ++ List.take ((p :: t).length * 2) (List.drop 0 (flat elP.fl (p :: t))))) = _
            rw [cloneC rfl rfl rfl]
          · generalize p :: t = l at *
            (conv => whnf)
            refine ⟨sortI l, by rw [sortI_len]; omega, by rw [sortI_len]; omega, rfl, rfl, by rw [sortI_len]; omega, by rw [sortI_len]; omega, ?_⟩
            rw [hDe, hU]
            generalize dedI l = D at hDr hDl hD0 ⊢
            clear hU hDe hr hE g1 g2 g3
            ((conv => whnf); refine bm (fun g4 => ?_) (fun g4 => ?_))
            · have hD3 : D.length < 3 := by simp only [cA_lt, cA_num, decide_eq_true_eq] at g4; omega
              rw [if_pos hD3]
              (conv => whnf)
              exact Yields_own (l := D) (e := some 0) (q := 4) (nx := 0) elP hD0 rfl
            · have hD3 : ¬ D.length < 3 := by simp only [cA_lt, cA_num, decide_eq_false_iff_not] at g4; omega
              rw [if_neg hD3]
              have hS1 : SHf D = true := by
                unfold SHf
                rw [hDr, decide_eq_true hD0, decide_eq_true (show D.length ≤ 1000000 by omega)]
                rfl
              have hS2 : SHf D.reverse = true := by
                unfold SHf
                rw [List.all_reverse, hDr, List.length_reverse, decide_eq_true hD0, decide_eq_true (show D.length ≤ 1000000 by omega)]
                rfl
              (conv => whnf)
              refine ⟨D, _, _, _, _, _, _, _, _, _, rfl, rfl, List.take_length, hS1, ?_⟩
              (conv => whnf)
              refine ⟨D, rfl, rfl, rfl, ?_⟩
              ((conv => whnf); refine bm (fun g5 => ?_) (fun g5 => ?_))
              · (conv => whnf)
                refine ⟨D.reverse, _, _, _, _, _, _, _, _, _, (by rw [List.length_reverse]; rfl), rfl, List.take_length, hS2, ?_⟩
                have eL : lowI D = (halfS D D.length).1.take ((halfS D D.length).2 - 1) := rfl
                have eU : lowI D.reverse = (halfS D.reverse D.reverse.length).1.take ((halfS D.reverse D.reverse.length).2 - 1) := rfl
                rw [eL, eU, List.length_reverse]
                obtain ⟨p1, p2, p3, p4⟩ := half_facts D D.length hD0
                obtain ⟨q1, q2, q3, q4⟩ := half_facts D.reverse D.length hD0
                have p4 := p4 (by omega)
                have q4 := q4 (by omega)
                generalize (halfS D D.length).1 = A at *
                generalize (halfS D D.length).2 = x at *
                generalize (halfS D.reverse D.length).1 = B at *
                generalize (halfS D.reverse D.length).2 = y at *
                clear eL eU
                obtain ⟨x, rfl⟩ : ∃ x', x = x' + 1 := ⟨x - 1, by omega⟩
                obtain ⟨y, rfl⟩ : ∃ y', y = y' + 1 := ⟨y - 1, by omega⟩
                rw [Nat.add_sub_cancel, Nat.add_sub_cancel]
                have hx : x ≤ A.length := by omega
                have hy : y ≤ B.length := by omega
                repeat' first
                  | (exfalso
                     simp only [c4A, cA_add, cA_sub, cA_fits, cA_lt, cA_le, cA_andB, cA_num, cA_subN, cA_toN, fitsK, ble_t, ble_f, beq_t, beq_f, flat2, rep_len, List.length_cons, List.length_nil, Bool.and_eq_false_iff, Bool.and_eq_true, decide_eq_true_eq, decide_eq_false_iff_not] at g
                     omega)
                  | (((conv => whnf); refine bm (fun g => ?_) (fun g => ?_)))
                all_goals (conv => whnf)
                · refine Yields_atP (q := 8) (n := 0 + x + y) (c := ((0 : Int) + (x : Int) + (y : Int) - (0 - 0)).toNat) (nx := 9) ?_ ?_ ?_ ?hq
                  case hq =>
                    refine ⟨_, rfl, ?_⟩
                    exact cat_cells (N := ((0 : Int) + (x : Int) + (y : Int) - (0 - 0)).toNat) (o0 := 0 + 0 * 2) (s1 := x * 2) (d1 := 0) (o1 := 0 + (0 + x) * 2) (s2 := y * 2) (d2 := 0) (a := iv 0) (b := iv 0) hx hy (by omega) rfl rfl rfl (by omega) rfl rfl
                  · rw [List.length_append, List.length_take, List.length_take]; omega
                  · rw [List.length_append, List.length_take, List.length_take]; omega
                  · rw [List.length_append, List.length_take, List.length_take]; omega
                · exfalso
                  have hc : Nat.ble (0 + (0 + x + y) * 2) (putN (rep ((0 : Int) + (x : Int) + (y : Int) - (0 - 0)).toNat [iv 0, iv 0]) (0 + 0 * 2) (List.take (x * 2) (List.drop 0 (flat elP.fl A)))).length = false := g
                  rw [cat_len hx (by omega) rfl rfl rfl, Nat.ble_eq_true_of_le (by omega)] at hc
                  cases hc
                · exfalso
                  have hc : Nat.ble (0 + (0 + x) * 2) (rep ((0 : Int) + (x : Int) + (y : Int) - (0 - 0)).toNat [iv 0, iv 0]).length = false := g
                  rw [rep_len, Nat.ble_eq_true_of_le (by show _ ≤ _ * 2; omega)] at hc
                  cases hc
              · exfalso
                have hg : decide (D.length ≤ 1000000000) = false := g5
                rw [decide_eq_false_iff_not] at hg
                omega
    · exfalso
      have hg : decide (l.length ≤ 1000000000) = false := g2
      rw [decide_eq_false_iff_not] at hg
      omega
end Go.Aw
