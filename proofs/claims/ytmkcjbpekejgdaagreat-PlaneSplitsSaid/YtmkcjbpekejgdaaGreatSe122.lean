/-
  The reference's insert of a segment into an ascending list. No condition.
-/
import Derived.Test.YtmkcjbpekejgdaaGreatAwE
import Derived.Test.YtmkcjbpekejgdaaGreatSe120
set_option linter.unusedSimpArgs false
set_option linter.unusedVariables false
noncomputable section
namespace Go.Aw
set_option maxRecDepth 100000
def knG (l : List Sg) (s : Sg) : Bool := decide (posG s l < l.length) && eqG (atS l (posG s l)) s
def S101 (l : List Sg) : List Value → Option (Bool × Bool × List Sg)
  | [v] => (decS v).map fun s => (decide (l.length ≤ 1000000), knG l s, insG l s)
  | _ => none
theorem S101_inv {l out : List Sg} {r : List Value} {b : Bool} (hs : S101 l r = some (true, b, out)) : ∃ s : Sg, r = [sgv s] ∧ l.length ≤ 1000000 ∧ b = knG l s ∧ out = insG l s := by
  unfold S101 at hs
  split at hs
  · rename_i v
    obtain ⟨s, h1, h2⟩ := Option.map_eq_some_iff.1 hs
    injection h2 with h2 h3; injection h3 with h3 h4
    exact ⟨s, by rw [decS_eq h1], of_decide_eq_true h2, h3.symm, h4.symm⟩
  · cases hs
def e101 (n c : Nat) (j : Int) : List (Nat × Value) := [(0, .slice (some ⟨0, 0, none⟩) n c), (3, .pointer (some ⟨1, 0, none⟩)), (5, iv j)]
def h101 (l : List Sg) (s : Sg) : Heap := [(0, .cells false true 4 (flat elS.fl l)), (1, .cells true false 1 [iv s.1.1, iv s.1.2, iv s.2.1, iv s.2.2])]
def XiG : Nat × XF := (101, irX elS elS S101)
theorem beqN_f {a b : Nat} : (Nat.beq a b = false) ↔ a ≠ b := ⟨beq_false, fun h => by cases e : Nat.beq a b with | false => rfl | true => exact absurd (beq_true e) h⟩
theorem eqK (a s : Sg) : cfgS.A.andB (cfgS.A.andB (cfgS.A.eq a.1.1 s.1.1) (cfgS.A.andB (cfgS.A.eq a.1.2 s.1.2) true)) (cfgS.A.andB (cfgS.A.andB (cfgS.A.eq a.2.1 s.2.1) (cfgS.A.andB (cfgS.A.eq a.2.2 s.2.2) true)) true) = eqG a s := by
  unfold eqG eqP
  simp only [cA_eq, cA_andB, Bool.and_true]
theorem flat_takeS (l : List Sg) (j : Nat) (h : j ≤ l.length) : (flat elS.fl l).take (j * 4) = flat elS.fl (l.take j) := by
  have e : flat elS.fl l = flat elS.fl (l.take j) ++ flat elS.fl (l.drop j) := by rw [← flat_append, List.take_append_drop]
  rw [e]
  refine List.take_left' ?_
  rw [flat4, List.length_take, Nat.min_eq_left h]
theorem flat_dropS (l : List Sg) (j : Nat) (h : j ≤ l.length) : (flat elS.fl l).drop (j * 4) = flat elS.fl (l.drop j) := by
  have e : flat elS.fl l = flat elS.fl (l.take j) ++ flat elS.fl (l.drop j) := by rw [← flat_append, List.take_append_drop]
  rw [e]
  refine List.drop_left' ?_
  rw [flat4, List.length_take, Nat.min_eq_left h]
theorem ins_cells {l : List Sg} {s : Sg} {i a1 b1 b2 e1 e2 : Nat} {X : List Value} (hi : i ≤ l.length) (hX : List.take b1 (List.drop b2 X) = flat elS.fl (l.take i)) (ha : a1 = (i + 1) * 4) (he1 : e1 = (l.length - i) * 4) (he2 : e2 = i * 4) (hin : insG l s = l.take i ++ s :: l.drop i) :
    List.take a1 (List.drop 0 (List.take b1 (List.drop b2 X) ++ [iv s.1.1, iv s.1.2, iv s.2.1, iv s.2.2])) ++ List.take e1 (List.drop e2 (flat elS.fl l)) = flat elS.fl (insG l s) := by
  have e3 : (flat elS.fl (l.take i)).length = i * 4 := by rw [flat4, List.length_take, Nat.min_eq_left hi]
  have e4 : (flat elS.fl (l.take i) ++ [iv s.1.1, iv s.1.2, iv s.2.1, iv s.2.2]).length ≤ (i + 1) * 4 := by rw [List.length_append, e3]; show _ + 4 ≤ _; omega
  have e5 : (flat elS.fl (l.drop i)).length ≤ (l.length - i) * 4 := by rw [flat4, List.length_drop]; exact Nat.le_refl _
  rw [hX, ha, he1, he2, List.drop_zero, flat_dropS l i hi, List.take_of_length_le e4, List.take_of_length_le e5, hin, flat_append, List.append_assoc]
  rfl
theorem insX1 {l : List Sg} {i b c d : Nat} {Z : List Value} (hi : i ≤ l.length) (hb : b = i * 4) (hc : c = 0) (hd : d = i * 4) : List.take b (List.drop 0 (List.take c (List.drop 0 Z) ++ List.take d (List.drop 0 (flat elS.fl l)))) = flat elS.fl (l.take i) := by
  subst hb hc hd
  have e3 : (flat elS.fl (l.take i)).length = i * 4 := by rw [flat4, List.length_take, Nat.min_eq_left hi]
  rw [List.take_zero, List.nil_append, List.drop_zero, List.drop_zero, flat_takeS l i hi, List.take_of_length_le (by rw [e3]; exact Nat.le_refl _)]
theorem insX0 {l : List Sg} {b : Nat} {Z : List Value} (hb : b = 0) : List.take b (List.drop 0 Z) = flat elS.fl (l.take 0) := by
  subst hb
  rfl
theorem grow_ok {n o q a b : Nat} {cs cs' : List Value} (h1 : n ≤ 1000000000) (h2 : o ≤ cs.length) (h3 : q = cs'.length) (h4 : a = b) : cfgS.A.andB (cfgS.A.andB (Nat.ble n 1000000000) (Nat.ble o cs.length)) (cfgS.A.andB (Nat.beq q cs'.length) (Nat.beq a b)) = true := by
  subst h3 h4
  rw [Nat.ble_eq_true_of_le h1, Nat.ble_eq_true_of_le h2, Nat.beq_refl, Nat.beq_refl]
  rfl
theorem len_one {l : List Sg} {i : Nat} {X Y : List Value} (hi : i ≤ l.length) (hX : X = flat elS.fl (l.take i)) (hY : Y.length = 4) : (X ++ Y).length = (i + 1) * 4 := by
  rw [List.length_append, hX, hY, flat4, List.length_take, Nat.min_eq_left hi]
  omega
theorem ins_cells_end {l : List Sg} {s : Sg} {b1 b2 o : Nat} {X : List Value} (hX : List.take b1 (List.drop b2 X) = flat elS.fl l) (hin : insG l s = l ++ [s]) (ho : o = (l.length + 1) * 4) :
    putN (List.take b1 (List.drop b2 X) ++ [iv s.1.1, iv s.1.2, iv s.2.1, iv s.2.2]) o [] = flat elS.fl (insG l s) := by
  rw [hX, hin, flat_append]
  have e : (flat elS.fl l ++ [iv s.1.1, iv s.1.2, iv s.2.1, iv s.2.2]).length = o := by rw [List.length_append, flat4, ho]; show _ + 4 = _; omega
  unfold putN
  rw [List.append_nil, List.length_nil, Nat.add_zero, List.take_append_drop]
  rfl
theorem knG_at {l : List Sg} {s : Sg} {i : Nat} (hp : posG s l = i) (hi : i < l.length) : knG l s = eqG (atS l i) s := by
  unfold knG
  rw [hp, decide_eq_true hi, Bool.true_and]
theorem knG_end {l : List Sg} {s : Sg} (hp : posG s l = l.length) : knG l s = false := by
  unfold knG
  rw [hp, decide_eq_false (by omega), Bool.false_and]
theorem insG_len {l : List Sg} {s : Sg} {i : Nat} (hi : i ≤ l.length) (h : insG l s = l.take i ++ s :: l.drop i) : (insG l s).length = l.length + 1 := by
  rw [h, List.length_append, List.length_cons, List.length_take, List.length_drop, Nat.min_eq_left hi]
  omega
theorem insG_new {l : List Sg} {s : Sg} {i : Nat} (hp : posG s l = i) (hk : knG l s = false) : insG l s = l.take i ++ s :: l.drop i := by
  unfold knG at hk
  unfold insG
  rw [hp] at hk ⊢
  rw [if_neg]
  rintro ⟨h1, h2⟩
  rw [decide_eq_true h1, h2] at hk
  cases hk
theorem Yields_atS {l : List Sg} {h : Heap} {nx q n c : Nat} (hl : 0 < l.length) (hn : n = l.length) (hc : c = l.length) (hq : ∃ cs, look h q = some (.cells true false 4 cs) ∧ cs = flat elS.fl l) : Yields elS l none (.slice (some ⟨q, 0, none⟩) n c) h nx := by
  obtain ⟨cs, hq, hcs⟩ := hq
  subst hn hc hcs
  exact Yields_own elS hl hq
attribute [local irreducible] insG knG posG eqG lessG atS in
theorem xiG : XOK Go.Proofs.Tryz.prog XiG.1 XiG.2 := irX_ok elS elS (s := S101) (f := 101) (body_calls (xl := [Xlsg]) (.cons xlsg .nil)) fun l r b out hs => by
  obtain ⟨s, rfl, hlen, rfl, rfl⟩ := S101_inv hs
  refine ⟨rfl, ?_⟩
  clear hs
  (conv => whnf)
  refine ⟨fun n e h nx => ∃ (i : Nat) (j : Int), j = i ∧ i ≤ l.length ∧ n = l.length - i ∧ (∀ k, k < i → lessG (atS l k) s = true) ∧ e = e101 l.length l.length j ∧ h = h101 l s ∧ nx = 2, ⟨l.length, ?_⟩, ?_⟩
  · refine Into_id (e0 := e101 l.length l.length 0) (h0 := h101 l s) (n0 := 2) ⟨0, 0, rfl, Nat.zero_le _, rfl, fun k hk => absurd hk (Nat.not_lt_zero _), rfl, rfl, rfl⟩ ?_ ?_ (by decide)
    · unfold e101
      ((repeat' (refine List.forall_mem_cons.2 ⟨⟨rfl, ?_⟩, ?_⟩; (first | exact scT_g rfl | exact ⟨by decide, rfl⟩ | exact ⟨by decide, fun h => (by cases h)⟩))); exact fun _ h => (by cases h))
    · unfold h101
      ((repeat' (refine List.forall_mem_cons.2 ⟨⟨Nat.le_of_ble_eq_true rfl, _, rfl, ?_⟩, ?_⟩; (first | exact ObjRen_g (flat_g _ _) | exact ObjRen_j rfl rfl))); exact fun _ h => (by cases h))
  · rintro n e h nx ⟨i, j, hj, hi, rfl, hlow, rfl, rfl, rfl⟩
    unfold e101 h101
    rcases Nat.eq_zero_or_pos i with rfl | hi0
    · have hj0 : j = 0 := by simpa using hj
      subst hj0
      ((conv => whnf); refine bm (fun g1 => ?_) (fun g1 => ?_))
      · have hlt : 0 < l.length := by simp only [cA_lt, cA_num, decide_eq_true_eq] at g1; omega
        have hpi : lessG (atS l 0) s = false → posG s l = 0 := fun h => posG_is hi hlow (fun _ => h)
        repeat' first
          | (exfalso
             first
             | (simp only [cA_add, cA_sub, cA_fits, cA_lt, cA_le, cA_eq, cA_notB, cA_andB, cA_num, cA_subN, cA_toN, cA_eqB, beq_iff_eq, beq_eq_false_iff_ne, ne_eq, fitsK, ble_t, ble_f, flat4, rep_len, Bool.not_eq_false', Bool.not_eq_true', Bool.and_eq_false_iff, Bool.and_eq_true, decide_eq_true_eq, decide_eq_false_iff_not, List.length_append, List.length_nil, List.length_cons, List.length_take, List.length_drop, cA_ix] at g; omega)
             | (simp only [Value.cells, cA_add, cA_sub, cA_fits, cA_lt, cA_le, cA_notB, cA_andB, cA_num, cA_subN, cA_toN, fitsK, ble_t, ble_f, flat4, rep_len, beqN_f, Bool.and_eq_false_iff, Bool.and_eq_true, decide_eq_true_eq, decide_eq_false_iff_not, List.length_append, List.length_nil, List.length_cons, List.length_take, List.length_drop, cA_ix] at g; omega))
          | (((conv => whnf); refine bm (fun g => ?_) (fun g => ?_)))
          | ((conv => whnf)
             refine boL (getS l hlt ?_) ?_
             · first | (simp [cfgS, std]; done) | (simp [cfgS, std]; omega))
        all_goals (conv => whnf)
        all_goals try first
          | (refine ⟨l.length - (0 + 1), by omega, ?_⟩
             have hl : lessG (atS l 0) s = true := by
               have hg : cfgS.A.notB (lessG (atS l 0) s) = false := by assumption
               simpa only [cA_notB, Bool.not_eq_false'] using hg
             refine Into_id (e0 := e101 l.length l.length (0 + 1)) (h0 := h101 l s) (n0 := 2) ⟨0 + 1, 0 + 1, by omega, hlt, rfl, fun k hk => ?_, rfl, rfl, rfl⟩ ?_ ?_ (by decide)
             · by_cases hki : k = 0
               · subst hki; exact hl
               · exact hlow k (by omega)
             · unfold e101
               ((repeat' (refine List.forall_mem_cons.2 ⟨⟨rfl, ?_⟩, ?_⟩; (first | exact scT_g rfl | exact ⟨by decide, rfl⟩ | exact ⟨by decide, fun h => (by cases h)⟩))); exact fun _ h => (by cases h))
             · unfold h101
               ((repeat' (refine List.forall_mem_cons.2 ⟨⟨Nat.le_of_ble_eq_true rfl, _, rfl, ?_⟩, ?_⟩; (first | exact ObjRen_g (flat_g _ _) | exact ObjRen_j rfl rfl))); exact fun _ h => (by cases h)))
          | (exfalso
             refine absurd (g.symm.trans (grow_ok (by simp only [cA_toN, cA_subN]; omega) (Nat.le_of_eq ?_) ?_ rfl)) (by decide)
             · refine Eq.trans ?_ (len_one hi (insX0 rfl) rfl).symm
               show 0 + (0 + cfgS.A.toN 0 + 1) * 4 = _
               simp only [cA_toN]; omega
             · refine Eq.trans ?_ (len_one hi (insX0 rfl) rfl).symm
               show 0 + (0 + cfgS.A.toN 0 + 1) * 4 = _
               simp only [cA_toN]; omega)
          | (exfalso
             refine absurd (g.symm.trans (Nat.ble_eq_true_of_le (Nat.le_of_eq ?_))) (by decide)
             refine Eq.trans ?_ (len_one hi (insX0 rfl) rfl).symm
             show 0 + (0 + cfgS.A.toN 0 + 1 + 0) * 4 = _
             simp only [cA_toN]; omega)
        all_goals
            (have hl : lessG (atS l 0) s = false := by
               have hg : cfgS.A.notB (lessG (atS l 0) s) = true := by assumption
               simpa only [cA_notB, Bool.not_eq_true'] using hg
             have hk := knG_at (hpi hl) hlt
             first
               | (exfalso
                  have he : eqG (atS l 0) s = true := (eqK _ _).symm.trans (by assumption)
                  rw [he] at hk
                  rw [hk] at g
                  exact absurd g (by decide))
               | (exfalso
                  have he : eqG (atS l 0) s = false := (eqK _ _).symm.trans (by assumption)
                  rw [he] at hk
                  rw [hk] at g
                  exact absurd g (by decide))
               | (have hn := insG_new (hpi hl) g
                  have hle := insG_len hi hn
                  refine Yields_atS (l := insG l s) (nx := 0) (q := 5) (by omega) ?_ ?_ ⟨_, rfl, ?_⟩
                  · simp only [cA_toN, cA_subN]; omega
                  · simp only [cA_toN, cA_subN]; omega
                  · refine ins_cells hi (insX0 rfl) ?_ ?_ ?_ hn
                    · show (0 + cfgS.A.toN 0 + 1) * 4 = _
                      simp only [cA_toN]; omega
                    · show (cfgS.A.subN l.length (cfgS.A.toN 0)) * 4 = _
                      simp only [cA_toN, cA_subN]; omega
                    · show 0 + cfgS.A.toN 0 * 4 = _
                      simp only [cA_toN]; omega))
      · have hge : 0 = l.length := by simp only [cA_lt, cA_num, decide_eq_false_iff_not] at g1; omega
        have hpi : posG s l = 0 := posG_is hi hlow (fun h => absurd h (by omega))
        repeat' first
          | (exfalso
             first
             | (simp only [cA_add, cA_sub, cA_fits, cA_lt, cA_le, cA_eq, cA_notB, cA_andB, cA_num, cA_subN, cA_toN, cA_eqB, beq_iff_eq, beq_eq_false_iff_ne, ne_eq, fitsK, ble_t, ble_f, flat4, rep_len, Bool.not_eq_false', Bool.not_eq_true', Bool.and_eq_false_iff, Bool.and_eq_true, decide_eq_true_eq, decide_eq_false_iff_not, List.length_append, List.length_nil, List.length_cons, List.length_take, List.length_drop, cA_ix] at g; omega)
             | (simp only [Value.cells, cA_add, cA_sub, cA_fits, cA_lt, cA_le, cA_notB, cA_andB, cA_num, cA_subN, cA_toN, fitsK, ble_t, ble_f, flat4, rep_len, beqN_f, Bool.and_eq_false_iff, Bool.and_eq_true, decide_eq_true_eq, decide_eq_false_iff_not, List.length_append, List.length_nil, List.length_cons, List.length_take, List.length_drop, cA_ix] at g; omega))
          | (((conv => whnf); refine bm (fun g => ?_) (fun g => ?_)))
        all_goals (conv => whnf)
        all_goals try first
          | (exfalso
             refine absurd (g.symm.trans (grow_ok (by simp only [cA_toN, cA_subN]; omega) (Nat.le_of_eq ?_) ?_ rfl)) (by decide)
             · refine Eq.trans ?_ (len_one hi (insX0 rfl) rfl).symm
               show 0 + (0 + cfgS.A.toN 0 + 1) * 4 = _
               simp only [cA_toN]; omega
             · refine Eq.trans ?_ (len_one hi (insX0 rfl) rfl).symm
               show 0 + (0 + cfgS.A.toN 0 + 1) * 4 = _
               simp only [cA_toN]; omega)
          | (exfalso
             refine absurd (g.symm.trans (Nat.ble_eq_true_of_le (Nat.le_of_eq ?_))) (by decide)
             refine Eq.trans ?_ (len_one hi (insX0 rfl) rfl).symm
             show 0 + (0 + cfgS.A.toN 0 + 1 + 0) * 4 = _
             simp only [cA_toN]; omega)
        all_goals
            (have hk := knG_end (hge ▸ hpi)
             first
               | (exfalso; rw [hk] at g; exact absurd g (by decide))
               | (have hn := insG_new hpi hk
                  have hle := insG_len hi hn
                  have hn2 : insG l s = l ++ [s] := by rw [hn, hge, List.take_length, List.drop_length]
                  refine Yields_atS (l := insG l s) (nx := 0) (q := 5) (by omega) ?_ ?_ ⟨_, rfl, ?_⟩
                  · simp only [cA_toN, cA_subN]; omega
                  · simp only [cA_toN, cA_subN]; omega
                  · refine ins_cells_end (Eq.trans (insX0 rfl) (by rw [hge, List.take_length])) hn2 ?_
                    show 0 + (0 + cfgS.A.toN 0 + 1) * 4 = _
                    simp only [cA_toN]; omega))
    · ((conv => whnf); refine bm (fun g1 => ?_) (fun g1 => ?_))
      · have hlt : i < l.length := by simp only [cA_lt, cA_num, decide_eq_true_eq] at g1; omega
        have hpi : lessG (atS l i) s = false → posG s l = i := fun h => posG_is hi hlow (fun _ => h)
        repeat' first
          | (exfalso
             first
             | (simp only [cA_add, cA_sub, cA_fits, cA_lt, cA_le, cA_eq, cA_notB, cA_andB, cA_num, cA_subN, cA_toN, cA_eqB, beq_iff_eq, beq_eq_false_iff_ne, ne_eq, fitsK, ble_t, ble_f, flat4, rep_len, Bool.not_eq_false', Bool.not_eq_true', Bool.and_eq_false_iff, Bool.and_eq_true, decide_eq_true_eq, decide_eq_false_iff_not, List.length_append, List.length_nil, List.length_cons, List.length_take, List.length_drop, cA_ix] at g; omega)
             | (simp only [Value.cells, cA_add, cA_sub, cA_fits, cA_lt, cA_le, cA_notB, cA_andB, cA_num, cA_subN, cA_toN, fitsK, ble_t, ble_f, flat4, rep_len, beqN_f, Bool.and_eq_false_iff, Bool.and_eq_true, decide_eq_true_eq, decide_eq_false_iff_not, List.length_append, List.length_nil, List.length_cons, List.length_take, List.length_drop, cA_ix] at g; omega))
          | (((conv => whnf); refine bm (fun g => ?_) (fun g => ?_)))
          | ((conv => whnf)
             refine boL (getS l hlt ?_) ?_
             · first | (simp [cfgS, std]; done) | (simp [cfgS, std]; omega))
        all_goals (conv => whnf)
        all_goals try first
          | (refine ⟨l.length - (i + 1), by omega, ?_⟩
             have hl : lessG (atS l i) s = true := by
               have hg : cfgS.A.notB (lessG (atS l i) s) = false := by assumption
               simpa only [cA_notB, Bool.not_eq_false'] using hg
             refine Into_id (e0 := e101 l.length l.length (j + 1)) (h0 := h101 l s) (n0 := 2) ⟨i + 1, j + 1, by omega, hlt, rfl, fun k hk => ?_, rfl, rfl, rfl⟩ ?_ ?_ (by decide)
             · by_cases hki : k = i
               · subst hki; exact hl
               · exact hlow k (by omega)
             · unfold e101
               ((repeat' (refine List.forall_mem_cons.2 ⟨⟨rfl, ?_⟩, ?_⟩; (first | exact scT_g rfl | exact ⟨by decide, rfl⟩ | exact ⟨by decide, fun h => (by cases h)⟩))); exact fun _ h => (by cases h))
             · unfold h101
               ((repeat' (refine List.forall_mem_cons.2 ⟨⟨Nat.le_of_ble_eq_true rfl, _, rfl, ?_⟩, ?_⟩; (first | exact ObjRen_g (flat_g _ _) | exact ObjRen_j rfl rfl))); exact fun _ h => (by cases h)))
          | (exfalso
             refine absurd (g.symm.trans (grow_ok (by simp only [cA_toN, cA_subN]; omega) (Nat.le_of_eq ?_) ?_ rfl)) (by decide)
             · refine Eq.trans ?_ (len_one hi (insX1 (i := i) hi (by show (0 + cfgS.A.toN j) * 4 = _; simp only [cA_toN]; omega) rfl (by show cfgS.A.toN j * 4 = _; simp only [cA_toN]; omega)) rfl).symm
               show 0 + (0 + cfgS.A.toN j + 1) * 4 = _
               simp only [cA_toN]; omega
             · refine Eq.trans ?_ (len_one hi (insX1 (i := i) hi (by show (0 + cfgS.A.toN j) * 4 = _; simp only [cA_toN]; omega) rfl (by show cfgS.A.toN j * 4 = _; simp only [cA_toN]; omega)) rfl).symm
               show 0 + (0 + cfgS.A.toN j + 1) * 4 = _
               simp only [cA_toN]; omega)
          | (exfalso
             refine absurd (g.symm.trans (Nat.ble_eq_true_of_le (Nat.le_of_eq ?_))) (by decide)
             refine Eq.trans ?_ (len_one hi (insX1 (i := i) hi (by show (0 + cfgS.A.toN j) * 4 = _; simp only [cA_toN]; omega) rfl (by show cfgS.A.toN j * 4 = _; simp only [cA_toN]; omega)) rfl).symm
             show 0 + (0 + cfgS.A.toN j + 1 + 0) * 4 = _
             simp only [cA_toN]; omega)
        all_goals
            (have hl : lessG (atS l i) s = false := by
               have hg : cfgS.A.notB (lessG (atS l i) s) = true := by assumption
               simpa only [cA_notB, Bool.not_eq_true'] using hg
             have hk := knG_at (hpi hl) hlt
             first
               | (exfalso
                  have he : eqG (atS l i) s = true := (eqK _ _).symm.trans (by assumption)
                  rw [he] at hk
                  rw [hk] at g
                  exact absurd g (by decide))
               | (exfalso
                  have he : eqG (atS l i) s = false := (eqK _ _).symm.trans (by assumption)
                  rw [he] at hk
                  rw [hk] at g
                  exact absurd g (by decide))
               | (have hn := insG_new (hpi hl) g
                  have hle := insG_len hi hn
                  refine Yields_atS (l := insG l s) (nx := 0) (q := 6) (by omega) ?_ ?_ ⟨_, rfl, ?_⟩
                  · simp only [cA_toN, cA_subN]; omega
                  · simp only [cA_toN, cA_subN]; omega
                  · refine ins_cells hi (insX1 (i := i) hi (by show (0 + cfgS.A.toN j) * 4 = _; simp only [cA_toN]; omega) rfl (by show cfgS.A.toN j * 4 = _; simp only [cA_toN]; omega)) ?_ ?_ ?_ hn
                    · show (0 + cfgS.A.toN j + 1) * 4 = _
                      simp only [cA_toN]; omega
                    · show (cfgS.A.subN l.length (cfgS.A.toN j)) * 4 = _
                      simp only [cA_toN, cA_subN]; omega
                    · show 0 + cfgS.A.toN j * 4 = _
                      simp only [cA_toN]; omega))
      · have hge : i = l.length := by simp only [cA_lt, cA_num, decide_eq_false_iff_not] at g1; omega
        have hpi : posG s l = i := posG_is hi hlow (fun h => absurd h (by omega))
        repeat' first
          | (exfalso
             first
             | (simp only [cA_add, cA_sub, cA_fits, cA_lt, cA_le, cA_eq, cA_notB, cA_andB, cA_num, cA_subN, cA_toN, cA_eqB, beq_iff_eq, beq_eq_false_iff_ne, ne_eq, fitsK, ble_t, ble_f, flat4, rep_len, Bool.not_eq_false', Bool.not_eq_true', Bool.and_eq_false_iff, Bool.and_eq_true, decide_eq_true_eq, decide_eq_false_iff_not, List.length_append, List.length_nil, List.length_cons, List.length_take, List.length_drop, cA_ix] at g; omega)
             | (simp only [Value.cells, cA_add, cA_sub, cA_fits, cA_lt, cA_le, cA_notB, cA_andB, cA_num, cA_subN, cA_toN, fitsK, ble_t, ble_f, flat4, rep_len, beqN_f, Bool.and_eq_false_iff, Bool.and_eq_true, decide_eq_true_eq, decide_eq_false_iff_not, List.length_append, List.length_nil, List.length_cons, List.length_take, List.length_drop, cA_ix] at g; omega))
          | (((conv => whnf); refine bm (fun g => ?_) (fun g => ?_)))
        all_goals (conv => whnf)
        all_goals try first
          | (exfalso
             refine absurd (g.symm.trans (grow_ok (by simp only [cA_toN, cA_subN]; omega) (Nat.le_of_eq ?_) ?_ rfl)) (by decide)
             · refine Eq.trans ?_ (len_one hi (insX1 (i := i) hi (by show (0 + cfgS.A.toN j) * 4 = _; simp only [cA_toN]; omega) rfl (by show cfgS.A.toN j * 4 = _; simp only [cA_toN]; omega)) rfl).symm
               show 0 + (0 + cfgS.A.toN j + 1) * 4 = _
               simp only [cA_toN]; omega
             · refine Eq.trans ?_ (len_one hi (insX1 (i := i) hi (by show (0 + cfgS.A.toN j) * 4 = _; simp only [cA_toN]; omega) rfl (by show cfgS.A.toN j * 4 = _; simp only [cA_toN]; omega)) rfl).symm
               show 0 + (0 + cfgS.A.toN j + 1) * 4 = _
               simp only [cA_toN]; omega)
          | (exfalso
             refine absurd (g.symm.trans (Nat.ble_eq_true_of_le (Nat.le_of_eq ?_))) (by decide)
             refine Eq.trans ?_ (len_one hi (insX1 (i := i) hi (by show (0 + cfgS.A.toN j) * 4 = _; simp only [cA_toN]; omega) rfl (by show cfgS.A.toN j * 4 = _; simp only [cA_toN]; omega)) rfl).symm
             show 0 + (0 + cfgS.A.toN j + 1 + 0) * 4 = _
             simp only [cA_toN]; omega)
        all_goals
            (have hk := knG_end (hge ▸ hpi)
             first
               | (exfalso; rw [hk] at g; exact absurd g (by decide))
               | (have hn := insG_new hpi hk
                  have hle := insG_len hi hn
                  have hn2 : insG l s = l ++ [s] := by rw [hn, hge, List.take_length, List.drop_length]
                  refine Yields_atS (l := insG l s) (nx := 0) (q := 6) (by omega) ?_ ?_ ⟨_, rfl, ?_⟩
                  · simp only [cA_toN, cA_subN]; omega
                  · simp only [cA_toN, cA_subN]; omega
                  · refine ins_cells_end (Eq.trans (insX1 (i := i) hi (by show (0 + cfgS.A.toN j) * 4 = _; simp only [cA_toN]; omega) rfl (by show cfgS.A.toN j * 4 = _; simp only [cA_toN]; omega)) (by rw [hge, List.take_length])) hn2 ?_
                    show 0 + (0 + cfgS.A.toN j + 1) * 4 = _
                    simp only [cA_toN]; omega))
end Go.Aw
