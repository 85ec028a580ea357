/-
  Compact over points, all else of the caller's kept. No condition.
-/
import Derived.Test.YtmkcjbpekejgdaaGreatSeI
import Derived.Test.YtmkcjbpekejgdaaGreatSeK
set_option linter.unusedSimpArgs false
set_option linter.unusedVariables false
noncomputable section
namespace Go.Aw
set_option maxRecDepth 100000
/-- Of equal neighbours the first. -/
def ddI (l : List (Int × Int)) : Nat → List (Int × Int)
  | 0 => []
  | p + 1 => ddI l p ++ (if p = 0 ∨ eqP (at2 l p) (at2 l (p - 1)) = false then [at2 l p] else [])
theorem ddI_len (l : List (Int × Int)) : ∀ p, (ddI l p).length ≤ p
  | 0 => Nat.le_refl _
  | p + 1 => by
    have := ddI_len l p
    unfold ddI
    rw [List.length_append]
    split <;> simp <;> omega
theorem ddI_yes {l : List (Int × Int)} {p : Nat} (h : eqP (at2 l p) (at2 l (p - 1)) = false) : ddI l (p + 1) = ddI l p ++ [at2 l p] := by
  conv => lhs; unfold ddI
  rw [if_pos (.inr h)]
theorem ddI_no {l : List (Int × Int)} {p : Nat} (h0 : 0 < p) (h : eqP (at2 l p) (at2 l (p - 1)) = true) : ddI l (p + 1) = ddI l p := by
  conv => lhs; unfold ddI
  rw [if_neg (by rintro (h1 | h1); · omega
                 · rw [h] at h1; cases h1), List.append_nil]
theorem ddI_all {l : List (Int × Int)} : ∀ p, p ≤ l.length → (∀ i, 0 < i → i < p → eqP (at2 l i) (at2 l (i - 1)) = false) → ddI l p = l.take p
  | 0, _, _ => rfl
  | p + 1, hp, h => by
    unfold ddI
    have h1 : p = 0 ∨ eqP (at2 l p) (at2 l (p - 1)) = false := by
      by_cases h0 : p = 0
      · exact .inl h0
      · exact .inr (h p (by omega) (by omega))
    rw [if_pos h1, ddI_all p (by omega) (fun i h0 hi => h i h0 (by omega)), at2_eq (show p < l.length by omega), List.take_append_getElem (by omega)]
def comW (l : List (Int × Int)) (p : Nat) : List (Int × Int) := ddI l p ++ l.drop (ddI l p).length
theorem comW_len (l : List (Int × Int)) {p : Nat} (hp : p ≤ l.length) : (comW l p).length = l.length := by
  have := ddI_len l p
  unfold comW
  rw [List.length_append, List.length_drop]
  omega
theorem comW_at (l : List (Int × Int)) {p k : Nat} (hp : p ≤ l.length) (hk : (ddI l p).length ≤ k) (hkl : k < l.length) : at2 (comW l p) k = at2 l k := by
  rw [at2_eq (by rw [comW_len l hp]; exact hkl), at2_eq hkl]
  unfold comW
  rw [List.getElem_append_right hk, List.getElem_drop]
  congr 1
  omega
theorem comW_set {l : List (Int × Int)} {p : Nat} (hp : p < l.length) (hd : (ddI l p).length < p) (h : eqP (at2 l p) (at2 l (p - 1)) = false) : (comW l p).set (ddI l p).length (at2 l p) = comW l (p + 1) := by
  unfold comW
  rw [ddI_yes h, List.length_append, List.length_singleton]
  rw [List.set_append_right _ _ (Nat.le_refl _), Nat.sub_self, List.append_assoc]
  congr 1
  rw [List.drop_eq_getElem_cons (show (ddI l p).length < l.length by omega)]
  rfl
theorem comW_same {l : List (Int × Int)} {p : Nat} (h0 : 0 < p) (h : eqP (at2 l p) (at2 l (p - 1)) = true) : comW l p = comW l (p + 1) := by
  unfold comW
  rw [ddI_no h0 h]
theorem comW_first {l : List (Int × Int)} {p : Nat} (h0 : 0 < p) (hp : p < l.length) (hno : ∀ i, 0 < i → i < p → eqP (at2 l i) (at2 l (i - 1)) = false) (h : eqP (at2 l p) (at2 l (p - 1)) = true) : comW l (p + 1) = l ∧ (ddI l (p + 1)).length = p := by
  have e := ddI_all p (by omega) hno
  have e2 : ddI l (p + 1) = l.take p := by rw [ddI_no h0 h, e]
  have e3 : (ddI l (p + 1)).length = p := by rw [e2, List.length_take]; omega
  refine ⟨?_, e3⟩
  unfold comW
  rw [e3, e2, List.take_append_drop]
theorem com_clear {l : List (Int × Int)} {o m : Nat} (ho : o = (ddI l l.length).length * 2) (hm : m = l.length - (ddI l l.length).length) : putN (flat elP.fl (comW l l.length)) o (rep m [iv 0, iv 0]) = flat elP.fl (ddI l l.length) ++ rep m [iv 0, iv 0] := by
  have h1 := ddI_len l l.length
  subst ho
  unfold putN comW
  have l1 : (flat elP.fl (ddI l l.length)).length = (ddI l l.length).length * 2 := flat2 _
  have l2 : (flat elP.fl (l.drop (ddI l l.length).length)).length = (l.length - (ddI l l.length).length) * 2 := by rw [flat2, List.length_drop]
  have l3 : (rep m [iv 0, iv 0]).length = m * 2 := rep_len _ _
  rw [flat_append, List.take_left' l1, l3]
  rw [List.drop_eq_nil_of_le (by rw [List.length_append, l1, l2, hm]; omega), List.append_nil]
def SCo (l : List (Int × Int)) : List Value → Nat → Option (Bool × Option Nat × List Value)
  | [], c => some (decide (l.length ≤ 1000000) && decide (l.length ≤ c), some (ddI l l.length).length, flat elP.fl (ddI l l.length) ++ rep (l.length - (ddI l l.length).length) [iv 0, iv 0])
  | _, _ => none
theorem SCo_inv {l : List (Int × Int)} {r : List Value} {c : Nat} {m : Option Nat} {cs : List Value} (h : SCo l r c = some (true, m, cs)) : r = [] ∧ l.length ≤ 1000000 ∧ l.length ≤ c ∧ m = some (ddI l l.length).length ∧ cs = flat elP.fl (ddI l l.length) ++ rep (l.length - (ddI l l.length).length) [iv 0, iv 0] := by
  unfold SCo at h
  split at h
  · injection h with h; injection h with h1 h2; injection h2 with h2 h3
    simp only [Bool.and_eq_true, decide_eq_true_eq] at h1
    exact ⟨rfl, h1.1, h1.2, h2.symm, h3.symm⟩
  · cases h
theorem rep_g (n : Nat) : allG (rep n [iv 0, iv 0]) = true := by
  unfold rep
  refine allG_of fun v hv => ?_
  obtain ⟨x, hx, hv⟩ := List.mem_flatten.1 hv
  rw [(List.mem_replicate.1 hx).2] at hv
  simp only [List.mem_cons, List.not_mem_nil, or_false] at hv
  rcases hv with rfl | rfl <;> rfl
theorem ren_sl (k o n c : Nat) : ren id (.slice (some ⟨k, o, none⟩) n c) = .slice (some ⟨k, o, none⟩) n c := by
  unfold ren
  simp only [tr, trA, trS, trP, at0, Nat.zero_add, Nat.add_zero, id]
def e79 (n c : Nat) (k : Int) : List (Nat × Value) := [(0, .slice (some ⟨0, 0, none⟩) n c), (3, iv k)]
def e79i (n c : Nat) (o2 n2 c2 : Nat) (k k2 : Int) : List (Nat × Value) := [(0, .slice (some ⟨0, 0, none⟩) n c), (3, iv k), (4, .slice (some ⟨0, o2, none⟩) n2 c2), (5, iv k2)]
theorem getC {l : List (Int × Int)} {p q o : Nat} (hp : p ≤ l.length) (hd : (ddI l p).length ≤ q) (hq : q < l.length) (ho : o = q * 2) : getN (flat elP.fl (comW l p)) o 2 = some [iv (at2 l q).1, iv (at2 l q).2] := by
  rw [← comW_at l hp hd hq]
  exact getP _ (by rw [comW_len l hp]; exact hq) ho
set_option maxHeartbeats 1000000 in
attribute [local irreducible] at2 comW ddI in
theorem d79 : XOK Go.Proofs.Tryz.prog 79 (frX elP SCo) := frX_ok elP (s := SCo) (f := 79) (body_calls (xl := []) .nil) fun l r c m cs' hs => by
  obtain ⟨rfl, hlen, hlc, rfl, rfl⟩ := SCo_inv hs
  refine ⟨rfl, by rw [allG_append, flat_g elP, rep_g]; rfl, (fun q e => by injection e with e; rw [← e]; exact ddI_len l _), fun F N hF => ?_⟩
  have hN := hF.1
  clear hs
  ((conv => whnf); refine bm (fun h1 => ?_) (fun h1 => ?_))
  · have hsm : l.length < 2 := by simp only [cA_lt, cA_num, decide_eq_true_eq] at h1; omega
    have hd : ddI l l.length = l := by
      rw [ddI_all l.length (Nat.le_refl _) (fun i h0 hi => by omega), List.take_length]
    rw [hd, Nat.sub_self]
    (conv => whnf)
    exact ⟨rfl, (by show (0, AObj.cells true false 2 (flat elP.fl l)) :: F = _; rw [show rep 0 [iv 0, iv 0] = [] from rfl, List.append_nil]; rfl)⟩
  · have hbig : 2 ≤ l.length := by simp only [cA_lt, cA_num, decide_eq_false_iff_not] at h1; omega
    (conv => whnf)
    refine ⟨fun n e h nq => ∃ (i : Nat) (a : Int), a = i ∧ 1 ≤ i ∧ i ≤ l.length ∧ n = l.length - i ∧ (∀ j, 0 < j → j < i → eqP (at2 l j) (at2 l (j - 1)) = false) ∧ e = e79 l.length c a ∧ h = (0, .cells true false 2 (flat elP.fl l)) :: F ∧ nq = N, ⟨l.length - 1, ?_⟩, ?_⟩
    · refine Into_fr (e0 := e79 l.length c 1) hF ⟨1, 1, rfl, Nat.le_refl _, by omega, rfl, (fun j h0 h1 => by omega), rfl, rfl, rfl⟩ ?_ ?_ (Nat.le_refl _)
      · unfold e79
        ((repeat' (refine List.forall_mem_cons.2 ⟨⟨by first | rfl | (rw [ren_sl]; rfl), ?_⟩, ?_⟩; (first | exact scT_g rfl | exact ⟨hN, fun h => (by cases h)⟩))); exact fun _ h => (by cases h))
      · exact ObjRen_g (flat_g elP _)
    · rintro n e h nq ⟨i, a, ha, hi1, hi, rfl, hno, rfl, rfl, hnx⟩
      subst hnx
      unfold e79
      ((conv => whnf); refine bm (fun g1 => ?_) (fun g1 => ?_))
      · have hlt : i < l.length := by simp only [cA_lt, cA_num, decide_eq_true_eq] at g1; omega
        have hlt1 : i - 1 < l.length := by omega
        have hi0 : 0 < i := by omega
        repeat' first
          | (exfalso
             simp only [cA_add, cA_sub, cA_fits, cA_lt, cA_le, cA_eq, cA_notB, cA_andB, cA_num, cA_subN, cA_toN, fitsK, ble_t, ble_f, flat2, Bool.not_eq_false', Bool.not_eq_true', Bool.and_eq_false_iff, Bool.and_eq_true, decide_eq_true_eq, decide_eq_false_iff_not, List.length_append, List.length_take, List.length_drop, List.length_nil, List.length_cons, cA_ix, rep_len, putN] at g; omega)
          | (((conv => whnf); refine bm (fun g => ?_) (fun g => ?_)))
          | ((conv => whnf)
             refine boL (getP l hlt ?_) ?_
             · simp [cfgS, std]; omega)
          | ((conv => whnf)
             refine boL (getP l hlt1 ?_) ?_
             · show 0 + (a - 1).toNat * 2 = _
               omega)
        all_goals (conv => whnf)
        · have hdup : eqP (at2 l i) (at2 l (i - 1)) = true := ‹cfgS.A.andB (cfgS.A.eq (at2 l i).fst (at2 l (i - 1)).fst) (cfgS.A.andB (cfgS.A.eq (at2 l i).snd (at2 l (i - 1)).snd) true) = true›
          obtain ⟨hW, hD⟩ := comW_first hi0 hlt hno hdup
          refine ⟨fun m e h nr => ∃ (p : Nat) (a' b : Int), i + 1 ≤ p ∧ p ≤ l.length ∧ m = l.length - p ∧ b = (p : Int) - i ∧ a' = ((ddI l p).length : Int) ∧ (ddI l p).length < p ∧ e = e79i l.length c (cfgS.A.ix 0 a 2) (cfgS.A.subN l.length (cfgS.A.toN a)) (cfgS.A.subN c (cfgS.A.toN a)) a' b ∧ h = (0, .cells true false 2 (flat elP.fl (comW l p))) :: F ∧ nr = nq, ⟨l.length - (i + 1), ?_⟩, ?_⟩
          · refine Into_fr (e0 := e79i l.length c (cfgS.A.ix 0 a 2) (cfgS.A.subN l.length (cfgS.A.toN a)) (cfgS.A.subN c (cfgS.A.toN a)) a 1) hF ⟨i + 1, a, 1, Nat.le_refl _, by omega, rfl, by omega, by rw [hD]; exact ha, by omega, rfl, rfl, rfl⟩ ?_ ?_ (Nat.le_refl _)
            · unfold e79i
              ((repeat' (refine List.forall_mem_cons.2 ⟨⟨by first | rfl | (rw [ren_sl]; rfl), ?_⟩, ?_⟩; (first | exact scT_g rfl | exact ⟨hN, fun h => (by cases h)⟩))); exact fun _ h => (by cases h))
            · rw [hW]
              exact ObjRen_g (flat_g elP _)
          · rintro m e h nr ⟨p, a', b, hp1, hp2, rfl, hb, ha', hd', rfl, rfl, hnr⟩
            subst hnr
            have hF := hF
            unfold e79i
            ((conv => whnf); refine bm (fun g2 => ?_) (fun g2 => ?_))
            · have hpl : p < l.length := by simp only [cA_lt, cA_num, cA_subN, cA_toN, decide_eq_true_eq] at g2; omega
              have hwl := comW_len l hp2
              repeat' first
                | (exfalso
                   simp only [cA_add, cA_sub, cA_fits, cA_lt, cA_le, cA_eq, cA_notB, cA_andB, cA_num, cA_subN, cA_toN, fitsK, ble_t, ble_f, flat2, hwl, Bool.not_eq_false', Bool.not_eq_true', Bool.and_eq_false_iff, Bool.and_eq_true, decide_eq_true_eq, decide_eq_false_iff_not, List.length_nil, List.length_cons, cA_ix] at g; omega)
                | (((conv => whnf); refine bm (fun g => ?_) (fun g => ?_)))
                | ((conv => whnf)
                   refine boL (getC (q := p) hp2 (by omega) hpl ?_) ?_
                   · simp only [cA_ix, cA_sub]; omega)
                | ((conv => whnf)
                   refine boL (getC (q := p - 1) hp2 (by omega) (by omega) ?_) ?_
                   · simp only [cA_ix, cA_sub]; omega)
              all_goals (conv => whnf)
              · have hneq : eqP (at2 l p) (at2 l (p - 1)) = false := by
                  have hg : (!(eqP (at2 l p) (at2 l (p - 1)))) = true := ‹cfgS.A.notB (cfgS.A.andB (cfgS.A.eq (at2 l p).fst (at2 l (p - 1)).fst) (cfgS.A.andB (cfgS.A.eq (at2 l p).snd (at2 l (p - 1)).snd) true)) = true›
                  simpa using hg
                refine ⟨l.length - (p + 1), by omega, ?_⟩
                refine Into_fr (e0 := e79i l.length c (cfgS.A.ix 0 a 2) (cfgS.A.subN l.length (cfgS.A.toN a)) (cfgS.A.subN c (cfgS.A.toN a)) (a' + 1) (b + 1)) hF ⟨p + 1, a' + 1, b + 1, by omega, hpl, rfl, by omega, by rw [ddI_yes hneq, List.length_append, List.length_singleton]; omega, by rw [ddI_yes hneq, List.length_append, List.length_singleton]; omega, rfl, rfl, rfl⟩ ?_ ?_ (Nat.le_refl _)
                · unfold e79i
                  ((repeat' (refine List.forall_mem_cons.2 ⟨⟨by first | rfl | (rw [ren_sl]; rfl), ?_⟩, ?_⟩; (first | exact scT_g rfl | exact ⟨hN, fun h => (by cases h)⟩))); exact fun _ h => (by cases h))
                · refine ObjRen_j (flat_g elP _) ?_
                  rw [← comW_set hpl hd' hneq, ← flat_set _ _ _ (by rw [comW_len l hp2]; omega)]
                  show putN _ (0 + a'.toNat * 2) _ = _
                  rw [show 0 + a'.toNat * 2 = (ddI l p).length * 2 by omega]
                  rfl
              · exfalso
                have hx : 0 + a'.toNat * 2 + 2 ≤ (flat elP.fl (comW l p)).length := by rw [flat2, hwl]; omega
                have hc : Nat.ble (0 + a'.toNat * 2 + 2) (flat elP.fl (comW l p)).length = false := g
                rw [Nat.ble_eq_true_of_le hx] at hc
                cases hc
              · have hneq : eqP (at2 l p) (at2 l (p - 1)) = true := by
                  have hg : (!(eqP (at2 l p) (at2 l (p - 1)))) = false := ‹cfgS.A.notB (cfgS.A.andB (cfgS.A.eq (at2 l p).fst (at2 l (p - 1)).fst) (cfgS.A.andB (cfgS.A.eq (at2 l p).snd (at2 l (p - 1)).snd) true)) = false›
                  simpa using hg
                refine ⟨l.length - (p + 1), by omega, ?_⟩
                refine Into_fr (e0 := e79i l.length c (cfgS.A.ix 0 a 2) (cfgS.A.subN l.length (cfgS.A.toN a)) (cfgS.A.subN c (cfgS.A.toN a)) a' (b + 1)) hF ⟨p + 1, a', b + 1, by omega, hpl, rfl, by omega, by rw [ddI_no (by omega) hneq]; exact ha', by rw [ddI_no (by omega) hneq]; omega, rfl, rfl, rfl⟩ ?_ ?_ (Nat.le_refl _)
                · unfold e79i
                  ((repeat' (refine List.forall_mem_cons.2 ⟨⟨by first | rfl | (rw [ren_sl]; rfl), ?_⟩, ?_⟩; (first | exact scT_g rfl | exact ⟨hN, fun h => (by cases h)⟩))); exact fun _ h => (by cases h))
                · rw [comW_same (by omega) hneq]
                  exact ObjRen_g (flat_g elP _)
            · have hpe : p = l.length := by simp only [cA_lt, cA_num, cA_subN, cA_toN, decide_eq_false_iff_not] at g2; omega
              subst hpe
              repeat' first
                | (exfalso
                   simp only [cA_add, cA_sub, cA_fits, cA_lt, cA_le, cA_eq, cA_notB, cA_andB, cA_num, cA_subN, cA_toN, fitsK, ble_t, ble_f, flat2, Bool.not_eq_false', Bool.not_eq_true', Bool.and_eq_false_iff, Bool.and_eq_true, decide_eq_true_eq, decide_eq_false_iff_not, List.length_append, List.length_take, List.length_drop, List.length_nil, List.length_cons, cA_ix, rep_len, putN] at g; omega)
                | (((conv => whnf); refine bm (fun g => ?_) (fun g => ?_)))
              all_goals (conv => whnf)
              obtain ⟨M, hM⟩ : ∃ M : Nat, cfgS.A.subN l.length (cfgS.A.toN a') = M + 1 := ⟨l.length - a'.toNat - 1, by simp only [cA_subN, cA_toN]; omega⟩
              have hM2 : M + 1 = l.length - (ddI l l.length).length := by
                have : l.length - a'.toNat = M + 1 := hM
                omega
              rw [hM]
              repeat' first
                | (exfalso
                   simp only [cA_add, cA_sub, cA_fits, cA_lt, cA_le, cA_eq, cA_notB, cA_andB, cA_num, cA_subN, cA_toN, fitsK, ble_t, ble_f, flat2, Bool.not_eq_false', Bool.not_eq_true', Bool.and_eq_false_iff, Bool.and_eq_true, decide_eq_true_eq, decide_eq_false_iff_not, List.length_append, List.length_take, List.length_drop, List.length_nil, List.length_cons, cA_ix, rep_len, putN] at g; omega)
                | (((conv => whnf); refine bm (fun g => ?_) (fun g => ?_)))
              all_goals (conv => whnf)
              rotate_left
              all_goals try
                (exfalso
                 have hx : 0 + a'.toNat * 2 + (M + 1) * 2 ≤ (flat elP.fl (comW l l.length)).length := by rw [flat2, comW_len l (Nat.le_refl _)]; omega
                 have hc : Nat.ble (0 + a'.toNat * 2 + (M + 1) * 2) (flat elP.fl (comW l l.length)).length = false := g
                 rw [Nat.ble_eq_true_of_le hx] at hc
                 cases hc)
              all_goals try
                (exfalso
                 simp only [cA_add, cA_sub, cA_fits, cA_lt, cA_le, cA_eq, cA_notB, cA_andB, cA_num, cA_subN, cA_toN, fitsK, ble_t, ble_f, flat2, Bool.not_eq_false', Bool.not_eq_true', Bool.and_eq_false_iff, Bool.and_eq_true, decide_eq_true_eq, decide_eq_false_iff_not, List.length_append, List.length_take, List.length_drop, List.length_nil, List.length_cons, cA_ix, rep_len, putN] at g; omega)
              · refine ⟨?_, ?_⟩
                · show Value.slice (some ⟨0, 0, none⟩) a'.toNat c = .slice (some ⟨0, 0, none⟩) _ c
                  rw [show a'.toNat = (ddI l l.length).length by omega]
                · show (0, AObj.cells true false 2 (putN (flat elP.fl (comW l l.length)) (0 + a'.toNat * 2) (rep (M + 1) [iv 0, iv 0]))) :: F = _
                  rw [com_clear (by omega) hM2, hM2]
                  rfl
              all_goals trace_state
        · have hnd : eqP (at2 l i) (at2 l (i - 1)) = false := ‹cfgS.A.andB (cfgS.A.eq (at2 l i).fst (at2 l (i - 1)).fst) (cfgS.A.andB (cfgS.A.eq (at2 l i).snd (at2 l (i - 1)).snd) true) = false›
          refine ⟨l.length - (i + 1), by omega, ?_⟩
          refine Into_fr (e0 := e79 l.length c (a + 1)) hF ⟨i + 1, a + 1, by omega, by omega, hlt, rfl, (fun j h0 h1 => ?_), rfl, rfl, rfl⟩ ?_ ?_ (Nat.le_refl _)
          · by_cases e : j = i
            · rw [e]; exact hnd
            · exact hno j h0 (by omega)
          · unfold e79
            ((repeat' (refine List.forall_mem_cons.2 ⟨⟨by first | rfl | (rw [ren_sl]; rfl), ?_⟩, ?_⟩; (first | exact scT_g rfl | exact ⟨hN, fun h => (by cases h)⟩))); exact fun _ h => (by cases h))
          · exact ObjRen_g (flat_g elP _)
      · have hge : i = l.length := by simp only [cA_lt, cA_num, decide_eq_false_iff_not] at g1; omega
        subst hge
        have hd : ddI l l.length = l := by
          rw [ddI_all l.length (Nat.le_refl _) (fun i h0 hi => hno i h0 hi), List.take_length]
        rw [hd, Nat.sub_self]
        (conv => whnf)
        exact ⟨rfl, (by show (0, AObj.cells true false 2 (flat elP.fl l)) :: F = _; rw [show rep 0 [iv 0, iv 0] = [] from rfl, List.append_nil]; rfl)⟩
end Go.Aw
