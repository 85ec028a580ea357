/-
  Compact over segments, all else of the caller's kept. No condition.
-/
import Derived.Test.YtmkcjbpekejgdaaGreatSe112
import Derived.Test.YtmkcjbpekejgdaaGreatSe98
set_option linter.unusedSimpArgs false
set_option linter.unusedVariables false
noncomputable section
namespace Go.Aw
set_option maxRecDepth 100000
theorem flat4 (l : List Sg) : (flat elS.fl l).length = l.length * 4 := by rw [flat_len]; rfl
theorem flat_setS (l : List Sg) : ∀ (i : Nat) (v : Sg), i < l.length → putN (flat elS.fl l) (i * 4) [iv v.1.1, iv v.1.2, iv v.2.1, iv v.2.2] = flat elS.fl (l.set i v) := by
  induction l with
  | nil => intro i v h; cases h
  | cons a r ih =>
    intro i v h
    cases i with
    | zero => rfl
    | succ i =>
      have := ih i v (by simpa using h)
      simp only [List.set_cons_succ, flat, ← this]
      have e : (i + 1) * 4 = i * 4 + 4 := by omega
      rw [e]
      unfold putN
      show List.take (i * 4 + 4) (iv a.1.1 :: iv a.1.2 :: iv a.2.1 :: iv a.2.2 :: flat elS.fl r) ++ _ ++ List.drop (i * 4 + 4 + 4) (iv a.1.1 :: iv a.1.2 :: iv a.2.1 :: iv a.2.2 :: flat elS.fl r) = _
      rfl
/-- Of equal neighbours the first. -/
def ddG (l : List Sg) : Nat → List Sg
  | 0 => []
  | p + 1 => ddG l p ++ (if p = 0 ∨ eqG (atS l p) (atS l (p - 1)) = false then [atS l p] else [])
theorem ddG_len (l : List Sg) : ∀ p, (ddG l p).length ≤ p
  | 0 => Nat.le_refl _
  | p + 1 => by
    have := ddG_len l p
    unfold ddG
    rw [List.length_append]
    split <;> simp <;> omega
theorem ddG_yes {l : List Sg} {p : Nat} (h : eqG (atS l p) (atS l (p - 1)) = false) : ddG l (p + 1) = ddG l p ++ [atS l p] := by
  conv => lhs; unfold ddG
  rw [if_pos (.inr h)]
theorem ddG_no {l : List Sg} {p : Nat} (h0 : 0 < p) (h : eqG (atS l p) (atS l (p - 1)) = true) : ddG l (p + 1) = ddG l p := by
  conv => lhs; unfold ddG
  rw [if_neg (by rintro (h1 | h1); · omega
                 · rw [h] at h1; cases h1), List.append_nil]
theorem ddG_all {l : List Sg} : ∀ p, p ≤ l.length → (∀ i, 0 < i → i < p → eqG (atS l i) (atS l (i - 1)) = false) → ddG l p = l.take p
  | 0, _, _ => rfl
  | p + 1, hp, h => by
    unfold ddG
    have h1 : p = 0 ∨ eqG (atS l p) (atS l (p - 1)) = false := by
      by_cases h0 : p = 0
      · exact .inl h0
      · exact .inr (h p (by omega) (by omega))
    rw [if_pos h1, ddG_all p (by omega) (fun i h0 hi => h i h0 (by omega)), atS_eq (show p < l.length by omega), List.take_append_getElem (by omega)]
def comG (l : List Sg) (p : Nat) : List Sg := ddG l p ++ l.drop (ddG l p).length
theorem comG_len (l : List Sg) {p : Nat} (hp : p ≤ l.length) : (comG l p).length = l.length := by
  have := ddG_len l p
  unfold comG
  rw [List.length_append, List.length_drop]
  omega
theorem comG_at (l : List Sg) {p k : Nat} (hp : p ≤ l.length) (hk : (ddG l p).length ≤ k) (hkl : k < l.length) : atS (comG l p) k = atS l k := by
  rw [atS_eq (by rw [comG_len l hp]; exact hkl), atS_eq hkl]
  unfold comG
  rw [List.getElem_append_right hk, List.getElem_drop]
  congr 1
  omega
theorem comG_set {l : List Sg} {p : Nat} (hp : p < l.length) (hd : (ddG l p).length < p) (h : eqG (atS l p) (atS l (p - 1)) = false) : (comG l p).set (ddG l p).length (atS l p) = comG l (p + 1) := by
  unfold comG
  rw [ddG_yes h, List.length_append, List.length_singleton]
  rw [List.set_append_right _ _ (Nat.le_refl _), Nat.sub_self, List.append_assoc]
  congr 1
  rw [List.drop_eq_getElem_cons (show (ddG l p).length < l.length by omega)]
  rfl
theorem comG_same {l : List Sg} {p : Nat} (h0 : 0 < p) (h : eqG (atS l p) (atS l (p - 1)) = true) : comG l p = comG l (p + 1) := by
  unfold comG
  rw [ddG_no h0 h]
theorem comG_first {l : List Sg} {p : Nat} (h0 : 0 < p) (hp : p < l.length) (hno : ∀ i, 0 < i → i < p → eqG (atS l i) (atS l (i - 1)) = false) (h : eqG (atS l p) (atS l (p - 1)) = true) : comG l (p + 1) = l ∧ (ddG l (p + 1)).length = p := by
  have e := ddG_all p (by omega) hno
  have e2 : ddG l (p + 1) = l.take p := by rw [ddG_no h0 h, e]
  have e3 : (ddG l (p + 1)).length = p := by rw [e2, List.length_take]; omega
  refine ⟨?_, e3⟩
  unfold comG
  rw [e3, e2, List.take_append_drop]
theorem com_clearG {l : List Sg} {o m : Nat} (ho : o = (ddG l l.length).length * 4) (hm : m = l.length - (ddG l l.length).length) : putN (flat elS.fl (comG l l.length)) o (rep m [iv 0, iv 0, iv 0, iv 0]) = flat elS.fl (ddG l l.length) ++ rep m [iv 0, iv 0, iv 0, iv 0] := by
  have h1 := ddG_len l l.length
  subst ho
  unfold putN comG
  have l1 : (flat elS.fl (ddG l l.length)).length = (ddG l l.length).length * 4 := flat4 _
  have l2 : (flat elS.fl (l.drop (ddG l l.length).length)).length = (l.length - (ddG l l.length).length) * 4 := by rw [flat4, List.length_drop]
  have l3 : (rep m [iv 0, iv 0, iv 0, iv 0]).length = m * 4 := rep_len _ _
  rw [flat_append, List.take_left' l1, l3]
  rw [List.drop_eq_nil_of_le (by rw [List.length_append, l1, l2, hm]; omega), List.append_nil]
def SCg (l : List Sg) : List Value → Nat → Option (Bool × Option Nat × List Value)
  | [], c => some (decide (l.length ≤ 1000000) && decide (l.length ≤ c), some (ddG l l.length).length, flat elS.fl (ddG l l.length) ++ rep (l.length - (ddG l l.length).length) [iv 0, iv 0, iv 0, iv 0])
  | _, _ => none
theorem SCg_inv {l : List Sg} {r : List Value} {c : Nat} {m : Option Nat} {cs : List Value} (h : SCg l r c = some (true, m, cs)) : r = [] ∧ l.length ≤ 1000000 ∧ l.length ≤ c ∧ m = some (ddG l l.length).length ∧ cs = flat elS.fl (ddG l l.length) ++ rep (l.length - (ddG l l.length).length) [iv 0, iv 0, iv 0, iv 0] := by
  unfold SCg at h
  split at h
  · injection h with h; injection h with h1 h2; injection h2 with h2 h3
    simp only [Bool.and_eq_true, decide_eq_true_eq] at h1
    exact ⟨rfl, h1.1, h1.2, h2.symm, h3.symm⟩
  · cases h
theorem rep_g4 (n : Nat) : allG (rep n [iv 0, iv 0, iv 0, iv 0]) = true := by
  unfold rep
  refine allG_of fun v hv => ?_
  obtain ⟨x, hx, hv⟩ := List.mem_flatten.1 hv
  rw [(List.mem_replicate.1 hx).2] at hv
  simp only [List.mem_cons, List.not_mem_nil, or_false] at hv
  rcases hv with rfl | rfl | rfl | rfl <;> rfl
def e98 (n c : Nat) (k : Int) : List (Nat × Value) := [(0, .slice (some ⟨0, 0, none⟩) n c), (3, iv k)]
def e98i (n c : Nat) (o2 n2 c2 : Nat) (k k2 : Int) : List (Nat × Value) := [(0, .slice (some ⟨0, 0, none⟩) n c), (3, iv k), (4, .slice (some ⟨0, o2, none⟩) n2 c2), (5, iv k2)]
theorem getCg {l : List Sg} {p q o : Nat} (hp : p ≤ l.length) (hd : (ddG l p).length ≤ q) (hq : q < l.length) (ho : o = q * 4) : getN (flat elS.fl (comG l p)) o 4 = some [iv (atS l q).1.1, iv (atS l q).1.2, iv (atS l q).2.1, iv (atS l q).2.2] := by
  rw [← comG_at l hp hd hq]
  exact getS _ (by rw [comG_len l hp]; exact hq) ho
set_option maxHeartbeats 1000000 in
attribute [local irreducible] atS comG ddG in
theorem d98 : XOK Go.Proofs.Tryz.prog 98 (frX elS SCg) := frX_ok elS (s := SCg) (f := 98) (body_calls (xl := []) .nil) fun l r c m cs' hs => by
  obtain ⟨rfl, hlen, hlc, rfl, rfl⟩ := SCg_inv hs
  refine ⟨rfl, by rw [allG_append, flat_g elS, rep_g4]; rfl, (fun q e => by injection e with e; rw [← e]; exact ddG_len l _), fun F N hF => ?_⟩
  have hN := hF.1
  clear hs
  ((conv => whnf); refine bm (fun h1 => ?_) (fun h1 => ?_))
  · have hsm : l.length < 2 := by simp only [cA_lt, cA_num, decide_eq_true_eq] at h1; omega
    have hd : ddG l l.length = l := by
      rw [ddG_all l.length (Nat.le_refl _) (fun i h0 hi => by omega), List.take_length]
    rw [hd, Nat.sub_self]
    (conv => whnf)
    exact ⟨rfl, (by show (0, AObj.cells true false 4 (flat elS.fl l)) :: F = _; rw [show rep 0 [iv 0, iv 0, iv 0, iv 0] = [] from rfl, List.append_nil]; rfl)⟩
  · have hbig : 2 ≤ l.length := by simp only [cA_lt, cA_num, decide_eq_false_iff_not] at h1; omega
    (conv => whnf)
    refine ⟨fun n e h nq => ∃ (i : Nat) (a : Int), a = i ∧ 1 ≤ i ∧ i ≤ l.length ∧ n = l.length - i ∧ (∀ j, 0 < j → j < i → eqG (atS l j) (atS l (j - 1)) = false) ∧ e = e98 l.length c a ∧ h = (0, .cells true false 4 (flat elS.fl l)) :: F ∧ nq = N, ⟨l.length - 1, ?_⟩, ?_⟩
    · refine Into_fr (e0 := e98 l.length c 1) hF ⟨1, 1, rfl, Nat.le_refl _, by omega, rfl, (fun j h0 h1 => by omega), rfl, rfl, rfl⟩ ?_ ?_ (Nat.le_refl _)
      · unfold e98
        ((repeat' (refine List.forall_mem_cons.2 ⟨⟨by first | rfl | (rw [ren_sl]; rfl), ?_⟩, ?_⟩; (first | exact scT_g rfl | exact ⟨hN, fun h => (by cases h)⟩))); exact fun _ h => (by cases h))
      · exact ObjRen_g (flat_g elS _)
    · rintro n e h nq ⟨i, a, ha, hi1, hi, rfl, hno, rfl, rfl, hnx⟩
      subst hnx
      unfold e98
      ((conv => whnf); refine bm (fun g1 => ?_) (fun g1 => ?_))
      · have hlt : i < l.length := by simp only [cA_lt, cA_num, decide_eq_true_eq] at g1; omega
        have hlt1 : i - 1 < l.length := by omega
        have hi0 : 0 < i := by omega
        repeat' first
          | (exfalso
             simp only [cA_add, cA_sub, cA_fits, cA_lt, cA_le, cA_eq, cA_notB, cA_andB, cA_num, cA_subN, cA_toN, fitsK, ble_t, ble_f, flat4, Bool.not_eq_false', Bool.not_eq_true', Bool.and_eq_false_iff, Bool.and_eq_true, decide_eq_true_eq, decide_eq_false_iff_not, List.length_append, List.length_take, List.length_drop, List.length_nil, List.length_cons, cA_ix, rep_len, putN] at g; omega)
          | (((conv => whnf); refine bm (fun g => ?_) (fun g => ?_)))
          | ((conv => whnf)
             refine boL (getS l hlt ?_) ?_
             · simp [cfgS, std]; omega)
          | ((conv => whnf)
             refine boL (getS l hlt1 ?_) ?_
             · show 0 + (a - 1).toNat * 4 = _
               omega)
        all_goals (conv => whnf)
        · have hdup : eqG (atS l i) (atS l (i - 1)) = true := ‹cfgS.A.andB (cfgS.A.andB (cfgS.A.eq (atS l i).fst.fst (atS l (i - 1)).fst.fst) (cfgS.A.andB (cfgS.A.eq (atS l i).fst.snd (atS l (i - 1)).fst.snd) true)) (cfgS.A.andB (cfgS.A.andB (cfgS.A.eq (atS l i).snd.fst (atS l (i - 1)).snd.fst) (cfgS.A.andB (cfgS.A.eq (atS l i).snd.snd (atS l (i - 1)).snd.snd) true)) true) = true›
          obtain ⟨hW, hD⟩ := comG_first hi0 hlt hno hdup
          refine ⟨fun m e h nr => ∃ (p : Nat) (a' b : Int), i + 1 ≤ p ∧ p ≤ l.length ∧ m = l.length - p ∧ b = (p : Int) - i ∧ a' = ((ddG l p).length : Int) ∧ (ddG l p).length < p ∧ e = e98i l.length c (cfgS.A.ix 0 a 4) (cfgS.A.subN l.length (cfgS.A.toN a)) (cfgS.A.subN c (cfgS.A.toN a)) a' b ∧ h = (0, .cells true false 4 (flat elS.fl (comG l p))) :: F ∧ nr = nq, ⟨l.length - (i + 1), ?_⟩, ?_⟩
          · refine Into_fr (e0 := e98i l.length c (cfgS.A.ix 0 a 4) (cfgS.A.subN l.length (cfgS.A.toN a)) (cfgS.A.subN c (cfgS.A.toN a)) a 1) hF ⟨i + 1, a, 1, Nat.le_refl _, by omega, rfl, by omega, by rw [hD]; exact ha, by omega, rfl, rfl, rfl⟩ ?_ ?_ (Nat.le_refl _)
            · unfold e98i
              ((repeat' (refine List.forall_mem_cons.2 ⟨⟨by first | rfl | (rw [ren_sl]; rfl), ?_⟩, ?_⟩; (first | exact scT_g rfl | exact ⟨hN, fun h => (by cases h)⟩))); exact fun _ h => (by cases h))
            · rw [hW]
              exact ObjRen_g (flat_g elS _)
          · rintro m e h nr ⟨p, a', b, hp1, hp2, rfl, hb, ha', hd', rfl, rfl, hnr⟩
            subst hnr
            have hF := hF
            unfold e98i
            ((conv => whnf); refine bm (fun g2 => ?_) (fun g2 => ?_))
            · have hpl : p < l.length := by simp only [cA_lt, cA_num, cA_subN, cA_toN, decide_eq_true_eq] at g2; omega
              have hwl := comG_len l hp2
              repeat' first
                | (exfalso
                   simp only [cA_add, cA_sub, cA_fits, cA_lt, cA_le, cA_eq, cA_notB, cA_andB, cA_num, cA_subN, cA_toN, fitsK, ble_t, ble_f, flat4, hwl, Bool.not_eq_false', Bool.not_eq_true', Bool.and_eq_false_iff, Bool.and_eq_true, decide_eq_true_eq, decide_eq_false_iff_not, List.length_nil, List.length_cons, cA_ix] at g; omega)
                | (((conv => whnf); refine bm (fun g => ?_) (fun g => ?_)))
                | ((conv => whnf)
                   refine boL (getCg (q := p) hp2 (by omega) hpl ?_) ?_
                   · simp only [cA_ix, cA_sub]; omega)
                | ((conv => whnf)
                   refine boL (getCg (q := p - 1) hp2 (by omega) (by omega) ?_) ?_
                   · simp only [cA_ix, cA_sub]; omega)
              all_goals (conv => whnf)
              · have hneq : eqG (atS l p) (atS l (p - 1)) = false := by
                  have hg : (!(eqG (atS l p) (atS l (p - 1)))) = true := ‹cfgS.A.notB (cfgS.A.andB (cfgS.A.andB (cfgS.A.eq (atS l p).fst.fst (atS l (p - 1)).fst.fst) (cfgS.A.andB (cfgS.A.eq (atS l p).fst.snd (atS l (p - 1)).fst.snd) true)) (cfgS.A.andB (cfgS.A.andB (cfgS.A.eq (atS l p).snd.fst (atS l (p - 1)).snd.fst) (cfgS.A.andB (cfgS.A.eq (atS l p).snd.snd (atS l (p - 1)).snd.snd) true)) true)) = true›
                  simpa using hg
                refine ⟨l.length - (p + 1), by omega, ?_⟩
                refine Into_fr (e0 := e98i l.length c (cfgS.A.ix 0 a 4) (cfgS.A.subN l.length (cfgS.A.toN a)) (cfgS.A.subN c (cfgS.A.toN a)) (a' + 1) (b + 1)) hF ⟨p + 1, a' + 1, b + 1, by omega, hpl, rfl, by omega, by rw [ddG_yes hneq, List.length_append, List.length_singleton]; omega, by rw [ddG_yes hneq, List.length_append, List.length_singleton]; omega, rfl, rfl, rfl⟩ ?_ ?_ (Nat.le_refl _)
                · unfold e98i
                  ((repeat' (refine List.forall_mem_cons.2 ⟨⟨by first | rfl | (rw [ren_sl]; rfl), ?_⟩, ?_⟩; (first | exact scT_g rfl | exact ⟨hN, fun h => (by cases h)⟩))); exact fun _ h => (by cases h))
                · refine ObjRen_j (flat_g elS _) ?_
                  rw [← comG_set hpl hd' hneq, ← flat_setS _ _ _ (by rw [comG_len l hp2]; omega)]
                  show putN _ (0 + a'.toNat * 4) _ = _
                  rw [show 0 + a'.toNat * 4 = (ddG l p).length * 4 by omega]
                  rfl
              · exfalso
                have hx : 0 + a'.toNat * 4 + 4 ≤ (flat elS.fl (comG l p)).length := by rw [flat4, hwl]; omega
                have hc : Nat.ble (0 + a'.toNat * 4 + 4) (flat elS.fl (comG l p)).length = false := g
                rw [Nat.ble_eq_true_of_le hx] at hc
                cases hc
              · have hneq : eqG (atS l p) (atS l (p - 1)) = true := by
                  have hg : (!(eqG (atS l p) (atS l (p - 1)))) = false := ‹cfgS.A.notB (cfgS.A.andB (cfgS.A.andB (cfgS.A.eq (atS l p).fst.fst (atS l (p - 1)).fst.fst) (cfgS.A.andB (cfgS.A.eq (atS l p).fst.snd (atS l (p - 1)).fst.snd) true)) (cfgS.A.andB (cfgS.A.andB (cfgS.A.eq (atS l p).snd.fst (atS l (p - 1)).snd.fst) (cfgS.A.andB (cfgS.A.eq (atS l p).snd.snd (atS l (p - 1)).snd.snd) true)) true)) = false›
                  simpa using hg
                refine ⟨l.length - (p + 1), by omega, ?_⟩
                refine Into_fr (e0 := e98i l.length c (cfgS.A.ix 0 a 4) (cfgS.A.subN l.length (cfgS.A.toN a)) (cfgS.A.subN c (cfgS.A.toN a)) a' (b + 1)) hF ⟨p + 1, a', b + 1, by omega, hpl, rfl, by omega, by rw [ddG_no (by omega) hneq]; exact ha', by rw [ddG_no (by omega) hneq]; omega, rfl, rfl, rfl⟩ ?_ ?_ (Nat.le_refl _)
                · unfold e98i
                  ((repeat' (refine List.forall_mem_cons.2 ⟨⟨by first | rfl | (rw [ren_sl]; rfl), ?_⟩, ?_⟩; (first | exact scT_g rfl | exact ⟨hN, fun h => (by cases h)⟩))); exact fun _ h => (by cases h))
                · rw [comG_same (by omega) hneq]
                  exact ObjRen_g (flat_g elS _)
            · have hpe : p = l.length := by simp only [cA_lt, cA_num, cA_subN, cA_toN, decide_eq_false_iff_not] at g2; omega
              subst hpe
              repeat' first
                | (exfalso
                   simp only [cA_add, cA_sub, cA_fits, cA_lt, cA_le, cA_eq, cA_notB, cA_andB, cA_num, cA_subN, cA_toN, fitsK, ble_t, ble_f, flat4, Bool.not_eq_false', Bool.not_eq_true', Bool.and_eq_false_iff, Bool.and_eq_true, decide_eq_true_eq, decide_eq_false_iff_not, List.length_append, List.length_take, List.length_drop, List.length_nil, List.length_cons, cA_ix, rep_len, putN] at g; omega)
                | (((conv => whnf); refine bm (fun g => ?_) (fun g => ?_)))
              all_goals (conv => whnf)
              obtain ⟨M, hM⟩ : ∃ M : Nat, cfgS.A.subN l.length (cfgS.A.toN a') = M + 1 := ⟨l.length - a'.toNat - 1, by simp only [cA_subN, cA_toN]; omega⟩
              have hM2 : M + 1 = l.length - (ddG l l.length).length := by
                have : l.length - a'.toNat = M + 1 := hM
                omega
              rw [hM]
              repeat' first
                | (exfalso
                   simp only [cA_add, cA_sub, cA_fits, cA_lt, cA_le, cA_eq, cA_notB, cA_andB, cA_num, cA_subN, cA_toN, fitsK, ble_t, ble_f, flat4, Bool.not_eq_false', Bool.not_eq_true', Bool.and_eq_false_iff, Bool.and_eq_true, decide_eq_true_eq, decide_eq_false_iff_not, List.length_append, List.length_take, List.length_drop, List.length_nil, List.length_cons, cA_ix, rep_len, putN] at g; omega)
                | (((conv => whnf); refine bm (fun g => ?_) (fun g => ?_)))
              all_goals (conv => whnf)
              rotate_left
              all_goals try
                (exfalso
                 have hx : 0 + a'.toNat * 4 + (M + 1) * 4 ≤ (flat elS.fl (comG l l.length)).length := by rw [flat4, comG_len l (Nat.le_refl _)]; omega
                 have hc : Nat.ble (0 + a'.toNat * 4 + (M + 1) * 4) (flat elS.fl (comG l l.length)).length = false := g
                 rw [Nat.ble_eq_true_of_le hx] at hc
                 cases hc)
              all_goals try
                (exfalso
                 simp only [cA_add, cA_sub, cA_fits, cA_lt, cA_le, cA_eq, cA_notB, cA_andB, cA_num, cA_subN, cA_toN, fitsK, ble_t, ble_f, flat4, Bool.not_eq_false', Bool.not_eq_true', Bool.and_eq_false_iff, Bool.and_eq_true, decide_eq_true_eq, decide_eq_false_iff_not, List.length_append, List.length_take, List.length_drop, List.length_nil, List.length_cons, cA_ix, rep_len, putN] at g; omega)
              · refine ⟨?_, ?_⟩
                · show Value.slice (some ⟨0, 0, none⟩) a'.toNat c = .slice (some ⟨0, 0, none⟩) _ c
                  rw [show a'.toNat = (ddG l l.length).length by omega]
                · show (0, AObj.cells true false 4 (putN (flat elS.fl (comG l l.length)) (0 + a'.toNat * 4) (rep (M + 1) [iv 0, iv 0, iv 0, iv 0]))) :: F = _
                  rw [com_clearG (by omega) hM2, hM2]
                  rfl
              all_goals trace_state
        · have hnd : eqG (atS l i) (atS l (i - 1)) = false := ‹cfgS.A.andB (cfgS.A.andB (cfgS.A.eq (atS l i).fst.fst (atS l (i - 1)).fst.fst) (cfgS.A.andB (cfgS.A.eq (atS l i).fst.snd (atS l (i - 1)).fst.snd) true)) (cfgS.A.andB (cfgS.A.andB (cfgS.A.eq (atS l i).snd.fst (atS l (i - 1)).snd.fst) (cfgS.A.andB (cfgS.A.eq (atS l i).snd.snd (atS l (i - 1)).snd.snd) true)) true) = false›
          refine ⟨l.length - (i + 1), by omega, ?_⟩
          refine Into_fr (e0 := e98 l.length c (a + 1)) hF ⟨i + 1, a + 1, by omega, by omega, hlt, rfl, (fun j h0 h1 => ?_), rfl, rfl, rfl⟩ ?_ ?_ (Nat.le_refl _)
          · by_cases e : j = i
            · rw [e]; exact hnd
            · exact hno j h0 (by omega)
          · unfold e98
            ((repeat' (refine List.forall_mem_cons.2 ⟨⟨by first | rfl | (rw [ren_sl]; rfl), ?_⟩, ?_⟩; (first | exact scT_g rfl | exact ⟨hN, fun h => (by cases h)⟩))); exact fun _ h => (by cases h))
          · exact ObjRen_g (flat_g elS _)
      · have hge : i = l.length := by simp only [cA_lt, cA_num, decide_eq_false_iff_not] at g1; omega
        subst hge
        have hd : ddG l l.length = l := by
          rw [ddG_all l.length (Nat.le_refl _) (fun i h0 hi => hno i h0 hi), List.take_length]
        rw [hd, Nat.sub_self]
        (conv => whnf)
        exact ⟨rfl, (by show (0, AObj.cells true false 4 (flat elS.fl l)) :: F = _; rw [show rep 0 [iv 0, iv 0, iv 0, iv 0] = [] from rfl, List.append_nil]; rfl)⟩
end Go.Aw
