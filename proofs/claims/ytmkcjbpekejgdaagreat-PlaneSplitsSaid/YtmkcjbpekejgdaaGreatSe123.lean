/-
  Split: the reference's, walked. No condition.
-/
import Derived.Test.YtmkcjbpekejgdaaGreatSe122
import Derived.Test.YtmkcjbpekejgdaaGreatSe119
set_option linter.unusedSimpArgs false
set_option linter.unusedVariables false
noncomputable section
namespace Go.Aw
set_option maxRecDepth 100000
theorem getN_pre {cs : List Value} {o n m : Nat} {r : List Value} (h : getN cs o (n + m) = some r) : getN cs o n = some (r.take n) ∧ getN cs (o + n) m = some (r.drop n) := by
  obtain ⟨h1, h2⟩ := getN_spec h
  have hlen : o + (n + m) ≤ cs.length ∨ n + m = 0 := by
    rcases Nat.eq_zero_or_pos (n + m) with h0 | h0
    · exact .inr h0
    · obtain ⟨h3, v, h4⟩ := h2 (n + m - 1) (by omega)
      have := (List.getElem?_eq_some_iff.1 h4).1
      exact .inl (by omega)
  rcases hlen with hlen | h0
  · have e := getN_eq hlen
    rw [h] at e
    injection e with e
    subst e
    rw [getN_eq (show o + n ≤ cs.length by omega), getN_eq (show o + n + m ≤ cs.length by omega)]
    refine ⟨?_, ?_⟩
    · rw [List.take_take, Nat.min_eq_left (by omega)]
    · rw [List.drop_take, List.drop_drop]
      congr 2
      omega
  · have hn : n = 0 := by omega
    have hm : m = 0 := by omega
    subst hn hm
    have : r = [] := List.length_eq_zero_iff.1 h1
    subst this
    exact ⟨rfl, rfl⟩
theorem getSA (l : List Sg) {i o : Nat} (hi : i < l.length) (ho : o = i * 4) : getN (flat elS.fl l) o 2 = some [iv (atS l i).1.1, iv (atS l i).1.2] := (getN_pre (n := 2) (m := 2) (getS l hi ho)).1
theorem getSB (l : List Sg) {i o : Nat} (hi : i < l.length) (ho : o = i * 4 + 2) : getN (flat elS.fl l) o 2 = some [iv (atS l i).2.1, iv (atS l i).2.2] := by
  subst ho
  exact (getN_pre (n := 2) (m := 2) (getS l hi rfl)).2
theorem outK_at {l : List Sg} {h : Heap} {nx : Nat} {K : KE} (hl : 0 < l.length) (hk : K (.slice (some ⟨nx, 0, none⟩) l.length l.length) (app h [(nx, .cells true false 4 (flat elS.fl l))]) (nx + 1)) : outK elS l none h nx K := by
  cases l with
  | nil => cases hl
  | cons a r => exact hk
theorem insG_le (l : List Sg) (s : Sg) : (insG l s).length ≤ l.length + 1 ∧ 0 < (insG l s).length ∧ l.length ≤ (insG l s).length := by
  unfold insG
  split
  · rename_i h; omega
  · have := posG_le s l
    rw [List.length_append, List.length_cons, List.length_take, List.length_drop]
    omega
theorem fold_le : ∀ (X L : List Sg), (X.foldl insG L).length ≤ L.length + X.length
  | [], L => Nat.le_refl _
  | x :: r, L => by
    have h := fold_le r (insG L x)
    have h2 := (insG_le L x).1
    show (r.foldl insG (insG L x)).length ≤ _
    rw [List.length_cons]
    omega
theorem fold_ge : ∀ (X L : List Sg), L.length ≤ (X.foldl insG L).length
  | [], L => Nat.le_refl _
  | x :: r, L => Nat.le_trans (insG_le L x).2.2 (fold_ge r (insG L x))
theorem insG_kn {l : List Sg} {s : Sg} (h : knG l s = true) : insG l s = l := by
  unfold knG at h
  unfold insG
  rw [Bool.and_eq_true, decide_eq_true_eq] at h
  rw [if_pos h]
theorem pc_fold (D : List (Int × Int)) (L : List Sg) (m : Nat) : (pcI D (m + 1)).foldl insG L = insG ((pcI D m).foldl insG L) (at2 D m, at2 D (m + 1)) := by
  rw [pcI_s, List.foldl_append]
  rfl
theorem out_fold (l : List Sg) (i : Nat) : (outS l (i + 1)).foldl insG [] = (pcI (stD l (atS l i)) ((stD l (atS l i)).length - 1)).foldl insG ((outS l i).foldl insG []) := by
  rw [outS_s, List.foldl_append]
def f40 (l : List Sg) (i : Nat) : List Sg := (outS l i).foldl insG []
def g40 (L : List Sg) (D : List (Int × Int)) (m : Nat) : List Sg := (pcI D m).foldl insG L
theorem nxt_s (l : List Sg) (c b : Int × Int) (k : Nat) : nxtI l c b (k + 1) = nxA c b (nxA c b (nxtI l c b k) (atS l k).1) (atS l k).2 := rfl
theorem foldN (c b : Int × Int) (q0 : Int × Int) (ps : List (Int × Int)) {q : Nat} (hq : q < ps.length) : (ps.take (q + 1)).foldl (nxA c b) q0 = nxA c b ((ps.take q).foldl (nxA c b) q0) (at2 ps q) := by
  rw [take_snoc hq, List.foldl_append]
  rfl
theorem nxA_yes {c b q p : Int × Int} (h1 : insR p (c, b) = true) (h2 : lessB p q = true) : nxA c b q p = p := by unfold nxA; rw [if_pos ⟨h1, h2⟩]
theorem nxA_no1 {c b q p : Int × Int} (h1 : insR p (c, b) = false) : nxA c b q p = q := by unfold nxA; rw [if_neg (fun h => by rw [h1] at h; exact absurd h.1 (by decide))]
theorem nxA_no2 {c b q p : Int × Int} (h1 : lessB p q = false) : nxA c b q p = q := by unfold nxA; rw [if_neg (fun h => by rw [h1] at h; exact absurd h.2 (by decide))]
def e40 (O : Value) (n c : Nat) (j : Int) : List (Nat × Value) := [(0, .slice (some ⟨0, 0, none⟩) n c), (8, O), (9, iv j)]
def h40 (l : List Sg) (F : Heap) : Heap := (0, .cells false true 4 (flat elS.fl l)) :: F
def e40b (O : Value) (n c : Nat) (j : Int) : List (Nat × Value) := [(0, .slice (some ⟨0, 0, none⟩) n c), (8, O), (9, iv j), (10, .pointer (some ⟨2, 0, none⟩)), (11, .pointer (some ⟨3, 0, none⟩))]
def ptc (p : Int × Int) : AObj := .cells true false 1 [iv p.1, iv p.2]
def h40b (l : List Sg) (F : Heap) (a b : Int × Int) : Heap := (0, .cells false true 4 (flat elS.fl l)) :: (2, .cells true false 1 [iv a.1, iv a.2]) :: (3, .cells true false 1 [iv b.1, iv b.2]) :: F
def e40c (O : Value) (n c : Nat) (j k : Int) : List (Nat × Value) := [(0, .slice (some ⟨0, 0, none⟩) n c), (8, O), (9, iv j), (10, .pointer (some ⟨2, 0, none⟩)), (11, .pointer (some ⟨3, 0, none⟩)), (13, .pointer (some ⟨4, 0, none⟩)), (14, iv k)]
def h40c (l : List Sg) (F : Heap) (a b x : Int × Int) : Heap := (0, .cells false true 4 (flat elS.fl l)) :: (2, .cells true false 1 [iv a.1, iv a.2]) :: (3, .cells true false 1 [iv b.1, iv b.2]) :: (4, .cells true false 1 [iv x.1, iv x.2]) :: F
def e40d (O : Value) (n c : Nat) (j k y : Int) : List (Nat × Value) := [(0, .slice (some ⟨0, 0, none⟩) n c), (8, O), (9, iv j), (10, .pointer (some ⟨2, 0, none⟩)), (11, .pointer (some ⟨3, 0, none⟩)), (13, .pointer (some ⟨4, 0, none⟩)), (14, iv k), (80, .slice (some ⟨5, 0, none⟩) 2 2), (81, iv 2), (82, iv y)]
def h40d (l : List Sg) (F : Heap) (a b x : Int × Int) (ps : List (Int × Int)) : Heap := (0, .cells false true 4 (flat elS.fl l)) :: (2, .cells true false 1 [iv a.1, iv a.2]) :: (3, .cells true false 1 [iv b.1, iv b.2]) :: (4, .cells true false 1 [iv x.1, iv x.2]) :: (5, .cells true false 2 (flat elP.fl ps)) :: F
theorem f40_pos {l : List Sg} (hr : l.all rightG = true) {i : Nat} (h0 : 0 < i) (hi : i ≤ l.length) : 0 < (f40 l i).length := by
  obtain ⟨x, hx⟩ := List.exists_mem_of_length_pos (outS_pos hr h0 hi)
  unfold f40
  exact List.length_pos_of_mem ((fold_mem (outS l i) []).2 (.inr hx))
theorem g40_0 (L : List Sg) (D : List (Int × Int)) : g40 L D 0 = L := rfl
theorem g40_ge (L : List Sg) (D : List (Int × Int)) (m : Nat) : L.length ≤ (g40 L D m).length := fold_ge _ _
theorem g40_le (L : List Sg) (D : List (Int × Int)) (m : Nat) : (g40 L D m).length ≤ L.length + m := by
  have := fold_le (pcI D m) L
  rw [pcI_len] at this
  exact this
theorem pc_g (L : List Sg) (D : List (Int × Int)) (m : Nat) : g40 L D (m + 1) = insG (g40 L D m) (at2 D m, at2 D (m + 1)) := pc_fold D L m
theorem nxt_0 (l : List Sg) (c b : Int × Int) : nxtI l c b 0 = b := rfl
theorem eqPK (a s : Int × Int) : cfgS.A.andB (cfgS.A.eq a.1 s.1) (cfgS.A.andB (cfgS.A.eq a.2 s.2) true) = eqP a s := by
  unfold eqP
  simp only [cA_eq, cA_andB, Bool.and_true]
theorem ptEq {x y : Int × Int} (h : x = y) : [iv x.1, iv x.2] = [iv y.1, iv y.2] := by rw [h]
theorem eqB_t {a : Bool} (h : cfgS.A.eqB a true = true) : a = true := by
  cases a
  · cases h
  · rfl
theorem eqB_f {a : Bool} (h : cfgS.A.eqB a true = false) : a = false := by
  cases a
  · rfl
  · cases h
theorem eqP_rfl (a : Int × Int) : eqP a a = true := by unfold eqP; simp
theorem eqP_eq {a b : Int × Int} (h : eqP a b = true) : a = b := by
  unfold eqP at h
  simp only [Bool.and_eq_true, decide_eq_true_eq, Bool.and_true] at h
  exact Prod.ext h.1 h.2
theorem take_all4 (L : List Sg) : List.take (flat elS.fl L).length (List.drop 0 (flat elS.fl L)) = flat elS.fl L := by
  rw [List.drop_zero, List.take_length]
theorem at2_p0 (a b : Int × Int) : at2 [a, b] 0 = a := rfl
theorem at2_p1 (a b : Int × Int) : at2 [a, b] 1 = b := rfl
set_option maxHeartbeats 8000000 in
attribute [local irreducible] stpI stD outS pcI crossR chkS cr1 cr2 insR insG knG at2 atS nxtI nxA splO splE endsS lessB f40 g40 in
theorem d40 : XOK Go.Proofs.Tryz.prog 40 (rfX elS elS S39) := rfX_ok elS elS (s := S39) (f := 40) (body_calls (xl := [X39, X95, XinR, XiG]) (.cons x39 (.cons x95 (.cons xinR (.cons xiG .nil))))) fun l r out e hs => by
  obtain ⟨rfl, hlen, hpos, rfl, rfl⟩ := S39_inv hs
  refine ⟨rfl, fun c => ?_⟩
  clear hs
  (conv => whnf)
  refine ⟨l, LsAt_own elS rfl, ?_⟩
  ((conv => whnf); refine bm (fun g1 => ?_) (fun g1 => ?_))
  · ((conv => whnf); refine bm (fun g2 => ?_) (fun g2 => ?_))
    · have hc : chkS l ≠ 0 := by
        intro h
        have hg : (!(decide (chkS l = 0))) = true := g2
        rw [h] at hg
        cases hg
      have hE : splE l = chkS l := by unfold splE; rw [if_neg hc]
      rw [show splO l = [] by unfold splO; rw [hE, if_neg hc], hE]
      (conv => whnf)
      rfl
    · have hc : chkS l = 0 := by
        have hg : (!(decide (chkS l = 0))) = false := g2
        simpa using hg
      ((conv => whnf); refine bm (fun g3 => ?_) (fun g3 => ?_))
      · have hg : (crossR l).isSome = true := by assumption
        have hE : splE l = 10 := by unfold splE; rw [if_pos hc, if_pos hg]
        rw [show splO l = [] by unfold splO; rw [hE, if_neg (by decide)], hE]
        (conv => whnf)
        rfl
      · have hg : (crossR l).isSome = false := by assumption
        have hE : splE l = 0 := by unfold splE; rw [if_pos hc, if_neg (by rw [hg]; decide)]
        rw [show splO l = f40 l l.length by unfold splO f40; rw [hE, if_pos rfl, dedG_eq], hE]
        obtain ⟨h400, hr⟩ := chkS_ok hc
        clear hE hc g2 g3 hg
        have hf0 : f40 l 0 = [] := by unfold f40; rw [outS_0]; rfl
        (conv => whnf)
        refine ⟨fun n e h nx => ∃ (i : Nat) (j : Int) (L : List Sg) (O : Value) (F : Heap), j = i ∧ i ≤ l.length ∧ n = l.length - i ∧ L = f40 l i ∧ OF L O F ∧ e = e40 O l.length c j ∧ h = h40 l F ∧ nx = 2, ⟨l.length, ?_⟩, ?_⟩
        · refine Into_id (e0 := e40 (.slice none 0 0) l.length c 0) (h0 := h40 l []) (n0 := 2) ⟨0, 0, [], _, _, rfl, Nat.zero_le _, rfl, hf0.symm, .inl ⟨rfl, rfl, rfl⟩, rfl, rfl, rfl⟩ ?_ ?_ (by decide)
          · unfold e40
            ((repeat' (refine List.forall_mem_cons.2 ⟨⟨rfl, ?_⟩, ?_⟩; (first | exact scT_g rfl | exact ⟨by decide, rfl⟩ | exact ⟨by decide, fun h => (by cases h)⟩))); exact fun _ h => (by cases h))
          · unfold h40
            ((repeat' (refine List.forall_mem_cons.2 ⟨⟨Nat.le_of_ble_eq_true rfl, _, rfl, ?_⟩, ?_⟩; (first | exact ObjRen_g (flat_g _ _) | exact ObjRen_j rfl rfl))); exact fun _ h => (by cases h))
        · rintro n e h nx ⟨i, j, L, O, F, hj, hi, rfl, hL0, hO, rfl, rfl, rfl⟩
          have hLb : L.length ≤ 400 * 801 := by
            have hb := outS_len l i
            have hb2 : i * (1 + 2 * l.length) ≤ 400 * 801 := Nat.mul_le_mul (by omega) (by omega)
            have hb3 := fold_le (outS l i) []
            have e4 : (f40 l i).length = ((outS l i).foldl insG []).length := by unfold f40; rfl
            rw [hL0, e4]
            simp only [List.length_nil] at hb3
            omega
          rcases hO with ⟨hL, rfl, rfl⟩ | ⟨hL, rfl, rfl⟩
          · unfold e40 h40
            ((conv => whnf); refine bm (fun g4 => ?_) (fun g4 => ?_))
            · have hlt : i < l.length := by simp only [cA_lt, cA_num, decide_eq_true_eq] at g4; omega
              have hsr := all_atS hr hlt
              obtain ⟨a, b, hen, hab, hsab, hra, hrb⟩ := ends_two hsr
              have hDe := stD_ends (l := l) hen hab hsab
              have hDl : ∀ p q, p < q → q < (stD l (atS l i)).length → lessB (at2 (stD l (atS l i)) p) (at2 (stD l (atS l i)) q) = true := fun p q h1 h2 => stD_lt h1 h2
              have hDn : ∀ k, k + 1 < (stD l (atS l i)).length → nxtI l (at2 (stD l (atS l i)) k) b l.length = at2 (stD l (atS l i)) (k + 1) := fun k h => nxt_is hen hab hsab hr hra hrb h
              have hDr : ∀ x, x ∈ stD l (atS l i) → rightS x = true := fun x hx => stD_right hen hr hra hrb hx
              have hD9 := stD_len l (atS l i)
              have hos := out_fold l i
              have hA : lessB (atS l i).2 (atS l i).1 = true → a = (atS l i).2 ∧ b = (atS l i).1 := fun h => by
                rcases hsab with e | e
                · rw [e] at h
                  exact absurd (less_tr h hab) (fun h => less_irr h)
                · rw [e]; exact ⟨rfl, rfl⟩
              have hA' : lessB (atS l i).2 (atS l i).1 = false → a = (atS l i).1 ∧ b = (atS l i).2 := fun h => by
                rcases hsab with e | e
                · rw [e]; exact ⟨rfl, rfl⟩
                · rw [e] at h
                  rw [show lessB (b, a).2 (b, a).1 = lessB a b from rfl, hab] at h
                  cases h
              repeat' first
                | (exfalso; simp only [cA_add, cA_sub, cA_fits, cA_lt, cA_le, cA_eq, cA_notB, cA_andB, cA_num, cA_subN, cA_toN, cA_eqB, beq_iff_eq, beq_eq_false_iff_ne, ne_eq, fitsK, ble_t, ble_f, flat2, flat4, Bool.not_eq_false', Bool.not_eq_true', Bool.and_eq_false_iff, Bool.and_eq_true, decide_eq_true_eq, decide_eq_false_iff_not, List.length_append, List.length_nil, List.length_cons, cA_ix] at g; omega)
                | (((conv => whnf); refine bm (fun g => ?_) (fun g => ?_)))
                | ((conv => whnf)
                   refine boL (getSA l hlt ?_) ?_
                   · simp [cfgS, std]; omega)
                | ((conv => whnf)
                   refine boL (getSB l hlt ?_) ?_
                   · simp [cfgS, std]; omega)
              all_goals (conv => whnf)
              all_goals
                first
                  | (have hAB : a = (atS l i).2 ∧ b = (atS l i).1 := by
                       apply hA
                       assumption)
                  | (have hAB : a = (atS l i).1 ∧ b = (atS l i).2 := by
                       apply hA'
                       assumption)
                generalize hD : stD l (atS l i) = D at hDe hDl hDn hDr hD9 hos
                obtain ⟨hD2, hDa, hDb⟩ := hDe
                refine ⟨fun n e h nx => ∃ (m : Nat) (L' : List Sg) (O' : Value) (F' : Heap), L' = g40 L D m ∧ m + 1 ≤ D.length ∧ n = D.length - 1 - m ∧ OF L' O' F' ∧ e = e40b O' l.length c j ∧ h = h40b l F' (at2 D m) b ∧ nx = 4, ⟨D.length - 1, ?_⟩, ?_⟩
                · refine Into_id (e0 := e40b (.slice none 0 0) l.length c j) (h0 := h40b l ([]) (at2 D 0) b) (n0 := 4) ⟨0, L, _, _, (g40_0 L D).symm, by omega, rfl, .inl ⟨hL, rfl, rfl⟩, rfl, rfl, rfl⟩ ?_ ?_ (by decide)
                  · unfold e40b
                    ((repeat' (refine List.forall_mem_cons.2 ⟨⟨rfl, ?_⟩, ?_⟩; (first | exact scT_g rfl | exact ⟨by decide, rfl⟩ | exact ⟨by decide, fun h => (by cases h)⟩))); exact fun _ h => (by cases h))
                  · unfold h40b
                    ((repeat' (refine List.forall_mem_cons.2 ⟨⟨Nat.le_of_ble_eq_true rfl, _, rfl, ?_⟩, ?_⟩; (first | exact (ObjRen_j rfl (by first | exact ptEq hAB.2.symm | exact ptEq (hDa.trans hAB.1).symm)) | exact ObjRen_g (flat_g _ _) | exact ObjRen_j rfl rfl))); exact fun _ h => (by cases h))
                · rintro n e h nx ⟨m, L', O', F', hL', hm, rfl, hO', rfl, rfl, rfl⟩
                  have hLb' : L'.length ≤ 400 * 801 + 801 := by
                    have h1 := g40_le L D m
                    rw [← hL'] at h1
                    omega
                  rcases hO' with ⟨hLn, rfl, rfl⟩ | ⟨hLn, rfl, rfl⟩
                  · unfold e40b h40b
                    ((conv => whnf); refine bm (fun g5 => ?_) (fun g5 => ?_))
                    · have hne : eqP (at2 D m) b = false := by
                        have hg : cfgS.A.notB (cfgS.A.andB (cfgS.A.eq (at2 D m).1 b.1) (cfgS.A.andB (cfgS.A.eq (at2 D m).2 b.2) true)) = true := g5
                        rw [eqPK] at hg
                        simpa only [cA_notB, Bool.not_eq_true'] using hg
                      have hm1 : m + 1 < D.length := by
                        refine Nat.lt_of_le_of_ne hm fun h => ?_
                        rw [show m = D.length - 1 by omega, hDb, eqP_rfl] at hne
                        cases hne
                      clear g5 hne
                      have hnx := hDn m hm1
                      have hwa : wideS (at2 D m, b) = true := by
                        have h1 := rightS_wide (hDr _ (at_mem (show m < D.length by omega)))
                        have h2 := rightS_wide hrb
                        show (wide (at2 D m) && wide b) = true
                        rw [h1, h2]; rfl
                      generalize hcur : at2 D m = a' at hnx hwa ⊢
                      (conv => whnf)
                      refine ⟨fun n e h nx => ∃ (k : Nat) (x : Int) (x0 : Int × Int), x0 = nxtI l a' b k ∧ x = k ∧ k ≤ l.length ∧ n = l.length - k ∧ e = e40c (.slice none 0 0) l.length c j x ∧ h = h40c l ([]) a' b x0 ∧ nx = 5, ⟨l.length, ?_⟩, ?_⟩
                      · refine Into_id (e0 := e40c (.slice none 0 0) l.length c j 0) (h0 := h40c l ([]) a' b b) (n0 := 5) ⟨0, 0, b, (nxt_0 l a' b).symm, rfl, Nat.zero_le _, rfl, rfl, rfl, rfl⟩ ?_ ?_ (by decide)
                        · unfold e40c
                          ((repeat' (refine List.forall_mem_cons.2 ⟨⟨rfl, ?_⟩, ?_⟩; (first | exact scT_g rfl | exact ⟨by decide, rfl⟩ | exact ⟨by decide, fun h => (by cases h)⟩))); exact fun _ h => (by cases h))
                        · unfold h40c
                          ((repeat' (refine List.forall_mem_cons.2 ⟨⟨Nat.le_of_ble_eq_true rfl, _, rfl, ?_⟩, ?_⟩; (first | exact ObjRen_g (flat_g _ _) | exact ObjRen_j rfl rfl))); exact fun _ h => (by cases h))
                      · rintro n e h nx ⟨k, x, x0, hx0, hx, hk, rfl, rfl, rfl, rfl⟩
                        unfold e40c h40c
                        ((conv => whnf); refine bm (fun g6 => ?_) (fun g6 => ?_))
                        · have hlt2 : k < l.length := by simp only [cA_lt, cA_num, decide_eq_true_eq] at g6; omega
                          repeat' first
                            | (exfalso; simp only [cA_add, cA_sub, cA_fits, cA_lt, cA_le, cA_eq, cA_notB, cA_andB, cA_num, cA_subN, cA_toN, cA_eqB, beq_iff_eq, beq_eq_false_iff_ne, ne_eq, fitsK, ble_t, ble_f, flat2, flat4, Bool.not_eq_false', Bool.not_eq_true', Bool.and_eq_false_iff, Bool.and_eq_true, decide_eq_true_eq, decide_eq_false_iff_not, List.length_append, List.length_nil, List.length_cons, cA_ix] at g; omega)
                            | (((conv => whnf); refine bm (fun g => ?_) (fun g => ?_)))
                            | ((conv => whnf)
                               refine boL (getSA l hlt2 ?_) ?_
                               · simp [cfgS, std]; omega)
                            | ((conv => whnf)
                               refine boL (getSB l hlt2 ?_) ?_
                               · simp [cfgS, std]; omega)
                          all_goals (conv => whnf)
                          obtain ⟨hta, htb, -⟩ := right_two (all_atS hr hlt2)
                          have hns := nxt_s l a' b k
                          rw [← hx0] at hns
                          refine ⟨fun n e h nx => ∃ (q : Nat) (y : Int) (x1 : Int × Int), x1 = ([(atS l k).1, (atS l k).2].take q).foldl (nxA a' b) x0 ∧ y = q ∧ q ≤ 2 ∧ n = 2 - q ∧ e = e40d (.slice none 0 0) l.length c j x y ∧ h = h40d l ([]) a' b x1 [(atS l k).1, (atS l k).2] ∧ nx = 6, ⟨2, ?_⟩, ?_⟩
                          · refine Into_id (e0 := e40d (.slice none 0 0) l.length c j x 0) (h0 := h40d l ([]) a' b x0 [(atS l k).1, (atS l k).2]) (n0 := 6) ⟨0, 0, x0, rfl, rfl, by decide, rfl, rfl, rfl, rfl⟩ ?_ ?_ (by decide)
                            · unfold e40d
                              ((repeat' (refine List.forall_mem_cons.2 ⟨⟨rfl, ?_⟩, ?_⟩; (first | exact scT_g rfl | exact ⟨by decide, rfl⟩ | exact ⟨by decide, fun h => (by cases h)⟩))); exact fun _ h => (by cases h))
                            · unfold h40d
                              ((repeat' (refine List.forall_mem_cons.2 ⟨⟨Nat.le_of_ble_eq_true rfl, _, rfl, ?_⟩, ?_⟩; (first | exact ObjRen_g (flat_g _ _) | exact ObjRen_j rfl rfl))); exact fun _ h => (by cases h))
                          · rintro n e h nx ⟨q, y, x1, hx1, hy, hq, rfl, rfl, rfl, rfl⟩
                            have hpw : ∀ q, q < 2 → wide (at2 [(atS l k).1, (atS l k).2] q) = true := by
                              intro q hq
                              have : q = 0 ∨ q = 1 := by omega
                              rcases this with rfl | rfl
                              · rw [at2_p0]; exact rightS_wide hta
                              · rw [at2_p1]; exact rightS_wide htb
                            have hpl : [(atS l k).1, (atS l k).2].length = 2 := rfl
                            generalize hps : [(atS l k).1, (atS l k).2] = ps at hx1 hpw hpl ⊢
                            unfold e40d h40d
                            ((conv => whnf); refine bm (fun g7 => ?_) (fun g7 => ?_))
                            · have hq2 : q < 2 := by simp only [cA_lt, decide_eq_true_eq] at g7; omega
                              have hqp : q < ps.length := by omega
                              have hw := hpw q hq2
                              have hfs := foldN a' b x0 ps hqp
                              rw [← hx1] at hfs
                              repeat' first
                                | (exfalso; simp only [cA_add, cA_sub, cA_fits, cA_lt, cA_le, cA_eq, cA_notB, cA_andB, cA_num, cA_subN, cA_toN, cA_eqB, beq_iff_eq, beq_eq_false_iff_ne, ne_eq, fitsK, ble_t, ble_f, flat2, flat4, Bool.not_eq_false', Bool.not_eq_true', Bool.and_eq_false_iff, Bool.and_eq_true, decide_eq_true_eq, decide_eq_false_iff_not, List.length_append, List.length_nil, List.length_cons, cA_ix] at g; omega)
                                | (((conv => whnf); refine bm (fun g => ?_) (fun g => ?_)))
                                | ((conv => whnf)
                                   refine boL (getP ps hqp ?_) ?_
                                   · simp [cfgS, std]; omega)
                              all_goals (conv => whnf)
                              all_goals first
                                | (exfalso
                                   have hg : (wide (at2 ps q) && wideS (a', b)) = false := by assumption
                                   rw [hw, hwa] at hg
                                   cases hg)
                                | (have hin : insR (at2 ps q) (a', b) = true := by
                                     apply eqB_t
                                     assumption
                                   have hls : lessB (at2 ps q) x1 = true := by assumption
                                   rw [nxA_yes hin hls] at hfs
                                   refine ⟨2 - (q + 1), by omega, ?_⟩
                                   refine Into_id (e0 := e40d (.slice none 0 0) l.length c j x (y + 1)) (h0 := h40d l ([]) a' b (at2 ps q) ps) (n0 := 6) ⟨q + 1, y + 1, at2 ps q, hfs.symm, by omega, by omega, rfl, rfl, rfl, rfl⟩ ?_ ?_ (by decide)
                                   · unfold e40d
                                     ((repeat' (refine List.forall_mem_cons.2 ⟨⟨rfl, ?_⟩, ?_⟩; (first | exact scT_g rfl | exact ⟨by decide, rfl⟩ | exact ⟨by decide, fun h => (by cases h)⟩))); exact fun _ h => (by cases h))
                                   · unfold h40d
                                     ((repeat' (refine List.forall_mem_cons.2 ⟨⟨Nat.le_of_ble_eq_true rfl, _, rfl, ?_⟩, ?_⟩; (first | exact ObjRen_g (flat_g _ _) | exact ObjRen_j rfl rfl))); exact fun _ h => (by cases h)))
                                | (have hnx1 : nxA a' b x1 (at2 ps q) = x1 := by
                                     first
                                     | (apply nxA_no2
                                        assumption)
                                     | (apply nxA_no1
                                        apply eqB_f
                                        assumption)
                                   rw [hnx1] at hfs
                                   refine ⟨2 - (q + 1), by omega, ?_⟩
                                   refine Into_id (e0 := e40d (.slice none 0 0) l.length c j x (y + 1)) (h0 := h40d l ([]) a' b x1 ps) (n0 := 6) ⟨q + 1, y + 1, x1, hfs.symm, by omega, by omega, rfl, rfl, rfl, rfl⟩ ?_ ?_ (by decide)
                                   · unfold e40d
                                     ((repeat' (refine List.forall_mem_cons.2 ⟨⟨rfl, ?_⟩, ?_⟩; (first | exact scT_g rfl | exact ⟨by decide, rfl⟩ | exact ⟨by decide, fun h => (by cases h)⟩))); exact fun _ h => (by cases h))
                                   · unfold h40d
                                     ((repeat' (refine List.forall_mem_cons.2 ⟨⟨Nat.le_of_ble_eq_true rfl, _, rfl, ?_⟩, ?_⟩; (first | exact ObjRen_g (flat_g _ _) | exact ObjRen_j rfl rfl))); exact fun _ h => (by cases h)))
                                | trace_state
                            · have hq2 : q = 2 := by simp only [cA_lt, decide_eq_false_iff_not] at g7; omega
                              subst hq2
                              have hsk : x1 = nxtI l a' b (k + 1) := by
                                have e1 : ps.take 2 = ps := List.take_of_length_le (by omega)
                                rw [hx1, e1, ← hps, hns]
                                rfl
                              repeat' first
                                | (exfalso; simp only [cA_add, cA_sub, cA_fits, cA_lt, cA_le, cA_eq, cA_notB, cA_andB, cA_num, cA_subN, cA_toN, cA_eqB, beq_iff_eq, beq_eq_false_iff_ne, ne_eq, fitsK, ble_t, ble_f, flat2, flat4, Bool.not_eq_false', Bool.not_eq_true', Bool.and_eq_false_iff, Bool.and_eq_true, decide_eq_true_eq, decide_eq_false_iff_not, List.length_append, List.length_nil, List.length_cons, cA_ix] at g; omega)
                                | (((conv => whnf); refine bm (fun g => ?_) (fun g => ?_)))
                              all_goals (conv => whnf)
                              refine ⟨l.length - (k + 1), by omega, ?_⟩
                              refine Into_id (e0 := e40c (.slice none 0 0) l.length c j (x + 1)) (h0 := h40c l ([]) a' b x1) (n0 := 5) ⟨k + 1, x + 1, x1, hsk, by omega, by omega, rfl, rfl, rfl, rfl⟩ ?_ ?_ (by decide)
                              · unfold e40c
                                ((repeat' (refine List.forall_mem_cons.2 ⟨⟨rfl, ?_⟩, ?_⟩; (first | exact scT_g rfl | exact ⟨by decide, rfl⟩ | exact ⟨by decide, fun h => (by cases h)⟩))); exact fun _ h => (by cases h))
                              · unfold h40c
                                ((repeat' (refine List.forall_mem_cons.2 ⟨⟨Nat.le_of_ble_eq_true rfl, _, rfl, ?_⟩, ?_⟩; (first | exact ObjRen_g (flat_g _ _) | exact ObjRen_j rfl rfl))); exact fun _ h => (by cases h))
                        · have hge : k = l.length := by simp only [cA_lt, cA_num, decide_eq_false_iff_not] at g6; omega
                          subst hge
                          rw [hnx] at hx0
                          have hgs := pc_g L D m
                          rw [← hL', hcur, ← hx0] at hgs
                          (conv => whnf)
                          refine ⟨L', ⟨rfl, rfl, hLn⟩, rfl, ?_⟩
                          ((conv => whnf); refine bm (fun g8 => ?_) (fun g8 => ?_))
                          · ((conv => whnf); refine bm (fun g9 => ?_) (fun g9 => ?_))
                            · have hkn : knG L' (a', x0) = true := g9
                              rw [insG_kn hkn] at hgs
                              exfalso
                              rw [hLn] at hkn
                              unfold knG at hkn
                              simp at hkn
                            · have hkn : knG L' (a', x0) = false := g9
                              obtain ⟨hle1, hle2, -⟩ := insG_le L' (a', x0)
                              show outK elS (insG L' (a', x0)) none _ _ _
                              generalize insG L' (a', x0) = M at hgs hle1 hle2 ⊢
                              refine outK_at hle2 ?_
                              (conv => whnf)
                              refine ⟨D.length - 1 - (m + 1), by omega, ?_⟩
                              refine Into_mv (e0 := e40b (.slice (some ⟨1, 0, none⟩) M.length M.length) l.length c j) (h0 := h40b l [(1, .cells true false 4 (flat elS.fl M))] (at2 D (m + 1)) b) (n0 := 4) 1 5 (by decide) (by decide) ⟨m + 1, M, _, _, hgs.symm, by omega, by omega, .inr ⟨hle2, rfl, rfl⟩, rfl, rfl, rfl⟩ ?_ ?_ ?_
                              · unfold e40b
                                ((repeat' (refine List.forall_mem_cons.2 ⟨⟨rfl, ?_⟩, ?_⟩; (first | exact scT_g rfl | exact ⟨by decide, rfl⟩ | exact ⟨by decide, fun h => (by cases h)⟩))); exact fun _ h => (by cases h))
                              · unfold h40b
                                rw [← hx0]
                                ((repeat' (refine List.forall_mem_cons.2 ⟨⟨Nat.le_of_ble_eq_true rfl, _, rfl, ?_⟩, ?_⟩; (first | exact ObjRen_g (flat_g _ _) | exact ObjRen_j rfl rfl))); exact fun _ h => (by cases h))
                              · unfold h40b
                                ((repeat' (refine List.forall_mem_cons.2 ⟨?_, ?_⟩; (intro _ h; revert h; simp))); exact fun _ h => (by cases h))
                          · exfalso
                            have hg : decide (L'.length ≤ 1000000) = false := g8
                            rw [decide_eq_false_iff_not] at hg
                            omega
                    · have heq : eqP (at2 D m) b = true := by
                        have hg : cfgS.A.notB (cfgS.A.andB (cfgS.A.eq (at2 D m).1 b.1) (cfgS.A.andB (cfgS.A.eq (at2 D m).2 b.2) true)) = false := g5
                        rw [eqPK] at hg
                        simpa only [cA_notB, Bool.not_eq_false'] using hg
                      have hmd : m = D.length - 1 := by
                        refine Classical.byContradiction fun h => ?_
                        have h1 := hDl m (D.length - 1) (by omega) (by omega)
                        rw [hDb, eqP_eq heq] at h1
                        exact less_irr h1
                      have hLo : L' = f40 l (i + 1) := by
                        rw [hL', hmd]
                        unfold f40 g40
                        rw [hos, hL0]
                        unfold f40
                        rfl
                      exfalso
                      have h1 := f40_pos hr (show 0 < i + 1 by omega) (show i + 1 ≤ l.length by omega)
                      rw [← hLo, hLn] at h1
                      simp at h1
                  · unfold e40b h40b
                    ((conv => whnf); refine bm (fun g5 => ?_) (fun g5 => ?_))
                    · have hne : eqP (at2 D m) b = false := by
                        have hg : cfgS.A.notB (cfgS.A.andB (cfgS.A.eq (at2 D m).1 b.1) (cfgS.A.andB (cfgS.A.eq (at2 D m).2 b.2) true)) = true := g5
                        rw [eqPK] at hg
                        simpa only [cA_notB, Bool.not_eq_true'] using hg
                      have hm1 : m + 1 < D.length := by
                        refine Nat.lt_of_le_of_ne hm fun h => ?_
                        rw [show m = D.length - 1 by omega, hDb, eqP_rfl] at hne
                        cases hne
                      clear g5 hne
                      have hnx := hDn m hm1
                      have hwa : wideS (at2 D m, b) = true := by
                        have h1 := rightS_wide (hDr _ (at_mem (show m < D.length by omega)))
                        have h2 := rightS_wide hrb
                        show (wide (at2 D m) && wide b) = true
                        rw [h1, h2]; rfl
                      generalize hcur : at2 D m = a' at hnx hwa ⊢
                      (conv => whnf)
                      refine ⟨fun n e h nx => ∃ (k : Nat) (x : Int) (x0 : Int × Int), x0 = nxtI l a' b k ∧ x = k ∧ k ≤ l.length ∧ n = l.length - k ∧ e = e40c ((.slice (some ⟨1, 0, none⟩) L'.length L'.length)) l.length c j x ∧ h = h40c l ([(1, .cells true false 4 (flat elS.fl L'))]) a' b x0 ∧ nx = 5, ⟨l.length, ?_⟩, ?_⟩
                      · refine Into_id (e0 := e40c ((.slice (some ⟨1, 0, none⟩) L'.length L'.length)) l.length c j 0) (h0 := h40c l ([(1, .cells true false 4 (flat elS.fl L'))]) a' b b) (n0 := 5) ⟨0, 0, b, (nxt_0 l a' b).symm, rfl, Nat.zero_le _, rfl, rfl, rfl, rfl⟩ ?_ ?_ (by decide)
                        · unfold e40c
                          ((repeat' (refine List.forall_mem_cons.2 ⟨⟨rfl, ?_⟩, ?_⟩; (first | exact scT_g rfl | exact ⟨by decide, rfl⟩ | exact ⟨by decide, fun h => (by cases h)⟩))); exact fun _ h => (by cases h))
                        · unfold h40c
                          ((repeat' (refine List.forall_mem_cons.2 ⟨⟨Nat.le_of_ble_eq_true rfl, _, rfl, ?_⟩, ?_⟩; (first | exact ObjRen_g (flat_g _ _) | exact ObjRen_j rfl rfl))); exact fun _ h => (by cases h))
                      · rintro n e h nx ⟨k, x, x0, hx0, hx, hk, rfl, rfl, rfl, rfl⟩
                        unfold e40c h40c
                        ((conv => whnf); refine bm (fun g6 => ?_) (fun g6 => ?_))
                        · have hlt2 : k < l.length := by simp only [cA_lt, cA_num, decide_eq_true_eq] at g6; omega
                          repeat' first
                            | (exfalso; simp only [cA_add, cA_sub, cA_fits, cA_lt, cA_le, cA_eq, cA_notB, cA_andB, cA_num, cA_subN, cA_toN, cA_eqB, beq_iff_eq, beq_eq_false_iff_ne, ne_eq, fitsK, ble_t, ble_f, flat2, flat4, Bool.not_eq_false', Bool.not_eq_true', Bool.and_eq_false_iff, Bool.and_eq_true, decide_eq_true_eq, decide_eq_false_iff_not, List.length_append, List.length_nil, List.length_cons, cA_ix] at g; omega)
                            | (((conv => whnf); refine bm (fun g => ?_) (fun g => ?_)))
                            | ((conv => whnf)
                               refine boL (getSA l hlt2 ?_) ?_
                               · simp [cfgS, std]; omega)
                            | ((conv => whnf)
                               refine boL (getSB l hlt2 ?_) ?_
                               · simp [cfgS, std]; omega)
                          all_goals (conv => whnf)
                          obtain ⟨hta, htb, -⟩ := right_two (all_atS hr hlt2)
                          have hns := nxt_s l a' b k
                          rw [← hx0] at hns
                          refine ⟨fun n e h nx => ∃ (q : Nat) (y : Int) (x1 : Int × Int), x1 = ([(atS l k).1, (atS l k).2].take q).foldl (nxA a' b) x0 ∧ y = q ∧ q ≤ 2 ∧ n = 2 - q ∧ e = e40d ((.slice (some ⟨1, 0, none⟩) L'.length L'.length)) l.length c j x y ∧ h = h40d l ([(1, .cells true false 4 (flat elS.fl L'))]) a' b x1 [(atS l k).1, (atS l k).2] ∧ nx = 6, ⟨2, ?_⟩, ?_⟩
                          · refine Into_id (e0 := e40d ((.slice (some ⟨1, 0, none⟩) L'.length L'.length)) l.length c j x 0) (h0 := h40d l ([(1, .cells true false 4 (flat elS.fl L'))]) a' b x0 [(atS l k).1, (atS l k).2]) (n0 := 6) ⟨0, 0, x0, rfl, rfl, by decide, rfl, rfl, rfl, rfl⟩ ?_ ?_ (by decide)
                            · unfold e40d
                              ((repeat' (refine List.forall_mem_cons.2 ⟨⟨rfl, ?_⟩, ?_⟩; (first | exact scT_g rfl | exact ⟨by decide, rfl⟩ | exact ⟨by decide, fun h => (by cases h)⟩))); exact fun _ h => (by cases h))
                            · unfold h40d
                              ((repeat' (refine List.forall_mem_cons.2 ⟨⟨Nat.le_of_ble_eq_true rfl, _, rfl, ?_⟩, ?_⟩; (first | exact ObjRen_g (flat_g _ _) | exact ObjRen_j rfl rfl))); exact fun _ h => (by cases h))
                          · rintro n e h nx ⟨q, y, x1, hx1, hy, hq, rfl, rfl, rfl, rfl⟩
                            have hpw : ∀ q, q < 2 → wide (at2 [(atS l k).1, (atS l k).2] q) = true := by
                              intro q hq
                              have : q = 0 ∨ q = 1 := by omega
                              rcases this with rfl | rfl
                              · rw [at2_p0]; exact rightS_wide hta
                              · rw [at2_p1]; exact rightS_wide htb
                            have hpl : [(atS l k).1, (atS l k).2].length = 2 := rfl
                            generalize hps : [(atS l k).1, (atS l k).2] = ps at hx1 hpw hpl ⊢
                            unfold e40d h40d
                            ((conv => whnf); refine bm (fun g7 => ?_) (fun g7 => ?_))
                            · have hq2 : q < 2 := by simp only [cA_lt, decide_eq_true_eq] at g7; omega
                              have hqp : q < ps.length := by omega
                              have hw := hpw q hq2
                              have hfs := foldN a' b x0 ps hqp
                              rw [← hx1] at hfs
                              repeat' first
                                | (exfalso; simp only [cA_add, cA_sub, cA_fits, cA_lt, cA_le, cA_eq, cA_notB, cA_andB, cA_num, cA_subN, cA_toN, cA_eqB, beq_iff_eq, beq_eq_false_iff_ne, ne_eq, fitsK, ble_t, ble_f, flat2, flat4, Bool.not_eq_false', Bool.not_eq_true', Bool.and_eq_false_iff, Bool.and_eq_true, decide_eq_true_eq, decide_eq_false_iff_not, List.length_append, List.length_nil, List.length_cons, cA_ix] at g; omega)
                                | (((conv => whnf); refine bm (fun g => ?_) (fun g => ?_)))
                                | ((conv => whnf)
                                   refine boL (getP ps hqp ?_) ?_
                                   · simp [cfgS, std]; omega)
                              all_goals (conv => whnf)
                              all_goals first
                                | (exfalso
                                   have hg : (wide (at2 ps q) && wideS (a', b)) = false := by assumption
                                   rw [hw, hwa] at hg
                                   cases hg)
                                | (have hin : insR (at2 ps q) (a', b) = true := by
                                     apply eqB_t
                                     assumption
                                   have hls : lessB (at2 ps q) x1 = true := by assumption
                                   rw [nxA_yes hin hls] at hfs
                                   refine ⟨2 - (q + 1), by omega, ?_⟩
                                   refine Into_id (e0 := e40d ((.slice (some ⟨1, 0, none⟩) L'.length L'.length)) l.length c j x (y + 1)) (h0 := h40d l ([(1, .cells true false 4 (flat elS.fl L'))]) a' b (at2 ps q) ps) (n0 := 6) ⟨q + 1, y + 1, at2 ps q, hfs.symm, by omega, by omega, rfl, rfl, rfl, rfl⟩ ?_ ?_ (by decide)
                                   · unfold e40d
                                     ((repeat' (refine List.forall_mem_cons.2 ⟨⟨rfl, ?_⟩, ?_⟩; (first | exact scT_g rfl | exact ⟨by decide, rfl⟩ | exact ⟨by decide, fun h => (by cases h)⟩))); exact fun _ h => (by cases h))
                                   · unfold h40d
                                     ((repeat' (refine List.forall_mem_cons.2 ⟨⟨Nat.le_of_ble_eq_true rfl, _, rfl, ?_⟩, ?_⟩; (first | exact ObjRen_g (flat_g _ _) | exact ObjRen_j rfl rfl))); exact fun _ h => (by cases h)))
                                | (have hnx1 : nxA a' b x1 (at2 ps q) = x1 := by
                                     first
                                     | (apply nxA_no2
                                        assumption)
                                     | (apply nxA_no1
                                        apply eqB_f
                                        assumption)
                                   rw [hnx1] at hfs
                                   refine ⟨2 - (q + 1), by omega, ?_⟩
                                   refine Into_id (e0 := e40d ((.slice (some ⟨1, 0, none⟩) L'.length L'.length)) l.length c j x (y + 1)) (h0 := h40d l ([(1, .cells true false 4 (flat elS.fl L'))]) a' b x1 ps) (n0 := 6) ⟨q + 1, y + 1, x1, hfs.symm, by omega, by omega, rfl, rfl, rfl, rfl⟩ ?_ ?_ (by decide)
                                   · unfold e40d
                                     ((repeat' (refine List.forall_mem_cons.2 ⟨⟨rfl, ?_⟩, ?_⟩; (first | exact scT_g rfl | exact ⟨by decide, rfl⟩ | exact ⟨by decide, fun h => (by cases h)⟩))); exact fun _ h => (by cases h))
                                   · unfold h40d
                                     ((repeat' (refine List.forall_mem_cons.2 ⟨⟨Nat.le_of_ble_eq_true rfl, _, rfl, ?_⟩, ?_⟩; (first | exact ObjRen_g (flat_g _ _) | exact ObjRen_j rfl rfl))); exact fun _ h => (by cases h)))
                                | trace_state
                            · have hq2 : q = 2 := by simp only [cA_lt, decide_eq_false_iff_not] at g7; omega
                              subst hq2
                              have hsk : x1 = nxtI l a' b (k + 1) := by
                                have e1 : ps.take 2 = ps := List.take_of_length_le (by omega)
                                rw [hx1, e1, ← hps, hns]
                                rfl
                              repeat' first
                                | (exfalso; simp only [cA_add, cA_sub, cA_fits, cA_lt, cA_le, cA_eq, cA_notB, cA_andB, cA_num, cA_subN, cA_toN, cA_eqB, beq_iff_eq, beq_eq_false_iff_ne, ne_eq, fitsK, ble_t, ble_f, flat2, flat4, Bool.not_eq_false', Bool.not_eq_true', Bool.and_eq_false_iff, Bool.and_eq_true, decide_eq_true_eq, decide_eq_false_iff_not, List.length_append, List.length_nil, List.length_cons, cA_ix] at g; omega)
                                | (((conv => whnf); refine bm (fun g => ?_) (fun g => ?_)))
                              all_goals (conv => whnf)
                              refine ⟨l.length - (k + 1), by omega, ?_⟩
                              refine Into_id (e0 := e40c ((.slice (some ⟨1, 0, none⟩) L'.length L'.length)) l.length c j (x + 1)) (h0 := h40c l ([(1, .cells true false 4 (flat elS.fl L'))]) a' b x1) (n0 := 5) ⟨k + 1, x + 1, x1, hsk, by omega, by omega, rfl, rfl, rfl, rfl⟩ ?_ ?_ (by decide)
                              · unfold e40c
                                ((repeat' (refine List.forall_mem_cons.2 ⟨⟨rfl, ?_⟩, ?_⟩; (first | exact scT_g rfl | exact ⟨by decide, rfl⟩ | exact ⟨by decide, fun h => (by cases h)⟩))); exact fun _ h => (by cases h))
                              · unfold h40c
                                ((repeat' (refine List.forall_mem_cons.2 ⟨⟨Nat.le_of_ble_eq_true rfl, _, rfl, ?_⟩, ?_⟩; (first | exact ObjRen_g (flat_g _ _) | exact ObjRen_j rfl rfl))); exact fun _ h => (by cases h))
                        · have hge : k = l.length := by simp only [cA_lt, cA_num, decide_eq_false_iff_not] at g6; omega
                          subst hge
                          rw [hnx] at hx0
                          have hgs := pc_g L D m
                          rw [← hL', hcur, ← hx0] at hgs
                          (conv => whnf)
                          refine ⟨L', ⟨rfl, _, _, _, _, rfl, take_all4 L'⟩, Nat.beq_refl _, ?_⟩
                          ((conv => whnf); refine bm (fun g8 => ?_) (fun g8 => ?_))
                          · ((conv => whnf); refine bm (fun g9 => ?_) (fun g9 => ?_))
                            · have hkn : knG L' (a', x0) = true := g9
                              rw [insG_kn hkn] at hgs
                              refine ⟨D.length - 1 - (m + 1), by omega, ?_⟩
                              refine Into_id (e0 := e40b ((.slice (some ⟨1, 0, none⟩) L'.length L'.length)) l.length c j) (h0 := h40b l ([(1, .cells true false 4 (flat elS.fl L'))]) (at2 D (m + 1)) b) (n0 := 4) ⟨m + 1, L', _, _, hgs.symm, by omega, by omega, .inr ⟨hLn, rfl, rfl⟩, rfl, rfl, rfl⟩ ?_ ?_ (by decide)
                              · unfold e40b
                                ((repeat' (refine List.forall_mem_cons.2 ⟨⟨rfl, ?_⟩, ?_⟩; (first | exact scT_g rfl | exact ⟨by decide, rfl⟩ | exact ⟨by decide, fun h => (by cases h)⟩))); exact fun _ h => (by cases h))
                              · unfold h40b
                                rw [← hx0]
                                ((repeat' (refine List.forall_mem_cons.2 ⟨⟨Nat.le_of_ble_eq_true rfl, _, rfl, ?_⟩, ?_⟩; (first | exact ObjRen_g (flat_g _ _) | exact ObjRen_j rfl rfl))); exact fun _ h => (by cases h))
                            · have hkn : knG L' (a', x0) = false := g9
                              obtain ⟨hle1, hle2, -⟩ := insG_le L' (a', x0)
                              show outK elS (insG L' (a', x0)) none _ _ _
                              generalize insG L' (a', x0) = M at hgs hle1 hle2 ⊢
                              refine outK_at hle2 ?_
                              (conv => whnf)
                              refine ⟨D.length - 1 - (m + 1), by omega, ?_⟩
                              refine Into_mv (e0 := e40b (.slice (some ⟨1, 0, none⟩) M.length M.length) l.length c j) (h0 := h40b l [(1, .cells true false 4 (flat elS.fl M))] (at2 D (m + 1)) b) (n0 := 4) 1 5 (by decide) (by decide) ⟨m + 1, M, _, _, hgs.symm, by omega, by omega, .inr ⟨hle2, rfl, rfl⟩, rfl, rfl, rfl⟩ ?_ ?_ ?_
                              · unfold e40b
                                ((repeat' (refine List.forall_mem_cons.2 ⟨⟨rfl, ?_⟩, ?_⟩; (first | exact scT_g rfl | exact ⟨by decide, rfl⟩ | exact ⟨by decide, fun h => (by cases h)⟩))); exact fun _ h => (by cases h))
                              · unfold h40b
                                rw [← hx0]
                                ((repeat' (refine List.forall_mem_cons.2 ⟨⟨Nat.le_of_ble_eq_true rfl, _, rfl, ?_⟩, ?_⟩; (first | exact ObjRen_g (flat_g _ _) | exact ObjRen_j rfl rfl))); exact fun _ h => (by cases h))
                              · unfold h40b
                                ((repeat' (refine List.forall_mem_cons.2 ⟨?_, ?_⟩; (intro _ h; revert h; simp))); exact fun _ h => (by cases h))
                          · exfalso
                            have hg : decide (L'.length ≤ 1000000) = false := g8
                            rw [decide_eq_false_iff_not] at hg
                            omega
                    · have heq : eqP (at2 D m) b = true := by
                        have hg : cfgS.A.notB (cfgS.A.andB (cfgS.A.eq (at2 D m).1 b.1) (cfgS.A.andB (cfgS.A.eq (at2 D m).2 b.2) true)) = false := g5
                        rw [eqPK] at hg
                        simpa only [cA_notB, Bool.not_eq_false'] using hg
                      have hmd : m = D.length - 1 := by
                        refine Classical.byContradiction fun h => ?_
                        have h1 := hDl m (D.length - 1) (by omega) (by omega)
                        rw [hDb, eqP_eq heq] at h1
                        exact less_irr h1
                      have hLo : L' = f40 l (i + 1) := by
                        rw [hL', hmd]
                        unfold f40 g40
                        rw [hos, hL0]
                        unfold f40
                        rfl
                      repeat' first
                        | (exfalso; simp only [cA_add, cA_sub, cA_fits, cA_lt, cA_le, cA_eq, cA_notB, cA_andB, cA_num, cA_subN, cA_toN, cA_eqB, beq_iff_eq, beq_eq_false_iff_ne, ne_eq, fitsK, ble_t, ble_f, flat2, flat4, Bool.not_eq_false', Bool.not_eq_true', Bool.and_eq_false_iff, Bool.and_eq_true, decide_eq_true_eq, decide_eq_false_iff_not, List.length_append, List.length_nil, List.length_cons, cA_ix] at g; omega)
                        | (((conv => whnf); refine bm (fun g => ?_) (fun g => ?_)))
                      all_goals (conv => whnf)
                      refine ⟨l.length - (i + 1), by omega, ?_⟩
                      refine Into_id (e0 := e40 ((.slice (some ⟨1, 0, none⟩) L'.length L'.length)) l.length c (j + 1)) (h0 := h40 l ([(1, .cells true false 4 (flat elS.fl L'))])) (n0 := 2) ⟨i + 1, j + 1, L', _, _, by omega, by omega, rfl, hLo, .inr ⟨hLn, rfl, rfl⟩, rfl, rfl, rfl⟩ ?_ ?_ (by decide)
                      · unfold e40
                        ((repeat' (refine List.forall_mem_cons.2 ⟨⟨rfl, ?_⟩, ?_⟩; (first | exact scT_g rfl | exact ⟨by decide, rfl⟩ | exact ⟨by decide, fun h => (by cases h)⟩))); exact fun _ h => (by cases h))
                      · unfold h40
                        ((repeat' (refine List.forall_mem_cons.2 ⟨⟨Nat.le_of_ble_eq_true rfl, _, rfl, ?_⟩, ?_⟩; (first | exact ObjRen_g (flat_g _ _) | exact ObjRen_j rfl rfl))); exact fun _ h => (by cases h))

            · have hge : i = l.length := by simp only [cA_lt, cA_num, decide_eq_false_iff_not] at g4; omega
              subst hge
              exfalso
              have := f40_pos hr hpos (Nat.le_refl l.length)
              rw [← hL0, hL] at this
              simp at this
          · unfold e40 h40
            ((conv => whnf); refine bm (fun g4 => ?_) (fun g4 => ?_))
            · have hlt : i < l.length := by simp only [cA_lt, cA_num, decide_eq_true_eq] at g4; omega
              have hsr := all_atS hr hlt
              obtain ⟨a, b, hen, hab, hsab, hra, hrb⟩ := ends_two hsr
              have hDe := stD_ends (l := l) hen hab hsab
              have hDl : ∀ p q, p < q → q < (stD l (atS l i)).length → lessB (at2 (stD l (atS l i)) p) (at2 (stD l (atS l i)) q) = true := fun p q h1 h2 => stD_lt h1 h2
              have hDn : ∀ k, k + 1 < (stD l (atS l i)).length → nxtI l (at2 (stD l (atS l i)) k) b l.length = at2 (stD l (atS l i)) (k + 1) := fun k h => nxt_is hen hab hsab hr hra hrb h
              have hDr : ∀ x, x ∈ stD l (atS l i) → rightS x = true := fun x hx => stD_right hen hr hra hrb hx
              have hD9 := stD_len l (atS l i)
              have hos := out_fold l i
              have hA : lessB (atS l i).2 (atS l i).1 = true → a = (atS l i).2 ∧ b = (atS l i).1 := fun h => by
                rcases hsab with e | e
                · rw [e] at h
                  exact absurd (less_tr h hab) (fun h => less_irr h)
                · rw [e]; exact ⟨rfl, rfl⟩
              have hA' : lessB (atS l i).2 (atS l i).1 = false → a = (atS l i).1 ∧ b = (atS l i).2 := fun h => by
                rcases hsab with e | e
                · rw [e]; exact ⟨rfl, rfl⟩
                · rw [e] at h
                  rw [show lessB (b, a).2 (b, a).1 = lessB a b from rfl, hab] at h
                  cases h
              repeat' first
                | (exfalso; simp only [cA_add, cA_sub, cA_fits, cA_lt, cA_le, cA_eq, cA_notB, cA_andB, cA_num, cA_subN, cA_toN, cA_eqB, beq_iff_eq, beq_eq_false_iff_ne, ne_eq, fitsK, ble_t, ble_f, flat2, flat4, Bool.not_eq_false', Bool.not_eq_true', Bool.and_eq_false_iff, Bool.and_eq_true, decide_eq_true_eq, decide_eq_false_iff_not, List.length_append, List.length_nil, List.length_cons, cA_ix] at g; omega)
                | (((conv => whnf); refine bm (fun g => ?_) (fun g => ?_)))
                | ((conv => whnf)
                   refine boL (getSA l hlt ?_) ?_
                   · simp [cfgS, std]; omega)
                | ((conv => whnf)
                   refine boL (getSB l hlt ?_) ?_
                   · simp [cfgS, std]; omega)
              all_goals (conv => whnf)
              all_goals
                first
                  | (have hAB : a = (atS l i).2 ∧ b = (atS l i).1 := by
                       apply hA
                       assumption)
                  | (have hAB : a = (atS l i).1 ∧ b = (atS l i).2 := by
                       apply hA'
                       assumption)
                generalize hD : stD l (atS l i) = D at hDe hDl hDn hDr hD9 hos
                obtain ⟨hD2, hDa, hDb⟩ := hDe
                refine ⟨fun n e h nx => ∃ (m : Nat) (L' : List Sg) (O' : Value) (F' : Heap), L' = g40 L D m ∧ m + 1 ≤ D.length ∧ n = D.length - 1 - m ∧ OF L' O' F' ∧ e = e40b O' l.length c j ∧ h = h40b l F' (at2 D m) b ∧ nx = 4, ⟨D.length - 1, ?_⟩, ?_⟩
                · refine Into_id (e0 := e40b ((.slice (some ⟨1, 0, none⟩) L.length L.length)) l.length c j) (h0 := h40b l ([(1, .cells true false 4 (flat elS.fl L))]) (at2 D 0) b) (n0 := 4) ⟨0, L, _, _, (g40_0 L D).symm, by omega, rfl, .inr ⟨hL, rfl, rfl⟩, rfl, rfl, rfl⟩ ?_ ?_ (by decide)
                  · unfold e40b
                    ((repeat' (refine List.forall_mem_cons.2 ⟨⟨rfl, ?_⟩, ?_⟩; (first | exact scT_g rfl | exact ⟨by decide, rfl⟩ | exact ⟨by decide, fun h => (by cases h)⟩))); exact fun _ h => (by cases h))
                  · unfold h40b
                    ((repeat' (refine List.forall_mem_cons.2 ⟨⟨Nat.le_of_ble_eq_true rfl, _, rfl, ?_⟩, ?_⟩; (first | exact (ObjRen_j rfl (by first | exact ptEq hAB.2.symm | exact ptEq (hDa.trans hAB.1).symm)) | exact ObjRen_g (flat_g _ _) | exact ObjRen_j rfl rfl))); exact fun _ h => (by cases h))
                · rintro n e h nx ⟨m, L', O', F', hL', hm, rfl, hO', rfl, rfl, rfl⟩
                  have hLb' : L'.length ≤ 400 * 801 + 801 := by
                    have h1 := g40_le L D m
                    rw [← hL'] at h1
                    omega
                  rcases hO' with ⟨hLn, rfl, rfl⟩ | ⟨hLn, rfl, rfl⟩
                  · exfalso
                    have h1 := g40_ge L D m
                    rw [← hL', hLn] at h1
                    simp only [List.length_nil] at h1
                    omega
                  · unfold e40b h40b
                    ((conv => whnf); refine bm (fun g5 => ?_) (fun g5 => ?_))
                    · have hne : eqP (at2 D m) b = false := by
                        have hg : cfgS.A.notB (cfgS.A.andB (cfgS.A.eq (at2 D m).1 b.1) (cfgS.A.andB (cfgS.A.eq (at2 D m).2 b.2) true)) = true := g5
                        rw [eqPK] at hg
                        simpa only [cA_notB, Bool.not_eq_true'] using hg
                      have hm1 : m + 1 < D.length := by
                        refine Nat.lt_of_le_of_ne hm fun h => ?_
                        rw [show m = D.length - 1 by omega, hDb, eqP_rfl] at hne
                        cases hne
                      clear g5 hne
                      have hnx := hDn m hm1
                      have hwa : wideS (at2 D m, b) = true := by
                        have h1 := rightS_wide (hDr _ (at_mem (show m < D.length by omega)))
                        have h2 := rightS_wide hrb
                        show (wide (at2 D m) && wide b) = true
                        rw [h1, h2]; rfl
                      generalize hcur : at2 D m = a' at hnx hwa ⊢
                      (conv => whnf)
                      refine ⟨fun n e h nx => ∃ (k : Nat) (x : Int) (x0 : Int × Int), x0 = nxtI l a' b k ∧ x = k ∧ k ≤ l.length ∧ n = l.length - k ∧ e = e40c ((.slice (some ⟨1, 0, none⟩) L'.length L'.length)) l.length c j x ∧ h = h40c l ([(1, .cells true false 4 (flat elS.fl L'))]) a' b x0 ∧ nx = 5, ⟨l.length, ?_⟩, ?_⟩
                      · refine Into_id (e0 := e40c ((.slice (some ⟨1, 0, none⟩) L'.length L'.length)) l.length c j 0) (h0 := h40c l ([(1, .cells true false 4 (flat elS.fl L'))]) a' b b) (n0 := 5) ⟨0, 0, b, (nxt_0 l a' b).symm, rfl, Nat.zero_le _, rfl, rfl, rfl, rfl⟩ ?_ ?_ (by decide)
                        · unfold e40c
                          ((repeat' (refine List.forall_mem_cons.2 ⟨⟨rfl, ?_⟩, ?_⟩; (first | exact scT_g rfl | exact ⟨by decide, rfl⟩ | exact ⟨by decide, fun h => (by cases h)⟩))); exact fun _ h => (by cases h))
                        · unfold h40c
                          ((repeat' (refine List.forall_mem_cons.2 ⟨⟨Nat.le_of_ble_eq_true rfl, _, rfl, ?_⟩, ?_⟩; (first | exact ObjRen_g (flat_g _ _) | exact ObjRen_j rfl rfl))); exact fun _ h => (by cases h))
                      · rintro n e h nx ⟨k, x, x0, hx0, hx, hk, rfl, rfl, rfl, rfl⟩
                        unfold e40c h40c
                        ((conv => whnf); refine bm (fun g6 => ?_) (fun g6 => ?_))
                        · have hlt2 : k < l.length := by simp only [cA_lt, cA_num, decide_eq_true_eq] at g6; omega
                          repeat' first
                            | (exfalso; simp only [cA_add, cA_sub, cA_fits, cA_lt, cA_le, cA_eq, cA_notB, cA_andB, cA_num, cA_subN, cA_toN, cA_eqB, beq_iff_eq, beq_eq_false_iff_ne, ne_eq, fitsK, ble_t, ble_f, flat2, flat4, Bool.not_eq_false', Bool.not_eq_true', Bool.and_eq_false_iff, Bool.and_eq_true, decide_eq_true_eq, decide_eq_false_iff_not, List.length_append, List.length_nil, List.length_cons, cA_ix] at g; omega)
                            | (((conv => whnf); refine bm (fun g => ?_) (fun g => ?_)))
                            | ((conv => whnf)
                               refine boL (getSA l hlt2 ?_) ?_
                               · simp [cfgS, std]; omega)
                            | ((conv => whnf)
                               refine boL (getSB l hlt2 ?_) ?_
                               · simp [cfgS, std]; omega)
                          all_goals (conv => whnf)
                          obtain ⟨hta, htb, -⟩ := right_two (all_atS hr hlt2)
                          have hns := nxt_s l a' b k
                          rw [← hx0] at hns
                          refine ⟨fun n e h nx => ∃ (q : Nat) (y : Int) (x1 : Int × Int), x1 = ([(atS l k).1, (atS l k).2].take q).foldl (nxA a' b) x0 ∧ y = q ∧ q ≤ 2 ∧ n = 2 - q ∧ e = e40d ((.slice (some ⟨1, 0, none⟩) L'.length L'.length)) l.length c j x y ∧ h = h40d l ([(1, .cells true false 4 (flat elS.fl L'))]) a' b x1 [(atS l k).1, (atS l k).2] ∧ nx = 6, ⟨2, ?_⟩, ?_⟩
                          · refine Into_id (e0 := e40d ((.slice (some ⟨1, 0, none⟩) L'.length L'.length)) l.length c j x 0) (h0 := h40d l ([(1, .cells true false 4 (flat elS.fl L'))]) a' b x0 [(atS l k).1, (atS l k).2]) (n0 := 6) ⟨0, 0, x0, rfl, rfl, by decide, rfl, rfl, rfl, rfl⟩ ?_ ?_ (by decide)
                            · unfold e40d
                              ((repeat' (refine List.forall_mem_cons.2 ⟨⟨rfl, ?_⟩, ?_⟩; (first | exact scT_g rfl | exact ⟨by decide, rfl⟩ | exact ⟨by decide, fun h => (by cases h)⟩))); exact fun _ h => (by cases h))
                            · unfold h40d
                              ((repeat' (refine List.forall_mem_cons.2 ⟨⟨Nat.le_of_ble_eq_true rfl, _, rfl, ?_⟩, ?_⟩; (first | exact ObjRen_g (flat_g _ _) | exact ObjRen_j rfl rfl))); exact fun _ h => (by cases h))
                          · rintro n e h nx ⟨q, y, x1, hx1, hy, hq, rfl, rfl, rfl, rfl⟩
                            have hpw : ∀ q, q < 2 → wide (at2 [(atS l k).1, (atS l k).2] q) = true := by
                              intro q hq
                              have : q = 0 ∨ q = 1 := by omega
                              rcases this with rfl | rfl
                              · rw [at2_p0]; exact rightS_wide hta
                              · rw [at2_p1]; exact rightS_wide htb
                            have hpl : [(atS l k).1, (atS l k).2].length = 2 := rfl
                            generalize hps : [(atS l k).1, (atS l k).2] = ps at hx1 hpw hpl ⊢
                            unfold e40d h40d
                            ((conv => whnf); refine bm (fun g7 => ?_) (fun g7 => ?_))
                            · have hq2 : q < 2 := by simp only [cA_lt, decide_eq_true_eq] at g7; omega
                              have hqp : q < ps.length := by omega
                              have hw := hpw q hq2
                              have hfs := foldN a' b x0 ps hqp
                              rw [← hx1] at hfs
                              repeat' first
                                | (exfalso; simp only [cA_add, cA_sub, cA_fits, cA_lt, cA_le, cA_eq, cA_notB, cA_andB, cA_num, cA_subN, cA_toN, cA_eqB, beq_iff_eq, beq_eq_false_iff_ne, ne_eq, fitsK, ble_t, ble_f, flat2, flat4, Bool.not_eq_false', Bool.not_eq_true', Bool.and_eq_false_iff, Bool.and_eq_true, decide_eq_true_eq, decide_eq_false_iff_not, List.length_append, List.length_nil, List.length_cons, cA_ix] at g; omega)
                                | (((conv => whnf); refine bm (fun g => ?_) (fun g => ?_)))
                                | ((conv => whnf)
                                   refine boL (getP ps hqp ?_) ?_
                                   · simp [cfgS, std]; omega)
                              all_goals (conv => whnf)
                              all_goals first
                                | (exfalso
                                   have hg : (wide (at2 ps q) && wideS (a', b)) = false := by assumption
                                   rw [hw, hwa] at hg
                                   cases hg)
                                | (have hin : insR (at2 ps q) (a', b) = true := by
                                     apply eqB_t
                                     assumption
                                   have hls : lessB (at2 ps q) x1 = true := by assumption
                                   rw [nxA_yes hin hls] at hfs
                                   refine ⟨2 - (q + 1), by omega, ?_⟩
                                   refine Into_id (e0 := e40d ((.slice (some ⟨1, 0, none⟩) L'.length L'.length)) l.length c j x (y + 1)) (h0 := h40d l ([(1, .cells true false 4 (flat elS.fl L'))]) a' b (at2 ps q) ps) (n0 := 6) ⟨q + 1, y + 1, at2 ps q, hfs.symm, by omega, by omega, rfl, rfl, rfl, rfl⟩ ?_ ?_ (by decide)
                                   · unfold e40d
                                     ((repeat' (refine List.forall_mem_cons.2 ⟨⟨rfl, ?_⟩, ?_⟩; (first | exact scT_g rfl | exact ⟨by decide, rfl⟩ | exact ⟨by decide, fun h => (by cases h)⟩))); exact fun _ h => (by cases h))
                                   · unfold h40d
                                     ((repeat' (refine List.forall_mem_cons.2 ⟨⟨Nat.le_of_ble_eq_true rfl, _, rfl, ?_⟩, ?_⟩; (first | exact ObjRen_g (flat_g _ _) | exact ObjRen_j rfl rfl))); exact fun _ h => (by cases h)))
                                | (have hnx1 : nxA a' b x1 (at2 ps q) = x1 := by
                                     first
                                     | (apply nxA_no2
                                        assumption)
                                     | (apply nxA_no1
                                        apply eqB_f
                                        assumption)
                                   rw [hnx1] at hfs
                                   refine ⟨2 - (q + 1), by omega, ?_⟩
                                   refine Into_id (e0 := e40d ((.slice (some ⟨1, 0, none⟩) L'.length L'.length)) l.length c j x (y + 1)) (h0 := h40d l ([(1, .cells true false 4 (flat elS.fl L'))]) a' b x1 ps) (n0 := 6) ⟨q + 1, y + 1, x1, hfs.symm, by omega, by omega, rfl, rfl, rfl, rfl⟩ ?_ ?_ (by decide)
                                   · unfold e40d
                                     ((repeat' (refine List.forall_mem_cons.2 ⟨⟨rfl, ?_⟩, ?_⟩; (first | exact scT_g rfl | exact ⟨by decide, rfl⟩ | exact ⟨by decide, fun h => (by cases h)⟩))); exact fun _ h => (by cases h))
                                   · unfold h40d
                                     ((repeat' (refine List.forall_mem_cons.2 ⟨⟨Nat.le_of_ble_eq_true rfl, _, rfl, ?_⟩, ?_⟩; (first | exact ObjRen_g (flat_g _ _) | exact ObjRen_j rfl rfl))); exact fun _ h => (by cases h)))
                                | trace_state
                            · have hq2 : q = 2 := by simp only [cA_lt, decide_eq_false_iff_not] at g7; omega
                              subst hq2
                              have hsk : x1 = nxtI l a' b (k + 1) := by
                                have e1 : ps.take 2 = ps := List.take_of_length_le (by omega)
                                rw [hx1, e1, ← hps, hns]
                                rfl
                              repeat' first
                                | (exfalso; simp only [cA_add, cA_sub, cA_fits, cA_lt, cA_le, cA_eq, cA_notB, cA_andB, cA_num, cA_subN, cA_toN, cA_eqB, beq_iff_eq, beq_eq_false_iff_ne, ne_eq, fitsK, ble_t, ble_f, flat2, flat4, Bool.not_eq_false', Bool.not_eq_true', Bool.and_eq_false_iff, Bool.and_eq_true, decide_eq_true_eq, decide_eq_false_iff_not, List.length_append, List.length_nil, List.length_cons, cA_ix] at g; omega)
                                | (((conv => whnf); refine bm (fun g => ?_) (fun g => ?_)))
                              all_goals (conv => whnf)
                              refine ⟨l.length - (k + 1), by omega, ?_⟩
                              refine Into_id (e0 := e40c ((.slice (some ⟨1, 0, none⟩) L'.length L'.length)) l.length c j (x + 1)) (h0 := h40c l ([(1, .cells true false 4 (flat elS.fl L'))]) a' b x1) (n0 := 5) ⟨k + 1, x + 1, x1, hsk, by omega, by omega, rfl, rfl, rfl, rfl⟩ ?_ ?_ (by decide)
                              · unfold e40c
                                ((repeat' (refine List.forall_mem_cons.2 ⟨⟨rfl, ?_⟩, ?_⟩; (first | exact scT_g rfl | exact ⟨by decide, rfl⟩ | exact ⟨by decide, fun h => (by cases h)⟩))); exact fun _ h => (by cases h))
                              · unfold h40c
                                ((repeat' (refine List.forall_mem_cons.2 ⟨⟨Nat.le_of_ble_eq_true rfl, _, rfl, ?_⟩, ?_⟩; (first | exact ObjRen_g (flat_g _ _) | exact ObjRen_j rfl rfl))); exact fun _ h => (by cases h))
                        · have hge : k = l.length := by simp only [cA_lt, cA_num, decide_eq_false_iff_not] at g6; omega
                          subst hge
                          rw [hnx] at hx0
                          have hgs := pc_g L D m
                          rw [← hL', hcur, ← hx0] at hgs
                          (conv => whnf)
                          refine ⟨L', ⟨rfl, _, _, _, _, rfl, take_all4 L'⟩, Nat.beq_refl _, ?_⟩
                          ((conv => whnf); refine bm (fun g8 => ?_) (fun g8 => ?_))
                          · ((conv => whnf); refine bm (fun g9 => ?_) (fun g9 => ?_))
                            · have hkn : knG L' (a', x0) = true := g9
                              rw [insG_kn hkn] at hgs
                              refine ⟨D.length - 1 - (m + 1), by omega, ?_⟩
                              refine Into_id (e0 := e40b ((.slice (some ⟨1, 0, none⟩) L'.length L'.length)) l.length c j) (h0 := h40b l ([(1, .cells true false 4 (flat elS.fl L'))]) (at2 D (m + 1)) b) (n0 := 4) ⟨m + 1, L', _, _, hgs.symm, by omega, by omega, .inr ⟨hLn, rfl, rfl⟩, rfl, rfl, rfl⟩ ?_ ?_ (by decide)
                              · unfold e40b
                                ((repeat' (refine List.forall_mem_cons.2 ⟨⟨rfl, ?_⟩, ?_⟩; (first | exact scT_g rfl | exact ⟨by decide, rfl⟩ | exact ⟨by decide, fun h => (by cases h)⟩))); exact fun _ h => (by cases h))
                              · unfold h40b
                                rw [← hx0]
                                ((repeat' (refine List.forall_mem_cons.2 ⟨⟨Nat.le_of_ble_eq_true rfl, _, rfl, ?_⟩, ?_⟩; (first | exact ObjRen_g (flat_g _ _) | exact ObjRen_j rfl rfl))); exact fun _ h => (by cases h))
                            · have hkn : knG L' (a', x0) = false := g9
                              obtain ⟨hle1, hle2, -⟩ := insG_le L' (a', x0)
                              show outK elS (insG L' (a', x0)) none _ _ _
                              generalize insG L' (a', x0) = M at hgs hle1 hle2 ⊢
                              refine outK_at hle2 ?_
                              (conv => whnf)
                              refine ⟨D.length - 1 - (m + 1), by omega, ?_⟩
                              refine Into_mv (e0 := e40b (.slice (some ⟨1, 0, none⟩) M.length M.length) l.length c j) (h0 := h40b l [(1, .cells true false 4 (flat elS.fl M))] (at2 D (m + 1)) b) (n0 := 4) 1 5 (by decide) (by decide) ⟨m + 1, M, _, _, hgs.symm, by omega, by omega, .inr ⟨hle2, rfl, rfl⟩, rfl, rfl, rfl⟩ ?_ ?_ ?_
                              · unfold e40b
                                ((repeat' (refine List.forall_mem_cons.2 ⟨⟨rfl, ?_⟩, ?_⟩; (first | exact scT_g rfl | exact ⟨by decide, rfl⟩ | exact ⟨by decide, fun h => (by cases h)⟩))); exact fun _ h => (by cases h))
                              · unfold h40b
                                rw [← hx0]
                                ((repeat' (refine List.forall_mem_cons.2 ⟨⟨Nat.le_of_ble_eq_true rfl, _, rfl, ?_⟩, ?_⟩; (first | exact ObjRen_g (flat_g _ _) | exact ObjRen_j rfl rfl))); exact fun _ h => (by cases h))
                              · unfold h40b
                                ((repeat' (refine List.forall_mem_cons.2 ⟨?_, ?_⟩; (intro _ h; revert h; simp))); exact fun _ h => (by cases h))
                          · exfalso
                            have hg : decide (L'.length ≤ 1000000) = false := g8
                            rw [decide_eq_false_iff_not] at hg
                            omega
                    · have heq : eqP (at2 D m) b = true := by
                        have hg : cfgS.A.notB (cfgS.A.andB (cfgS.A.eq (at2 D m).1 b.1) (cfgS.A.andB (cfgS.A.eq (at2 D m).2 b.2) true)) = false := g5
                        rw [eqPK] at hg
                        simpa only [cA_notB, Bool.not_eq_false'] using hg
                      have hmd : m = D.length - 1 := by
                        refine Classical.byContradiction fun h => ?_
                        have h1 := hDl m (D.length - 1) (by omega) (by omega)
                        rw [hDb, eqP_eq heq] at h1
                        exact less_irr h1
                      have hLo : L' = f40 l (i + 1) := by
                        rw [hL', hmd]
                        unfold f40 g40
                        rw [hos, hL0]
                        unfold f40
                        rfl
                      repeat' first
                        | (exfalso; simp only [cA_add, cA_sub, cA_fits, cA_lt, cA_le, cA_eq, cA_notB, cA_andB, cA_num, cA_subN, cA_toN, cA_eqB, beq_iff_eq, beq_eq_false_iff_ne, ne_eq, fitsK, ble_t, ble_f, flat2, flat4, Bool.not_eq_false', Bool.not_eq_true', Bool.and_eq_false_iff, Bool.and_eq_true, decide_eq_true_eq, decide_eq_false_iff_not, List.length_append, List.length_nil, List.length_cons, cA_ix] at g; omega)
                        | (((conv => whnf); refine bm (fun g => ?_) (fun g => ?_)))
                      all_goals (conv => whnf)
                      refine ⟨l.length - (i + 1), by omega, ?_⟩
                      refine Into_id (e0 := e40 ((.slice (some ⟨1, 0, none⟩) L'.length L'.length)) l.length c (j + 1)) (h0 := h40 l ([(1, .cells true false 4 (flat elS.fl L'))])) (n0 := 2) ⟨i + 1, j + 1, L', _, _, by omega, by omega, rfl, hLo, .inr ⟨hLn, rfl, rfl⟩, rfl, rfl, rfl⟩ ?_ ?_ (by decide)
                      · unfold e40
                        ((repeat' (refine List.forall_mem_cons.2 ⟨⟨rfl, ?_⟩, ?_⟩; (first | exact scT_g rfl | exact ⟨by decide, rfl⟩ | exact ⟨by decide, fun h => (by cases h)⟩))); exact fun _ h => (by cases h))
                      · unfold h40
                        ((repeat' (refine List.forall_mem_cons.2 ⟨⟨Nat.le_of_ble_eq_true rfl, _, rfl, ?_⟩, ?_⟩; (first | exact ObjRen_g (flat_g _ _) | exact ObjRen_j rfl rfl))); exact fun _ h => (by cases h))

            · have hge : i = l.length := by simp only [cA_lt, cA_num, decide_eq_false_iff_not] at g4; omega
              subst hge
              rw [← hL0]
              (conv => whnf)
              exact Yields_own (l := L) (e := some 0) (q := 1) (nx := 0) elS hL rfl
  · exfalso
    have hg : decide (l.length ≤ 1000000000) = false := g1
    rw [decide_eq_false_iff_not] at hg
    omega
end Go.Aw
