/-
  Within: the program's. No condition.
-/
import Derived.Test.YtmkcjbpekejgdaaGreatSe141
import Derived.Test.YtmkcjbpekejgdaaGreatSe93
import Derived.Test.YtmkcjbpekejgdaaGreatSe112
set_option linter.unusedSimpArgs false
set_option linter.unusedVariables false
noncomputable section
namespace Go.Aw
set_option maxRecDepth 100000
def stQ (l : List (Int × Int)) (s : Sg) : Nat → List (Int × Int)
  | 0 => [s.1, s.2]
  | i + 1 => stQ l s i ++ (if insS (at2 l i) s = true then [at2 l i] else [])
theorem stQ_0 (l : List (Int × Int)) (s : Sg) : stQ l s 0 = [s.1, s.2] := rfl
theorem stQ_yes {l : List (Int × Int)} {s : Sg} {i : Nat} (h : insS (at2 l i) s = true) : stQ l s (i + 1) = stQ l s i ++ [at2 l i] := by
  conv => lhs; unfold stQ
  rw [if_pos h]
theorem stQ_no {l : List (Int × Int)} {s : Sg} {i : Nat} (h : insS (at2 l i) s = false) : stQ l s (i + 1) = stQ l s i := by
  conv => lhs; unfold stQ
  rw [if_neg (by rw [h]; decide), List.append_nil]
theorem stQ_len (l : List (Int × Int)) (s : Sg) : ∀ i, 2 ≤ (stQ l s i).length ∧ (stQ l s i).length ≤ 2 + i
  | 0 => ⟨Nat.le_refl _, Nat.le_refl _⟩
  | i + 1 => by
    have := stQ_len l s i
    cases h : insS (at2 l i) s with
    | true => rw [stQ_yes h, List.length_append, List.length_singleton]; omega
    | false => rw [stQ_no h]; omega
theorem stQ_mem {l : List (Int × Int)} {s : Sg} {x : Int × Int} : ∀ {i}, x ∈ stQ l s i ↔ x = s.1 ∨ x = s.2 ∨ ∃ k, k < i ∧ insS (at2 l k) s = true ∧ x = at2 l k
  | 0 => by
    rw [stQ_0]
    constructor
    · intro h
      rcases List.mem_cons.1 h with h | h
      · exact .inl h
      · exact .inr (.inl (List.mem_singleton.1 h))
    · rintro (h | h | ⟨k, h, -⟩)
      · rw [h]; exact .head _
      · rw [h]; exact .tail _ (.head _)
      · exact absurd h (Nat.not_lt_zero _)
  | i + 1 => by
    cases h : insS (at2 l i) s with
    | true =>
      rw [stQ_yes h, List.mem_append, stQ_mem (i := i), List.mem_singleton]
      constructor
      · rintro ((e | e | ⟨k, hk, e⟩) | e)
        · exact .inl e
        · exact .inr (.inl e)
        · exact .inr (.inr ⟨k, by omega, e⟩)
        · exact .inr (.inr ⟨i, by omega, h, e⟩)
      · rintro (e | e | ⟨k, hk, e1, e2⟩)
        · exact .inl (.inl e)
        · exact .inl (.inr (.inl e))
        · by_cases hki : k = i
          · subst hki; exact .inr e2
          · exact .inl (.inr (.inr ⟨k, by omega, e1, e2⟩))
    | false =>
      rw [stQ_no h, stQ_mem (i := i)]
      constructor
      · rintro (e | e | ⟨k, hk, e⟩)
        · exact .inl e
        · exact .inr (.inl e)
        · exact .inr (.inr ⟨k, by omega, e⟩)
      · rintro (e | e | ⟨k, hk, e1, e2⟩)
        · exact .inl e
        · exact .inr (.inl e)
        · by_cases hki : k = i
          · subst hki; rw [h] at e1; cases e1
          · exact .inr (.inr ⟨k, by omega, e1, e2⟩)
def addP (p q : Int × Int) : Int × Int := (p.1 + q.1, p.2 + q.2)
def stT (l : List (Int × Int)) (s : Sg) : List (Int × Int) := sortI (stQ l s l.length)
def WP (l : List (Int × Int)) (s : Sg) : Prop := rightG s = true ∧ polyE l = 0 ∧ (∀ i, i < l.length → meetS (edgeS l i) s ≠ 3) ∧ whI l s.1 ≠ 0 ∧ whI l s.2 ≠ 0 ∧ ∀ i, i + 1 < (stT l s).length → whI (dblL l) (addP (at2 (stT l s) i) (at2 (stT l s) (i + 1))) ≠ 0
open Classical in
def wP (l : List (Int × Int)) (s : Sg) : Bool := decide (WP l s)
open Classical in
theorem wP_no {l : List (Int × Int)} {s : Sg} (h : ¬ WP l s) : wP l s = false := by unfold wP; exact decide_eq_false h
open Classical in
theorem wP_yes {l : List (Int × Int)} {s : Sg} (h : WP l s) : wP l s = true := by unfold wP; exact decide_eq_true h
def SWp (l : List (Int × Int)) : List Value → Option (Bool × Value)
  | [v] => (decS v).map fun s => (decide (l.length ≤ 1000000000), .bool (wP l s))
  | _ => none
theorem SWp_inv {l : List (Int × Int)} {r : List Value} {v : Value} (hs : SWp l r = some (true, v)) : ∃ s : Sg, r = [sgv s] ∧ l.length ≤ 1000000000 ∧ v = .bool (wP l s) := by
  unfold SWp at hs
  split at hs
  · rename_i v
    obtain ⟨s, h1, h2⟩ := Option.map_eq_some_iff.1 hs
    injection h2 with h2 h3
    exact ⟨s, by rw [decS_eq h1], of_decide_eq_true h2, h3.symm⟩
  · cases hs
def eU0 (l : List (Int × Int)) (c n : Nat) (j : Int) : List (Nat × Value) := [(0, .slice (some ⟨0, 0, none⟩) l.length c), (3, .pointer (some ⟨1, 0, none⟩)), (5, .slice (some ⟨2, 0, none⟩) n n), (24, .slice (some ⟨0, 0, none⟩) l.length c), (25, iv l.length), (26, iv j)]
def hU0 (l : List (Int × Int)) (s : Sg) (L : List (Int × Int)) : Heap := [(0, .cells false true 2 (flat elP.fl l)), (1, .cells true false 1 [iv s.1.1, iv s.1.2, iv s.2.1, iv s.2.2]), (2, .cells true false 2 (flat elP.fl L))]
def eU1 (n m : Nat) (j : Int) : List (Nat × Value) := [(5, .slice (some ⟨2, 0, none⟩) n n), (8, .slice (some ⟨3, 0, none⟩) m m), (9, iv j)]
def hU1 (T D : List (Int × Int)) : Heap := [(2, .cells true false 2 (flat elP.fl T)), (3, .cells true false 2 (flat elP.fl D))]
theorem all_wide {l : List (Int × Int)} (h : l.all rightS = true) : l.all wide = true := List.all_eq_true.2 fun x hx => rightS_wide (List.all_eq_true.1 h x hx)
theorem dbl_wide {l : List (Int × Int)} (h : l.all rightS = true) : (dblL l).all wide = true := List.all_eq_true.2 fun x hx => by
  unfold dblL at hx
  obtain ⟨p, hp, rfl⟩ := List.mem_map.1 hx
  have := right_low (List.all_eq_true.1 h p hp)
  unfold wide dbP
  simp only [Bool.and_eq_true, decide_eq_true_eq]
  omega
theorem take_all2 (L : List (Int × Int)) : List.take (flat elP.fl L).length (List.drop 0 (flat elP.fl L)) = flat elP.fl L := by
  rw [List.drop_zero, List.take_length]
def Y87 : Nat × XF := (87, rfX elP elP S87)
def XWp : Nat × XF := (37, lX elP SWp)
set_option maxHeartbeats 8000000 in
attribute [local irreducible] edgeS meetS stQ at2 wP whI polyE rightG sortI dblL insS in
theorem xWp : XOK Go.Proofs.Tryz.prog XWp.1 XWp.2 := lX_ok elP (f := 37) (body_calls (xl := [X32, X64, X81, X68, XinS, (77, sX), Y87, XwW]) (.cons x32 (.cons x64 (.cons x81 (.cons x68 (.cons xinS (.cons d77 (.cons d87 (.cons xwW .nil))))))))) fun l r v hs => by
  obtain ⟨s, rfl, hlen, rfl⟩ := SWp_inv hs
  refine ⟨rfl, rfl, fun c => ?_⟩
  clear hs
  have hdl : decide (l.length ≤ 1000000000) = true := decide_eq_true hlen
  by_cases hP : polyE l = 0
  rotate_left
  · repeat' first
      | (exfalso; simp [cA_eqB, cA_notB, cA_eq, pEta, sEta, hP, hdl] at g; done)
      | (((conv => whnf); refine bm (fun g => ?_) (fun g => ?_)))
      | ((conv => whnf)
         refine Exists.intro l (And.intro (LsAt_own elP rfl) ?_))
    all_goals (conv => whnf)
    all_goals rw [wP_no (fun h => hP h.2.1)]
  by_cases hR : rightG s = true
  rotate_left
  · have hR' : rightG s = false := by simpa using hR
    repeat' first
      | (exfalso; simp [cA_eqB, cA_notB, cA_eq, pEta, sEta, hP, hR', hdl] at g; done)
      | (((conv => whnf); refine bm (fun g => ?_) (fun g => ?_)))
      | ((conv => whnf)
         refine Exists.intro l (And.intro (LsAt_own elP rfl) ?_))
    all_goals (conv => whnf)
    all_goals rw [wP_no (fun h => hR h.1)]
  obtain ⟨hra, hrb, hab⟩ := right_two hR
  have hws : wideS s = true := rightG_wide hR
  have ha := right_low hra
  have hb := right_low hrb
  have hgood := (polyE_ok hP).1
  have hgl := goodL_iff.2 hgood
  have h3' := hgood.1
  have h200' := hgood.2.1
  have hall := hgood.2.2.1
  repeat' first
    | (exfalso; simp [cA_eqB, cA_notB, cA_eq, pEta, sEta, hR, hP, hdl] at g; done)
    | (((conv => whnf); refine bm (fun g => ?_) (fun g => ?_)))
    | ((conv => whnf)
       refine Exists.intro l (And.intro (LsAt_own elP rfl) ?_))
  all_goals (conv => whnf)
  refine ⟨fun n e h nx => ∃ (i : Nat) (j : Int) (L : List (Int × Int)), j = i ∧ i ≤ l.length ∧ n = l.length - i ∧ L = stQ l s i ∧ (∀ k, k < i → meetS (edgeS l k) s ≠ 3) ∧ e = eU0 l c L.length j ∧ h = hU0 l s L ∧ nx = 3, ⟨l.length, ?_⟩, ?_⟩
  · refine Into_id (e0 := eU0 l c 2 0) (h0 := hU0 l s [s.1, s.2]) (n0 := 3) ⟨0, 0, [s.1, s.2], rfl, Nat.zero_le _, rfl, (stQ_0 l s).symm, fun k hk => absurd hk (Nat.not_lt_zero _), rfl, rfl, rfl⟩ ?_ ?_ (by decide)
    · unfold eU0
      ((repeat' (refine List.forall_mem_cons.2 ⟨⟨rfl, ?_⟩, ?_⟩; (first | exact scT_g rfl | exact ⟨by decide, rfl⟩ | exact ⟨by decide, fun h => (by cases h)⟩))); exact fun _ h => (by cases h))
    · unfold hU0
      ((repeat' (refine List.forall_mem_cons.2 ⟨⟨Nat.le_of_ble_eq_true rfl, _, rfl, ?_⟩, ?_⟩; (first | exact ObjRen_g (flat_g _ _) | exact ObjRen_j rfl rfl))); exact fun _ h => (by cases h))
  · rintro n e h nx ⟨i, j, L, hj, hi, rfl, hL, hno, rfl, rfl, rfl⟩
    have hLl := stQ_len l s i
    rw [← hL] at hLl
    unfold eU0 hU0
    ((conv => whnf); refine bm (fun g1 => ?_) (fun g1 => ?_))
    · have hlt : i < l.length := by simp only [cA_lt, cA_num, decide_eq_true_eq] at g1; omega
      have hji : j.toNat = i := by omega
      have re := edge_right hgood hlt
      have hwe : wideS (edgeS l i) = true := rightG_wide re
      have hwp := rightS_wide (all_at hall hlt)
      have hsy := @stQ_yes l s i
      have hsn := @stQ_no l s i
      rw [← hL] at hsy hsn
      have hds : (decide (0 ≤ j) && decide (j < (l.length : Int)) && decide (l.length ≤ 1000000000)) = true := by
        rw [decide_eq_true (by omega), decide_eq_true (by omega), decide_eq_true (by omega)]; rfl
      repeat' first
        | (exfalso; simp only [cA_mul, cA_add, cA_sub, cA_fits, cA_lt, cA_le, cA_andB, cA_num, fitsK, ble_t, ble_f, flat2, Bool.and_eq_false_iff, Bool.and_eq_true, decide_eq_true_eq, decide_eq_false_iff_not] at g; omega)
        | (exfalso
           have hg : (decide (0 ≤ j) && decide (j < (l.length : Int)) && decide (l.length ≤ 1000000000)) = false := g
           rw [hds] at hg
           exact absurd hg (by decide))
        | (exfalso
           have hg : (wideS (edgeS l j.toNat) && wideS s) = false := g
           rw [hji, hwe, hws] at hg
           exact absurd hg (by decide))
        | (exfalso
           have hg : (wide (at2 l i) && wideS s) = false := g
           rw [hwp, hws] at hg
           exact absurd hg (by decide))
        | (((conv => whnf); refine bm (fun g => ?_) (fun g => ?_)))
        | ((conv => whnf)
           refine boL (getP l hlt ?_) ?_
           · simp [cfgS, std]; omega)
        | ((conv => whnf)
           refine Exists.intro l (And.intro (LsAt_own elP rfl) ?_))
      all_goals (conv => whnf)
      all_goals first
        | (exfalso
           have hf : (flat elP.fl L).length = L.length * 2 := flat2 L
           simp only [cA_andB, hf] at g
           revert g
           simp
           omega)
        | (have hg : cfgS.A.eq (meetS (edgeS l j.toNat) s) 3 = true := by assumption
           rw [hji, cA_eq, decide_eq_true_eq] at hg
           rw [wP_no (fun h => h.2.2.1 i hlt hg)]
           done)
        | (have hg : meetS (edgeS l i) s ≠ 3 := by
             have hg : cfgS.A.eq (meetS (edgeS l j.toNat) s) 3 = false := by assumption
             rw [hji, cA_eq, decide_eq_false_iff_not] at hg
             exact hg
           have hno2 : ∀ k, k < i + 1 → meetS (edgeS l k) s ≠ 3 := fun k hk => by
             by_cases hki : k = i
             · subst hki; exact hg
             · exact hno k (by omega)
           first
             | (have hin : insS (at2 l i) s = true := by assumption
                have hs1 := hsy hin
                refine ⟨l.length - (i + 1), by omega, ?_⟩
                refine Into_mv (e0 := eU0 l c (L.length + 1) (j + 1)) (h0 := hU0 l s (L ++ [at2 l i])) (n0 := 3) 2 5 (by decide) (by decide) ⟨i + 1, j + 1, L ++ [at2 l i], by omega, by omega, rfl, hs1.symm, hno2, by rw [List.length_append]; rfl, rfl, rfl⟩ ?_ ?_ ?_
                · unfold eU0
                  ((repeat' (refine List.forall_mem_cons.2 ⟨⟨rfl, ?_⟩, ?_⟩; (first | exact scT_g rfl | exact ⟨by decide, rfl⟩ | exact ⟨by decide, fun h => (by cases h)⟩))); exact fun _ h => (by cases h))
                · unfold hU0
                  ((repeat' (refine List.forall_mem_cons.2 ⟨⟨Nat.le_of_ble_eq_true rfl, _, rfl, ?_⟩, ?_⟩; (first | exact (ObjRen_j (flat_g elP _) (flat_grow L _)) | exact ObjRen_g (flat_g _ _) | exact ObjRen_j rfl rfl))); exact fun _ h => (by cases h))
                · unfold hU0
                  ((repeat' (refine List.forall_mem_cons.2 ⟨?_, ?_⟩; (intro _ h; revert h; simp))); exact fun _ h => (by cases h)))
             | (have hin : insS (at2 l i) s = false := by assumption
                have hs1 := hsn hin
                refine ⟨l.length - (i + 1), by omega, ?_⟩
                refine Into_id (e0 := eU0 l c L.length (j + 1)) (h0 := hU0 l s L) (n0 := 3) ⟨i + 1, j + 1, L, by omega, by omega, rfl, hs1.symm, hno2, rfl, rfl, rfl⟩ ?_ ?_ (by decide)
                · unfold eU0
                  ((repeat' (refine List.forall_mem_cons.2 ⟨⟨rfl, ?_⟩, ?_⟩; (first | exact scT_g rfl | exact ⟨by decide, rfl⟩ | exact ⟨by decide, fun h => (by cases h)⟩))); exact fun _ h => (by cases h))
                · unfold hU0
                  ((repeat' (refine List.forall_mem_cons.2 ⟨⟨Nat.le_of_ble_eq_true rfl, _, rfl, ?_⟩, ?_⟩; (first | exact ObjRen_g (flat_g _ _) | exact ObjRen_j rfl rfl))); exact fun _ h => (by cases h))))
        | trace_state
    · have hge : i = l.length := by simp only [cA_lt, cA_num, decide_eq_false_iff_not] at g1; omega
      subst hge
      have hT : stT l s = sortI L := by unfold stT; rw [hL]
      have hLr : ∀ x ∈ L, rightS x = true := fun x hm => by
        rw [hL] at hm
        rcases stQ_mem.1 hm with e | e | ⟨i, hi, -, e⟩
        · rw [e]; exact hra
        · rw [e]; exact hrb
        · rw [e]; exact all_at hall hi
      have hTB : ∀ k, k < (sortI L).length → rightS (at2 (sortI L) k) = true := fun k hk => hLr _ ((sortI_perm L).mem_iff.1 (at_memP hk))
      have hTl : (sortI L).length = L.length := sortI_len L
      have hWn : ∀ i, i + 1 < (sortI L).length → whI (dblL l) (addP (at2 (sortI L) i) (at2 (sortI L) (i + 1))) = 0 → wP l s = false := fun i hi h => wP_no fun hw => by
        have h2 := hw.2.2.2.2.2 i (by rw [hT]; exact hi)
        rw [hT] at h2
        exact h2 h
      have hWy : whI l s.1 ≠ 0 → whI l s.2 ≠ 0 → (∀ i, i + 1 < (sortI L).length → whI (dblL l) (addP (at2 (sortI L) i) (at2 (sortI L) (i + 1))) ≠ 0) → wP l s = true := fun h1 h2 h => wP_yes ⟨hR, hP, hno, h1, h2, fun i hi => by
        rw [hT] at hi ⊢
        exact h i hi⟩
      have hDl := dbl_len l
      have hDw := dbl_wide hall
      have hlw := all_wide hall
      have hw1 := rightS_wide hra
      have hw2 := rightS_wide hrb
      (conv => whnf)
      refine ⟨L, rfl, rfl, by omega, by omega, ?_⟩
      rw [← hTl]
      generalize sortI L = T at hTB hTl hWn hWy ⊢
      (conv => whnf)
      refine Exists.intro l (And.intro (LsAt_own elP rfl) ?_)
      ((conv => whnf); refine bm (fun g2 => ?_) (fun g2 => ?_))
      rotate_left
      · exfalso
        have hg : (decide (l.length ≤ 1000) && l.all wide) = false := g2
        rw [hlw, decide_eq_true (by omega)] at hg
        exact absurd hg (by decide)
      show outK elP (dblL l) none _ _ _
      generalize hD : dblL l = D at hDl hDw hWn hWy ⊢
      refine outK_own elP (by omega) ?_
      clear g1 g2
      have hc1 : ∀ p, wide p = true → (decide (1 ≤ l.length) && decide (l.length ≤ 200) && l.all wide && wide p) = true := fun p hp => by
        rw [hlw, hp, decide_eq_true (by omega), decide_eq_true (by omega)]; rfl
      have hc2 : ∀ p, wide p = true → (decide (1 ≤ D.length) && decide (D.length ≤ 200) && D.all wide && wide p) = true := fun p hp => by
        rw [hDw, hp, decide_eq_true (by omega), decide_eq_true (by omega)]; rfl
      by_cases hA : whI l s.1 = 0
      · repeat' first
          | (exfalso; simp [cA_eqB, cA_notB, cA_eq, pEta, sEta, hA] at g; done)
          | (exfalso
             have hg : (decide (1 ≤ l.length) && decide (l.length ≤ 200) && l.all wide && wide s.1) = false := g
             rw [hc1 _ hw1] at hg
             exact absurd hg (by decide))
          | (((conv => whnf); refine bm (fun g => ?_) (fun g => ?_)))
          | ((conv => whnf)
             refine Exists.intro l (And.intro (LsAt_own elP rfl) ?_))
        all_goals (conv => whnf)
        all_goals rw [wP_no (fun h => h.2.2.2.1 hA)]
      by_cases hB : whI l s.2 = 0
      · repeat' first
          | (exfalso; simp [cA_eqB, cA_notB, cA_eq, pEta, sEta, hA, hB] at g; done)
          | (exfalso
             have hg : (decide (1 ≤ l.length) && decide (l.length ≤ 200) && l.all wide && wide s.1) = false := g
             rw [hc1 _ hw1] at hg
             exact absurd hg (by decide))
          | (exfalso
             have hg : (decide (1 ≤ l.length) && decide (l.length ≤ 200) && l.all wide && wide s.2) = false := g
             rw [hc1 _ hw2] at hg
             exact absurd hg (by decide))
          | (((conv => whnf); refine bm (fun g => ?_) (fun g => ?_)))
          | ((conv => whnf)
             refine Exists.intro l (And.intro (LsAt_own elP rfl) ?_))
        all_goals (conv => whnf)
        all_goals rw [wP_no (fun h => h.2.2.2.2.1 hB)]
      have hWy := hWy hA hB
      repeat' first
          | (exfalso; simp [cA_eqB, cA_notB, cA_eq, pEta, sEta, hA, hB] at g; done)
          | (exfalso
             have hg : (decide (1 ≤ l.length) && decide (l.length ≤ 200) && l.all wide && wide s.1) = false := g
             rw [hc1 _ hw1] at hg
             exact absurd hg (by decide))
          | (exfalso
             have hg : (decide (1 ≤ l.length) && decide (l.length ≤ 200) && l.all wide && wide s.2) = false := g
             rw [hc1 _ hw2] at hg
             exact absurd hg (by decide))
          | (((conv => whnf); refine bm (fun g => ?_) (fun g => ?_)))
          | ((conv => whnf)
             refine Exists.intro l (And.intro (LsAt_own elP rfl) ?_))
      all_goals (conv => whnf)
      refine ⟨fun n e h nx => ∃ (i : Nat) (j : Int), j = (i : Int) + 1 ∧ i + 1 ≤ T.length ∧ n = T.length - (i + 1) ∧ (∀ k, k < i → whI D (addP (at2 T k) (at2 T (k + 1))) ≠ 0) ∧ e = eU1 T.length D.length j ∧ h = hU1 T D ∧ nx = 4, ⟨T.length - 1, ?_⟩, ?_⟩
      · refine Into_id (e0 := eU1 T.length D.length 1) (h0 := hU1 T D) (n0 := 4) ⟨0, 1, rfl, by omega, rfl, fun k hk => absurd hk (Nat.not_lt_zero _), rfl, rfl, rfl⟩ ?_ ?_ (by decide)
        · unfold eU1
          ((repeat' (refine List.forall_mem_cons.2 ⟨⟨rfl, ?_⟩, ?_⟩; (first | exact scT_g rfl | exact ⟨by decide, rfl⟩ | exact ⟨by decide, fun h => (by cases h)⟩))); exact fun _ h => (by cases h))
        · unfold hU1
          ((repeat' (refine List.forall_mem_cons.2 ⟨⟨Nat.le_of_ble_eq_true rfl, _, rfl, ?_⟩, ?_⟩; (first | exact ObjRen_g (flat_g _ _) | exact ObjRen_j rfl rfl))); exact fun _ h => (by cases h))
      · rintro n e h nx ⟨i, j, hj, hi, rfl, hok, rfl, rfl, rfl⟩
        unfold eU1 hU1
        ((conv => whnf); refine bm (fun g1 => ?_) (fun g1 => ?_))
        · have hlt1 : i + 1 < T.length := by simp only [cA_lt, cA_num, decide_eq_true_eq] at g1; omega
          have hlt0 : i < T.length := by omega
          have b0 := right_low (hTB i hlt0)
          have b1 := right_low (hTB (i + 1) hlt1)
          have hwm : wide (addP (at2 T i) (at2 T (i + 1))) = true := by
            unfold wide addP
            simp only [Bool.and_eq_true, decide_eq_true_eq]
            omega
          repeat' first
            | (exfalso; simp only [cA_mul, cA_add, cA_sub, cA_fits, cA_lt, cA_le, cA_andB, cA_num, fitsK, ble_t, ble_f, flat2, Bool.and_eq_false_iff, Bool.and_eq_true, decide_eq_true_eq, decide_eq_false_iff_not] at g; omega)
            | (exfalso
               have hg : (decide (1 ≤ D.length) && decide (D.length ≤ 200) && D.all wide && wide (addP (at2 T i) (at2 T (i + 1)))) = false := g
               rw [hc2 _ hwm] at hg
               exact absurd hg (by decide))
            | (((conv => whnf); refine bm (fun g => ?_) (fun g => ?_)))
            | ((conv => whnf)
               refine boV (pt_x' T hlt0 ?_) ?_
               · simp only [cA_ix, cA_sub]; omega)
            | ((conv => whnf)
               refine boV (pt_y' T hlt0 ?_) ?_
               · simp only [cA_ix, cA_sub]; omega)
            | ((conv => whnf)
               refine boV (pt_x' T hlt1 ?_) ?_
               · simp only [cA_ix, cA_sub]; omega)
            | ((conv => whnf)
               refine boV (pt_y' T hlt1 ?_) ?_
               · simp only [cA_ix, cA_sub]; omega)
            | ((conv => whnf)
               show ∃ x : List (Int × Int), _
               refine Exists.intro D (And.intro ⟨rfl, _, _, _, _, rfl, take_all2 D⟩ ?_))
          all_goals (conv => whnf)
          all_goals first
            | (have hg : whI D (addP (at2 T i) (at2 T (i + 1))) = 0 := by
                 have hg : cfgS.A.eq (whI D (addP (at2 T i) (at2 T (i + 1)))) 0 = true := by assumption
                 rw [cA_eq, decide_eq_true_eq] at hg
                 exact hg
               rw [hWn i hlt1 hg]
               done)
            | (have hg : whI D (addP (at2 T i) (at2 T (i + 1))) ≠ 0 := by
                 have hg : cfgS.A.eq (whI D (addP (at2 T i) (at2 T (i + 1)))) 0 = false := by assumption
                 rw [cA_eq, decide_eq_false_iff_not] at hg
                 exact hg
               refine ⟨T.length - (i + 1 + 1), by omega, ?_⟩
               refine Into_id (e0 := eU1 T.length D.length (j + 1)) (h0 := hU1 T D) (n0 := 4) ⟨i + 1, j + 1, by omega, by omega, rfl, fun k hk => ?_, rfl, rfl, rfl⟩ ?_ ?_ (by decide)
               · by_cases hki : k = i
                 · subst hki; exact hg
                 · exact hok k (by omega)
               · unfold eU1
                 ((repeat' (refine List.forall_mem_cons.2 ⟨⟨rfl, ?_⟩, ?_⟩; (first | exact scT_g rfl | exact ⟨by decide, rfl⟩ | exact ⟨by decide, fun h => (by cases h)⟩))); exact fun _ h => (by cases h))
               · unfold hU1
                 ((repeat' (refine List.forall_mem_cons.2 ⟨⟨Nat.le_of_ble_eq_true rfl, _, rfl, ?_⟩, ?_⟩; (first | exact ObjRen_g (flat_g _ _) | exact ObjRen_j rfl rfl))); exact fun _ h => (by cases h)))
            | trace_state
        · have hge : i + 1 = T.length := by simp only [cA_lt, cA_num, decide_eq_false_iff_not] at g1; omega
          (conv => whnf)
          rw [hWy fun k hk => hok k (by omega)]
end Go.Aw
