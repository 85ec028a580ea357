/-
  Hull: the reference's. No condition.
-/
import Derived.Test.YtmkcjbpekejgdaaGreatSeL
set_option linter.unusedSimpArgs false
set_option linter.unusedVariables false
noncomputable section
namespace Go.Aw
set_option maxRecDepth 100000
def Xfar : Nat × XF := (83, gX (s2 cP cP fun a b => (wide a && wide b, iv (farI a b))))
theorem xfar : XOK Go.Proofs.Tryz.prog Xfar.1 Xfar.2 := x2 cP cP (xl := []) .nil (fun _ _ => rfl) fun a b hp => by
  obtain ⟨ax, ay⟩ := a
  obtain ⟨bx, b_y⟩ := b
  simp only [wide, Bool.and_eq_true, decide_eq_true_eq] at hp
  have m1 := mulB (a := bx - ax) (b := bx - ax) (A := 2000000) (B := 2000000) (by omega) (by omega) (by omega) (by omega)
  have m2 := mulB (a := b_y - ay) (b := b_y - ay) (A := 2000000) (B := 2000000) (by omega) (by omega) (by omega) (by omega)
  unfold Does1
  repeat' ((conv => whnf); refine bm (fun g => ?_) (fun g => ?_))
  all_goals (conv => whnf)
  all_goals (simp [cfgS, std, fitsK] at *)
  all_goals first | omega | simp [farI, iv]
def S34 (l : List (Int × Int)) : List Value → Option (Bool × List (Int × Int) × Option Int)
  | [] => some (decide (l.length ≤ 1000000000), hulO l, some (hulE l))
  | _ => none
theorem S34_inv {l out : List (Int × Int)} {r : List Value} {e : Option Int} (hs : S34 l r = some (true, out, e)) : r = [] ∧ l.length ≤ 1000000000 ∧ out = hulO l ∧ e = some (hulE l) := by
  unfold S34 at hs
  split at hs
  · injection hs with hs; injection hs with h1 h2; injection h2 with h2 h3
    exact ⟨rfl, by simpa using h1, h2.symm, h3.symm⟩
  · cases hs
def e34a (n c : Nat) (j : Int) : List (Nat × Value) := [(0, .slice (some ⟨0, 0, none⟩) n c), (5, .pointer (some ⟨1, 0, none⟩)), (6, iv j)]
def h34a (l : List (Int × Int)) (p : Int × Int) : Heap := [(0, .cells false true 2 (flat elP.fl l)), (1, .cells true false 1 [iv p.1, iv p.2])]
def e34b (n c m : Nat) : List (Nat × Value) := [(0, .slice (some ⟨0, 0, none⟩) n c), (5, .pointer (some ⟨1, 0, none⟩)), (8, .slice (some ⟨2, 0, none⟩) m m)]
def h34b (l : List (Int × Int)) (p : Int × Int) (R : List (Int × Int)) : Heap := [(0, .cells false true 2 (flat elP.fl l)), (1, .cells true false 1 [iv p.1, iv p.2]), (2, .cells true false 2 (flat elP.fl R))]
def e34c (n c m : Nat) (j : Int) : List (Nat × Value) := [(0, .slice (some ⟨0, 0, none⟩) n c), (5, .pointer (some ⟨1, 0, none⟩)), (8, .slice (some ⟨2, 0, none⟩) m m), (9, .pointer (some ⟨3, 0, none⟩)), (10, .pointer (some ⟨4, 0, none⟩)), (11, iv j)]
def h34c (l : List (Int × Int)) (p : Int × Int) (R : List (Int × Int)) (a q : Int × Int) : Heap := [(0, .cells false true 2 (flat elP.fl l)), (1, .cells true false 1 [iv p.1, iv p.2]), (2, .cells true false 2 (flat elP.fl R)), (3, .cells true false 1 [iv a.1, iv a.2]), (4, .cells true false 1 [iv q.1, iv q.2])]
theorem lst_right {l : List (Int × Int)} (h : l.all rightS = true) (h0 : 0 < l.length) : ∀ i, i ≤ l.length → rightS (lstI l i) = true
  | 0, _ => all_at h h0
  | i + 1, hi => by
    unfold lstI
    split
    · exact all_at h (by omega)
    · exact lst_right h h0 i (by omega)
theorem srch_right {l : List (Int × Int)} {p : Int × Int} (h : l.all rightS = true) (hp : rightS p = true) {i : Nat} (hi : i ≤ l.length) : rightS (srchI l p i) = true := by
  rcases scan_mem l p i hi with e | e
  · rw [e]; exact hp
  · exact List.all_eq_true.1 h _ e
theorem stepQ_eq {P q r : Int × Int} (h : eqP q P = true) : stepQ P q r = r := by
  unfold stepQ
  rw [if_pos ((eqP_iff q P).1 h)]
theorem eqP_ne {P q : Int × Int} (h : eqP q P = false) : ¬ q = P := fun e => by
  rw [(eqP_iff q P).2 e] at h
  cases h
theorem stepQ_lt {P q r : Int × Int} (h : eqP q P = false) (t : (decide (turnS P q r < 0) == false) = false) : stepQ P q r = r := by
  unfold stepQ goQ
  rw [if_neg (eqP_ne h), if_pos]
  simp at t
  simp [t]
theorem stepQ_far {P q r : Int × Int} (h : eqP q P = false) (t : (decide (turnS P q r = 0) == true) = true) (f : decide (farI P q < farI P r) = true) : stepQ P q r = r := by
  unfold stepQ goQ
  rw [if_neg (eqP_ne h), if_pos]
  simp at t f
  simp [t, f]
theorem stepQ_near {P q r : Int × Int} (h : eqP q P = false) (t1 : (decide (turnS P q r < 0) == false) = true) (f : decide (farI P q < farI P r) = false) : stepQ P q r = q := by
  unfold stepQ goQ
  rw [if_neg (eqP_ne h), if_neg]
  simp at t1 f
  simp only [Bool.or_eq_true, Bool.and_eq_true, decide_eq_true_eq]
  omega
theorem stepQ_left {P q r : Int × Int} (h : eqP q P = false) (t1 : (decide (turnS P q r < 0) == false) = true) (t : (decide (turnS P q r = 0) == true) = false) : stepQ P q r = q := by
  unfold stepQ goQ
  rw [if_neg (eqP_ne h), if_neg]
  simp at t1 t
  simp only [Bool.or_eq_true, Bool.and_eq_true, decide_eq_true_eq]
  omega
attribute [local irreducible] hulL hulO sortI ddI halfS lstI srchI in
theorem d34 : XOK Go.Proofs.Tryz.prog 34 (rfX elP elP S34) := rfX_ok elP elP (s := S34) (f := 34) (body_calls (xl := [X80, X95, X57, Xfar]) (.cons x80 (.cons x95 (.cons x57 (.cons xfar .nil))))) fun l r out e hs => by
  obtain ⟨rfl, hlen, rfl, rfl⟩ := S34_inv hs
  refine ⟨rfl, fun c => ?_⟩
  clear hs
  ((conv => whnf); refine bm (fun g1 => ?_) (fun g1 => ?_))
  · have hl4 : 400 < l.length := by simp only [cA_lt, cA_num, decide_eq_true_eq] at g1; omega
    have hE : hulE l = 2 := by unfold hulE; rw [if_pos hl4]
    rw [show hulO l = [] by unfold hulO; rw [hE, if_neg (by decide)], hE]
    (conv => whnf)
    rfl
  · have hl4 : l.length ≤ 400 := by simp only [cA_lt, cA_num, decide_eq_false_iff_not] at g1; omega
    (conv => whnf)
    refine ⟨l, LsAt_own elP rfl, ?_⟩
    ((conv => whnf); refine bm (fun g2 => ?_) (fun g2 => ?_))
    · ((conv => whnf); refine bm (fun g3 => ?_) (fun g3 => ?_))
      · have hr : ¬ l.all rightS = true := by
          intro h
          have hg : (!(l.all rightS)) = true := g3
          rw [h] at hg
          cases hg
        have hE : hulE l = 1 := by unfold hulE; rw [if_neg (by omega), if_neg hr]
        rw [show hulO l = [] by unfold hulO; rw [hE, if_neg (by decide)], hE]
        (conv => whnf)
        rfl
      · have hr : l.all rightS = true := by
          have hg : (!(l.all rightS)) = false := g3
          simpa using hg
        have hE : hulE l = 0 := by unfold hulE; rw [if_neg (by omega), if_pos hr]
        rw [show hulO l = hulL l by unfold hulO; rw [hE, if_pos rfl], hE]
        ((conv => whnf); refine bm (fun g4 => ?_) (fun g4 => ?_))
        · have h0 : l.length = 0 := by simp only [cA_eq, cA_num, decide_eq_true_eq] at g4; omega
          have hn : hulL l = [] := by
            have : l = [] := List.length_eq_zero_iff.1 h0
            subst this
            have h1 : (dedI []).length ≤ (sortI []).length := ddI_len (sortI []) (sortI []).length
            rw [sortI_len] at h1
            unfold hulL
            rw [if_pos (by simp only [List.length_nil] at h1; omega)]
            exact List.length_eq_zero_iff.1 (by simp only [List.length_nil] at h1; omega)
          rw [hn]
          (conv => whnf)
          rfl
        · have hpos : 0 < l.length := by simp only [cA_eq, cA_num, decide_eq_false_iff_not] at g4; omega
          obtain ⟨⟨H0, H2, Hn, Hf, Hs, _, _⟩, He⟩ := hull_corners hr hpos
          generalize hulL l = H at *
          repeat' first
            | (exfalso
               simp only [cA_lt, cA_le, cA_andB, cA_num, Bool.and_eq_false_iff, decide_eq_false_iff_not] at g
               omega)
            | (((conv => whnf); refine bm (fun g => ?_) (fun g => ?_)))
            | ((conv => whnf)
               refine boL (getP l hpos ?_) ?_
               · simp [cfgS, std])
          all_goals (conv => whnf)
          refine ⟨fun n e h nx => ∃ (i : Nat) (j : Int), j = i ∧ i ≤ l.length ∧ n = l.length - i ∧ e = e34a l.length c j ∧ h = h34a l (lstI l i) ∧ nx = 2, ⟨l.length, ?_⟩, ?_⟩
          · refine Into_id (e0 := e34a l.length c 0) (h0 := h34a l (lstI l 0)) (n0 := 2) ⟨0, 0, rfl, Nat.zero_le _, rfl, rfl, rfl, rfl⟩ ?_ ?_ (by decide)
            · unfold e34a
              ((repeat' (refine List.forall_mem_cons.2 ⟨⟨rfl, ?_⟩, ?_⟩; (first | exact scT_g rfl | exact ⟨by decide, rfl⟩ | exact ⟨by decide, fun h => (by cases h)⟩))); exact fun _ h => (by cases h))
            · unfold h34a lstI
              ((repeat' (refine List.forall_mem_cons.2 ⟨⟨Nat.le_of_ble_eq_true rfl, _, rfl, ?_⟩, ?_⟩; (first | exact ObjRen_g (flat_g _ _) | exact ObjRen_j rfl rfl))); exact fun _ h => (by cases h))
          · rintro n e h nx ⟨i, j, hj, hi, rfl, rfl, rfl, rfl⟩
            unfold e34a h34a
            ((conv => whnf); refine bm (fun g5 => ?_) (fun g5 => ?_))
            · have hlt : i < l.length := by simp only [cA_lt, cA_num, decide_eq_true_eq] at g5; omega
              have hstep : lstI l (i + 1) = if lessB (at2 l i) (lstI l i) = true then at2 l i else lstI l i := by conv => lhs; unfold lstI
              generalize lstI l i = b at hstep ⊢
              repeat' first
                | (exfalso
                   simp only [cA_add, cA_fits, cA_lt, cA_le, cA_andB, cA_num, fitsK, Bool.and_eq_false_iff, decide_eq_true_eq, decide_eq_false_iff_not] at g
                   omega)
                | (((conv => whnf); refine bm (fun g => ?_) (fun g => ?_)))
                | ((conv => whnf)
                   refine boL (getP l hlt ?_) ?_
                   · simp [cfgS, std]; omega)
              all_goals (conv => whnf)
              · have hb : lessB (at2 l i) b = true := ‹lessB ((at2 l i).fst, (at2 l i).snd) (b.fst, b.snd) = true›
                refine ⟨l.length - (i + 1), by omega, ?_⟩
                refine Into_id (e0 := e34a l.length c (j + 1)) (h0 := h34a l (lstI l (i + 1))) (n0 := 2) ⟨i + 1, j + 1, by omega, by omega, rfl, rfl, rfl, rfl⟩ ?_ ?_ (by decide)
                · unfold e34a
                  ((repeat' (refine List.forall_mem_cons.2 ⟨⟨rfl, ?_⟩, ?_⟩; (first | exact scT_g rfl | exact ⟨by decide, rfl⟩ | exact ⟨by decide, fun h => (by cases h)⟩))); exact fun _ h => (by cases h))
                · rw [hstep, if_pos hb]
                  unfold h34a
                  ((repeat' (refine List.forall_mem_cons.2 ⟨⟨Nat.le_of_ble_eq_true rfl, _, rfl, ?_⟩, ?_⟩; (first | exact ObjRen_g (flat_g _ _) | exact ObjRen_j rfl rfl))); exact fun _ h => (by cases h))
              · have hb : lessB (at2 l i) b = false := ‹lessB ((at2 l i).fst, (at2 l i).snd) (b.fst, b.snd) = false›
                refine ⟨l.length - (i + 1), by omega, ?_⟩
                refine Into_id (e0 := e34a l.length c (j + 1)) (h0 := h34a l (lstI l (i + 1))) (n0 := 2) ⟨i + 1, j + 1, by omega, by omega, rfl, rfl, rfl, rfl⟩ ?_ ?_ (by decide)
                · unfold e34a
                  ((repeat' (refine List.forall_mem_cons.2 ⟨⟨rfl, ?_⟩, ?_⟩; (first | exact scT_g rfl | exact ⟨by decide, rfl⟩ | exact ⟨by decide, fun h => (by cases h)⟩))); exact fun _ h => (by cases h))
                · rw [hstep, if_neg (by rw [hb]; decide)]
                  unfold h34a
                  ((repeat' (refine List.forall_mem_cons.2 ⟨⟨Nat.le_of_ble_eq_true rfl, _, rfl, ?_⟩, ?_⟩; (first | exact ObjRen_g (flat_g _ _) | exact ObjRen_j rfl rfl))); exact fun _ h => (by cases h))
            · have hge : i = l.length := by simp only [cA_lt, cA_num, decide_eq_false_iff_not] at g5; omega
              subst hge
              have r0 : rightS (at2 H 0) = true := by rw [He]; exact lst_right hr hpos _ (Nat.le_refl _)
              have hrk : ∀ k, k < H.length → rightS (at2 H k) = true := by
                intro k
                induction k with
                | zero => intro _; exact r0
                | succ k ih =>
                  intro hk
                  have h1 := Hn k (by omega)
                  rw [Nat.mod_eq_of_lt hk] at h1
                  rw [← h1]
                  exact srch_right hr (ih (by omega)) (Nat.le_refl _)
              rw [← He]
              clear hj hi g5
              (conv => whnf)
              refine ⟨fun n e h nx => ∃ k R, R = H.take k ∧ R.length = k ∧ 1 ≤ k ∧ k ≤ H.length ∧ n = H.length - k ∧ e = e34b l.length c R.length ∧ h = h34b l (at2 H 0) R ∧ nx = 3, ⟨H.length - 1, ?_⟩, ?_⟩
              · refine Into_id (e0 := e34b l.length c 1) (h0 := h34b l (at2 H 0) [at2 H 0]) (n0 := 3) ⟨1, [at2 H 0], by rw [take_snoc H0]; rfl, rfl, Nat.le_refl _, H0, rfl, rfl, rfl, rfl⟩ ?_ ?_ (by decide)
                · unfold e34b
                  ((repeat' (refine List.forall_mem_cons.2 ⟨⟨rfl, ?_⟩, ?_⟩; (first | exact scT_g rfl | exact ⟨by decide, rfl⟩ | exact ⟨by decide, fun h => (by cases h)⟩))); exact fun _ h => (by cases h))
                · unfold h34b
                  ((repeat' (refine List.forall_mem_cons.2 ⟨⟨Nat.le_of_ble_eq_true rfl, _, rfl, ?_⟩, ?_⟩; (first | exact ObjRen_g (flat_g _ _) | exact ObjRen_j rfl rfl))); exact fun _ h => (by cases h))
              · rintro n e h nx ⟨k, R, hR, hRl, hk1, hk2, rfl, rfl, rfl, rfl⟩
                have hRp : R.length - 1 < R.length := by omega
                have hP : at2 R (R.length - 1) = at2 H (k - 1) := by
                  rw [at2_eq hRp]
                  have e1 : R[R.length - 1] = (H.take k)[k - 1]'(by rw [List.length_take]; omega) := by
                    subst hR
                    congr 1
                    omega
                  rw [e1, List.getElem_take, at2_eq (by omega)]
                have hPr : rightS (at2 R (R.length - 1)) = true := by rw [hP]; exact hrk _ (by omega)
                have hPn : srchI l (at2 R (R.length - 1)) l.length = at2 H (k % H.length) := by rw [hP, Hn _ (by omega), show k - 1 + 1 = k by omega]
                unfold e34b h34b
                repeat' first
                  | (exfalso
                     simp only [cA_add, cA_sub, cA_fits, cA_lt, cA_le, cA_andB, cA_num, fitsK, Bool.and_eq_false_iff, decide_eq_true_eq, decide_eq_false_iff_not] at g
                     omega)
                  | (((conv => whnf); refine bm (fun g => ?_) (fun g => ?_)))
                  | ((conv => whnf)
                     refine boL (getP R hRp ?_) ?_
                     · simp [cfgS, std])
                all_goals (conv => whnf)
                generalize at2 R (R.length - 1) = P at hP hPr hPn ⊢
                refine ⟨fun n e h nx => ∃ (i : Nat) (j : Int), j = i ∧ i ≤ l.length ∧ n = l.length - i ∧ e = e34c l.length c R.length j ∧ h = h34c l (at2 H 0) R P (srchI l P i) ∧ nx = 5, ⟨l.length, ?_⟩, ?_⟩
                · refine Into_id (e0 := e34c l.length c R.length 0) (h0 := h34c l (at2 H 0) R P P) (n0 := 5) ⟨0, 0, rfl, Nat.zero_le _, rfl, rfl, by unfold srchI; rfl, rfl⟩ ?_ ?_ (by decide)
                  · unfold e34c
                    ((repeat' (refine List.forall_mem_cons.2 ⟨⟨rfl, ?_⟩, ?_⟩; (first | exact scT_g rfl | exact ⟨by decide, rfl⟩ | exact ⟨by decide, fun h => (by cases h)⟩))); exact fun _ h => (by cases h))
                  · unfold h34c
                    ((repeat' (refine List.forall_mem_cons.2 ⟨⟨Nat.le_of_ble_eq_true rfl, _, rfl, ?_⟩, ?_⟩; (first | exact ObjRen_g (flat_g _ _) | exact ObjRen_j rfl rfl))); exact fun _ h => (by cases h))
                · rintro n e h nx ⟨i, j, hj, hi, rfl, rfl, rfl, rfl⟩
                  unfold e34c h34c
                  ((conv => whnf); refine bm (fun g6 => ?_) (fun g6 => ?_))
                  · have hlt : i < l.length := by simp only [cA_lt, cA_num, decide_eq_true_eq] at g6; omega
                    have hstep : srchI l P (i + 1) = stepQ P (srchI l P i) (at2 l i) := by conv => lhs; unfold srchI
                    have wP := rightS_wide hPr
                    have wq := rightS_wide (srch_right hr hPr hi)
                    have wi := rightS_wide (all_at hr hlt)
                    generalize srchI l P i = q at hstep wq ⊢
                    repeat' first
                      | (exfalso
                         simp only [cA_add, cA_fits, cA_lt, cA_le, cA_andB, cA_num, fitsK, Bool.and_eq_false_iff, decide_eq_true_eq, decide_eq_false_iff_not] at g
                         omega)
                      | (((conv => whnf); refine bm (fun g => ?_) (fun g => ?_)))
                      | ((conv => whnf)
                         refine boL (getP l hlt ?_) ?_
                         · simp [cfgS, std]; omega)
                    all_goals (conv => whnf)
                    all_goals first
                      | (exfalso
                         have hg : (wide P && wide q && wide (at2 l i)) = false := g
                         rw [wP, wq, wi] at hg
                         cases hg)
                      | (exfalso
                         have hg : (wide P && wide q) = false := g
                         rw [wP, wq] at hg
                         cases hg)
                      | (exfalso
                         have hg : (wide P && wide (at2 l i)) = false := g
                         rw [wP, wi] at hg
                         cases hg)
                      | (have hq : stepQ P q (at2 l i) = at2 l i := by
                           first
                             | exact stepQ_eq (by assumption)
                             | exact stepQ_lt (by assumption) (by assumption)
                             | exact stepQ_far (by assumption) (by assumption) (by assumption)
                         refine ⟨l.length - (i + 1), by omega, ?_⟩
                         refine Into_id (e0 := e34c l.length c R.length (j + 1)) (h0 := h34c l (at2 H 0) R P (srchI l P (i + 1))) (n0 := 5) ⟨i + 1, j + 1, by omega, by omega, rfl, rfl, rfl, rfl⟩ ?_ ?_ (by decide)
                         · unfold e34c
                           ((repeat' (refine List.forall_mem_cons.2 ⟨⟨rfl, ?_⟩, ?_⟩; (first | exact scT_g rfl | exact ⟨by decide, rfl⟩ | exact ⟨by decide, fun h => (by cases h)⟩))); exact fun _ h => (by cases h))
                         · rw [hstep, hq]
                           unfold h34c
                           ((repeat' (refine List.forall_mem_cons.2 ⟨⟨Nat.le_of_ble_eq_true rfl, _, rfl, ?_⟩, ?_⟩; (first | exact ObjRen_g (flat_g _ _) | exact ObjRen_j rfl rfl))); exact fun _ h => (by cases h)))
                      | (have hq : stepQ P q (at2 l i) = q := by
                           first
                             | exact stepQ_near (by assumption) (by assumption) (by assumption)
                             | exact stepQ_left (by assumption) (by assumption) (by assumption)
                         refine ⟨l.length - (i + 1), by omega, ?_⟩
                         refine Into_id (e0 := e34c l.length c R.length (j + 1)) (h0 := h34c l (at2 H 0) R P (srchI l P (i + 1))) (n0 := 5) ⟨i + 1, j + 1, by omega, by omega, rfl, rfl, rfl, rfl⟩ ?_ ?_ (by decide)
                         · unfold e34c
                           ((repeat' (refine List.forall_mem_cons.2 ⟨⟨rfl, ?_⟩, ?_⟩; (first | exact scT_g rfl | exact ⟨by decide, rfl⟩ | exact ⟨by decide, fun h => (by cases h)⟩))); exact fun _ h => (by cases h))
                         · rw [hstep, hq]
                           unfold h34c
                           ((repeat' (refine List.forall_mem_cons.2 ⟨⟨Nat.le_of_ble_eq_true rfl, _, rfl, ?_⟩, ?_⟩; (first | exact ObjRen_g (flat_g _ _) | exact ObjRen_j rfl rfl))); exact fun _ h => (by cases h)))
                  · have hge : i = l.length := by simp only [cA_lt, cA_num, decide_eq_false_iff_not] at g6; omega
                    subst hge
                    rw [hPn]
                    clear hj hi g6
                    repeat' first
                      | (((conv => whnf); refine bm (fun g => ?_) (fun g => ?_)))
                    all_goals first
                      | (exfalso
                         have hx : Nat.ble (R.length + 1) R.length = true := by assumption
                         have := Nat.le_of_ble_eq_true hx
                         omega)
                      | (have hk : k = H.length := by
                           rcases Nat.lt_or_ge k H.length with g7 | g7
                           · exfalso
                             rw [Nat.mod_eq_of_lt g7, hP] at *
                             first
                               | (have he : eqP (at2 H k) (at2 H 0) = true := by assumption
                                  exact Hf k (by omega) g7 ((eqP_iff _ _).1 he))
                               | (have he : (eqP (at2 H k) (at2 H (k - 1)) == false) = false := by assumption
                                  have he2 : eqP (at2 H k) (at2 H (k - 1)) = true := by simpa using he
                                  have h3 := Hs (k - 1) (by omega)
                                  rw [show k - 1 + 1 = k by omega] at h3
                                  exact h3 ((eqP_iff _ _).1 he2))
                           · omega
                         have hRH : R = H := by rw [hR, hk, List.take_length]
                         clear hR
                         subst hRH
                         (conv => whnf)
                         exact Yields_own (l := R) (e := some 0) (q := 2) (nx := 0) elP H0 rfl)
                      | skip
                    all_goals (conv => whnf)
                    · have hk : k < H.length := by
                        rcases Nat.lt_or_ge k H.length with g7 | g7
                        · exact g7
                        · exfalso
                          have he : eqP (at2 H (k % H.length)) (at2 H 0) = false := by assumption
                          have hz : k % H.length = 0 := by
                            have : k = H.length := by omega
                            subst this
                            exact Nat.mod_self _
                          rw [hz] at he
                          exact eqP_ne he rfl
                      rw [Nat.mod_eq_of_lt hk]
                      have hR2 : H.take (k + 1) = R ++ [at2 H k] := by rw [take_snoc hk, hR]
                      have hl2 : (R ++ [at2 H k]).length = R.length + 1 := by rw [List.length_append]; rfl
                      refine ⟨H.length - (k + 1), by omega, ?_⟩
                      refine Into_mv (e0 := e34b l.length c (R.length + 1)) (h0 := h34b l (at2 H 0) (R ++ [at2 H k])) (n0 := 3) 2 6 (by decide) (by decide)
                        ⟨k + 1, R ++ [at2 H k], hR2.symm, by omega, by omega, by omega, rfl, by rw [hl2]; rfl, rfl, rfl⟩ ?_ ?_ ?_
                      · unfold e34b
                        ((repeat' (refine List.forall_mem_cons.2 ⟨⟨rfl, ?_⟩, ?_⟩; (first | exact scT_g rfl | exact ⟨by decide, rfl⟩ | exact ⟨by decide, fun h => (by cases h)⟩))); exact fun _ h => (by cases h))
                      · unfold h34b
                        ((repeat' (refine List.forall_mem_cons.2 ⟨⟨Nat.le_of_ble_eq_true rfl, _, rfl, ?_⟩, ?_⟩; (first | exact (ObjRen_j (flat_g elP _) (flat_grow R _)) | exact ObjRen_g (flat_g _ _) | exact ObjRen_j rfl rfl))); exact fun _ h => (by cases h))
                      · unfold h34b
                        ((repeat' (refine List.forall_mem_cons.2 ⟨?_, ?_⟩; (intro _ h; revert h; simp))); exact fun _ h => (by cases h))
                    · exfalso
                      have hf : (flat elP.fl R).length = R.length * 2 := by rw [flat_len]; rfl
                      simp only [cA_andB, hf] at g
                      revert g
                      simp
                      omega
    · exfalso
      have hg : decide (l.length ≤ 1000000000) = false := g2
      rw [decide_eq_false_iff_not] at hg
      omega
end Go.Aw
