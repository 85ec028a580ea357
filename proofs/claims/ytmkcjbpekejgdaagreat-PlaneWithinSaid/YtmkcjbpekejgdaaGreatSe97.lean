/-
  Half of a hull: the walk. No condition.
-/
import Derived.Test.YtmkcjbpekejgdaaGreatSe96
set_option linter.unusedSimpArgs false
set_option linter.unusedVariables false
noncomputable section
namespace Go.Aw
set_option maxRecDepth 100000
def sO (n c : Nat) : Value := .slice (some ⟨2, 0, none⟩) n c
def e80 (n c : Nat) (v : Value) (j : Int) : List (Nat × Value) := [(5, .slice (some ⟨1, 0, none⟩) n c), (6, iv n), (7, iv j), (2, v)]
def e80i (n c : Nat) (v : Value) (j : Int) : List (Nat × Value) := [(5, .slice (some ⟨1, 0, none⟩) n c), (6, iv n), (7, iv j), (2, v), (4, .pointer (some ⟨3, 0, none⟩))]
def h80 (l : List (Int × Int)) (c : Nat) : Heap := [(0, .cells false false 1 [.slice (some ⟨1, 0, none⟩) l.length c]), (1, .cells false true 2 (flat elP.fl l))]
def h80o (l F : List (Int × Int)) (c : Nat) : Heap := [(0, .cells false false 1 [.slice (some ⟨1, 0, none⟩) l.length c]), (1, .cells false true 2 (flat elP.fl l)), (2, .cells true false 2 (flat elP.fl F))]
def h80i (l F : List (Int × Int)) (c : Nat) (p : Int × Int) : Heap := [(0, .cells false false 1 [.slice (some ⟨1, 0, none⟩) l.length c]), (1, .cells false true 2 (flat elP.fl l)), (2, .cells true false 2 (flat elP.fl F)), (3, .cells true false 1 [iv p.1, iv p.2])]
def h80o' (l : List (Int × Int)) (p : Int × Int) (c : Nat) : Heap := [(0, .cells false false 1 [.slice (some ⟨1, 0, none⟩) l.length c]), (1, .cells false true 2 (flat elP.fl l)), (2, .cells true false 1 [iv p.1, iv p.2])]
theorem box_nm {N : Nat} (n c : Nat) (hN : 2 ≤ N := by decide) : ∀ v ∈ [Value.slice (some ⟨1, 0, none⟩) n c], nmS N v := fun v hv => by
  cases hv with
  | head => exact ⟨show 1 < N by omega, fun h => by cases h⟩
  | tail _ hm => cases hm
theorem eqb_t (b : Bool) : (b == true) = b := by cases b <;> rfl
theorem eqb_f (b : Bool) : (b == false) = !b := by cases b <;> rfl
theorem box_ren (wr : Bool) (n c N : Nat) (hN : 2 ≤ N) : ObjRen id N (.cells wr false 1 [.slice (some ⟨1, 0, none⟩) n c]) (.cells wr false 1 [.slice (some ⟨1, 0, none⟩) n c]) :=
  ⟨rfl, rfl, rfl, rfl, fun v hv => by
    cases hv with
    | head => exact ⟨show 1 < N by omega, fun h => by cases h⟩
    | tail _ hm => cases hm⟩
theorem push_in {F : List (Int × Int)} {p : Int × Int} {m o : Nat} (h : m < F.length) (ho : o = m * 2) : putN (flat elP.fl F) o [iv p.1, iv p.2] = flat elP.fl (pushI F m p) := by
  rw [ho, flat_set F m p h]
  congr 1
  unfold pushI
  rw [List.set_eq_take_append_cons_drop, if_pos h, List.append_assoc]
  rfl
theorem push_out {F : List (Int × Int)} {p : Int × Int} {m a d : Nat} (h : m = F.length) (ha : a = m * 2) (hd : d = 0) : List.take a (List.drop d (flat elP.fl F)) ++ [iv p.1, iv p.2] = flat elP.fl (pushI F m p) := by
  subst h ha hd
  rw [flat_grow F p]
  unfold pushI
  rw [List.take_length, List.drop_eq_nil_of_le (by omega), List.append_nil]
set_option maxHeartbeats 2000000 in
attribute [local irreducible] at2 turnS popN pushI halfS in
theorem d80 : XOK Go.Proofs.Tryz.prog 80 hbX := hbX_ok (f := 80) (body_calls (xl := [X55]) (.cons x55 .nil)) fun l c hS => by
  unfold SHf at hS
  simp only [Bool.and_eq_true, decide_eq_true_eq] at hS
  obtain ⟨⟨hl0, hlen⟩, hall⟩ := hS
  (conv => whnf)
  refine ⟨fun n e h nx => ∃ (k : Nat) (j : Int), j = k ∧ k ≤ l.length ∧ n = l.length - k ∧
    ((k = 0 ∧ e = e80 l.length c (.slice none 0 0) j ∧ h = h80 l c ∧ nx = 2) ∨ (∃ F m, 0 < k ∧ halfS l k = (F, m) ∧ 1 ≤ m ∧ m ≤ F.length ∧ F.length ≤ k ∧ F.all rightS = true ∧ e = e80 l.length c (sO m F.length) j ∧ h = h80o l F c ∧ nx = 3)), ⟨l.length, ?_⟩, ?_⟩
  · refine Into_id (e0 := e80 l.length c (.slice none 0 0) 0) (h0 := h80 l c) (n0 := 2) ⟨0, 0, rfl, Nat.zero_le _, rfl, .inl ⟨rfl, rfl, rfl, rfl⟩⟩ ?_ ?_ (by decide)
    · unfold e80
      ((repeat' (refine List.forall_mem_cons.2 ⟨⟨rfl, ?_⟩, ?_⟩; (first | exact scT_g rfl | exact ⟨by decide, rfl⟩ | exact ⟨by decide, fun h => (by cases h)⟩))); exact fun _ h => (by cases h))
    · unfold h80
      exact List.forall_mem_cons.2 ⟨⟨by show 0 < 2; decide, _, rfl, box_ren false _ _ _ (Nat.le_refl _)⟩, List.forall_mem_cons.2 ⟨⟨by show 1 < 2; decide, _, rfl, ObjRen_g (flat_g elP _)⟩, fun _ h => (by cases h)⟩⟩
  · rintro n e h nx ⟨k, j, hj, hk, rfl, ⟨rfl, rfl, rfl, rfl⟩ | ⟨F, m, hk0, hF, hm1, hm2, hFk, hFr, rfl, rfl, rfl⟩⟩
    · unfold e80 h80
      ((conv => whnf); refine bm (fun g0 => ?_) (fun g0 => ?_))
      · repeat' first
          | (exfalso
             simp only [eqb_t, eqb_f, cA_add, cA_sub, cA_fits, cA_lt, cA_le, cA_eq, cA_notB, cA_andB, cA_eqB, cA_num, cA_subN, cA_toN, fitsK, ble_t, ble_f, beq_t, beq_f, flat2, Bool.not_eq_false', Bool.not_eq_true', Bool.and_eq_false_iff, Bool.and_eq_true, decide_eq_true_eq, decide_eq_false_iff_not, List.length_nil, List.length_cons, cA_ix, putN, List.length_append, List.length_take, List.length_drop] at g; omega)
          | (((conv => whnf); refine bm (fun g => ?_) (fun g => ?_)))
          | ((conv => whnf)
             refine boL (getP l hl0 ?_) ?_
             · simp [cfgS, std]; omega)
        all_goals (conv => whnf)
        refine ⟨fun q e h nx => e = [(5, .slice (some ⟨1, 0, none⟩) l.length c), (6, iv l.length), (7, iv j), (2, .slice none 0 0), (4, .pointer (some ⟨2, 0, none⟩))] ∧ h = h80o' l (at2 l 0) c ∧ nx = 3, ⟨0, ?_⟩, ?_⟩
        · refine Into_id (e0 := [(5, .slice (some ⟨1, 0, none⟩) l.length c), (6, iv l.length), (7, iv j), (2, .slice none 0 0), (4, .pointer (some ⟨2, 0, none⟩))]) (h0 := h80o' l (at2 l 0) c) (n0 := 3) ⟨rfl, rfl, rfl⟩ ?_ ?_ (by decide)
          · ((repeat' (refine List.forall_mem_cons.2 ⟨⟨rfl, ?_⟩, ?_⟩; (first | exact scT_g rfl | exact ⟨by decide, rfl⟩ | exact ⟨by decide, fun h => (by cases h)⟩))); exact fun _ h => (by cases h))
          · unfold h80o'
            exact List.forall_mem_cons.2 ⟨⟨by show 0 < 3; decide, _, rfl, box_ren false _ _ _ (by decide)⟩, List.forall_mem_cons.2 ⟨⟨by show 1 < 3; decide, _, rfl, ObjRen_g (flat_g elP _)⟩, List.forall_mem_cons.2 ⟨⟨by show 2 < 3; decide, _, rfl, ObjRen_g rfl⟩, fun _ h => (by cases h)⟩⟩⟩
        · rintro q e h nx ⟨rfl, rfl, rfl⟩
          unfold h80o'
          repeat' first
            | (exfalso
               simp only [eqb_t, eqb_f, cA_add, cA_sub, cA_fits, cA_lt, cA_le, cA_eq, cA_notB, cA_andB, cA_eqB, cA_num, cA_subN, cA_toN, fitsK, ble_t, ble_f, beq_t, beq_f, flat2, Bool.not_eq_false', Bool.not_eq_true', Bool.and_eq_false_iff, Bool.and_eq_true, decide_eq_true_eq, decide_eq_false_iff_not, List.length_nil, List.length_cons, cA_ix, putN, List.length_append, List.length_take, List.length_drop] at g; omega)
            | (((conv => whnf); refine bm (fun g => ?_) (fun g => ?_)))
          all_goals (conv => whnf)
          refine ⟨l.length - 1, by omega, ?_⟩
          refine Into_mv (e0 := e80 l.length c (sO 1 1) (j + 1)) (h0 := h80o l [at2 l 0] c) (n0 := 3) 2 4 (by decide) (by decide) ⟨1, j + 1, by omega, by omega, rfl, .inr ⟨[at2 l 0], 1, by omega, halfS_one l, Nat.le_refl _, Nat.le_refl _, Nat.le_refl _, by simp [all_at hall hl0], rfl, rfl, rfl⟩⟩ ?_ ?_ ?_
          · unfold e80 sO
            ((repeat' (refine List.forall_mem_cons.2 ⟨⟨rfl, ?_⟩, ?_⟩; (first | exact scT_g rfl | exact ⟨by decide, rfl⟩ | exact ⟨by decide, fun h => (by cases h)⟩))); exact fun _ h => (by cases h))
          · unfold h80o
            exact List.forall_mem_cons.2 ⟨⟨by show 0 < 3; decide, _, rfl, ⟨rfl, rfl, rfl, rfl, box_nm _ _⟩⟩, List.forall_mem_cons.2 ⟨⟨by show 1 < 3; decide, _, rfl, ObjRen_g (flat_g elP _)⟩, List.forall_mem_cons.2 ⟨⟨by show 2 < 3; decide, _, rfl, ObjRen_j rfl rfl⟩, fun _ h => (by cases h)⟩⟩⟩
          · unfold h80o
            ((repeat' (refine List.forall_mem_cons.2 ⟨?_, ?_⟩; (intro _ h; revert h; simp))); exact fun _ h => (by cases h))
      · exfalso
        simp only [cA_lt, decide_eq_false_iff_not] at g0
        omega
    · unfold e80 h80o sO
      ((conv => whnf); refine bm (fun g0 => ?_) (fun g0 => ?_))
      · have hlt : k < l.length := by simp only [cA_lt, decide_eq_true_eq] at g0; omega
        repeat' first
          | (exfalso
             simp only [eqb_t, eqb_f, cA_add, cA_sub, cA_fits, cA_lt, cA_le, cA_eq, cA_notB, cA_andB, cA_eqB, cA_num, cA_subN, cA_toN, fitsK, ble_t, ble_f, beq_t, beq_f, flat2, Bool.not_eq_false', Bool.not_eq_true', Bool.and_eq_false_iff, Bool.and_eq_true, decide_eq_true_eq, decide_eq_false_iff_not, List.length_nil, List.length_cons, cA_ix, putN, List.length_append, List.length_take, List.length_drop] at g; omega)
          | (((conv => whnf); refine bm (fun g => ?_) (fun g => ?_)))
          | ((conv => whnf)
             refine boL (getP l hlt ?_) ?_
             · simp [cfgS, std]; omega)
        all_goals (conv => whnf)
        have w3 : wide (at2 l k) = true := rightS_wide (all_at hall hlt)
        have hpr : rightS (at2 l k) = true := all_at hall hlt
        have hnext := halfS_succ hF
        generalize at2 l k = p at w3 hpr hnext ⊢
        refine ⟨fun q e h nx => ∃ m', 1 ≤ m' ∧ m' ≤ m ∧ popN F p m = popN F p m' ∧ q = m' ∧ e = e80i l.length c (sO m' F.length) j ∧ h = h80i l F c p ∧ nx = 4, ⟨m, ?_⟩, ?_⟩
        · refine Into_id (e0 := e80i l.length c (sO m F.length) j) (h0 := h80i l F c p) (n0 := 4) ⟨m, hm1, Nat.le_refl _, rfl, rfl, rfl, rfl, rfl⟩ ?_ ?_ (by decide)
          · unfold e80i sO
            ((repeat' (refine List.forall_mem_cons.2 ⟨⟨rfl, ?_⟩, ?_⟩; (first | exact scT_g rfl | exact ⟨by decide, rfl⟩ | exact ⟨by decide, fun h => (by cases h)⟩))); exact fun _ h => (by cases h))
          · unfold h80i
            exact List.forall_mem_cons.2 ⟨⟨by show 0 < 4; decide, _, rfl, box_ren false _ _ _ (by decide)⟩, List.forall_mem_cons.2 ⟨⟨by show 1 < 4; decide, _, rfl, ObjRen_g (flat_g elP _)⟩, List.forall_mem_cons.2 ⟨⟨by show 2 < 4; decide, _, rfl, ObjRen_g (flat_g elP _)⟩, List.forall_mem_cons.2 ⟨⟨by show 3 < 4; decide, _, rfl, ObjRen_g rfl⟩, fun _ h => (by cases h)⟩⟩⟩⟩
        · rintro q e h nx ⟨m', hm1', hm2', hpop, rfl, rfl, rfl, rfl⟩
          have q1 : q - 2 < F.length := by omega
          have q2 : q - 1 < F.length := by omega
          have w1 : wide (at2 F (q - 2)) = true := rightS_wide (all_at hFr q1)
          have w2 : wide (at2 F (q - 1)) = true := rightS_wide (all_at hFr q2)
          have hpl := pushI_len (F := F) p (show q ≤ F.length by omega)
          unfold e80i h80i sO
          rcases Nat.lt_or_ge 1 q with c1 | c1
          all_goals repeat' first
            | (exfalso
               simp only [eqb_t, eqb_f, cA_add, cA_sub, cA_fits, cA_lt, cA_le, cA_eq, cA_notB, cA_andB, cA_eqB, cA_num, cA_subN, cA_toN, fitsK, ble_t, ble_f, beq_t, beq_f, flat2, Bool.not_eq_false', Bool.not_eq_true', Bool.and_eq_false_iff, Bool.and_eq_true, decide_eq_true_eq, decide_eq_false_iff_not, List.length_nil, List.length_cons, cA_ix, putN, List.length_append, List.length_take, List.length_drop] at g; omega)
            | (exfalso
               have hg : (wide (at2 F (q - 2)) && wide (at2 F (q - 1)) && wide p) = false := g
               rw [w1, w2, w3] at hg
               cases hg)
            | (((conv => whnf); refine bm (fun g => ?_) (fun g => ?_)))
            | ((conv => whnf)
               refine boL (getP F q1 ?_) ?_
               · simp only [cA_ix, cA_sub, cA_num]; omega)
            | ((conv => whnf)
               refine boL (getP F q2 ?_) ?_
               · simp only [cA_ix, cA_sub, cA_num]; omega)
          all_goals (conv => whnf)
          all_goals first
            | (exfalso
               have hx : 0 + (q + 1) * 2 ≤ (flat elP.fl F).length := by
                 have := Nat.le_of_ble_eq_true ‹(q + 1).ble F.length = true›
                 rw [flat2]; omega
               have hc : Nat.ble (0 + (q + 1) * 2) (flat elP.fl F).length = false := g
               rw [Nat.ble_eq_true_of_le hx] at hc
               cases hc)
            | (have ht : decide (turnS (at2 F (q - 2)) (at2 F (q - 1)) p ≤ 0) = true := ‹cfgS.A.le (turnS ((at2 F (q - 2)).fst, (at2 F (q - 2)).snd) ((at2 F (q - 1)).fst, (at2 F (q - 1)).snd) (p.fst, p.snd)) 0 = true›
               have hX : cfgS.A.toN (cfgS.A.sub (cfgS.A.num q) 1) = q - 1 := by
                 simp only [cA_toN, cA_sub, cA_num]; omega
               rw [hX]
               refine ⟨q - 1, by omega, ?_⟩
               refine Into_id (e0 := e80i l.length c (sO (q - 1) F.length) j) (h0 := h80i l F c p) (n0 := 4) ⟨q - 1, by omega, by omega, by rw [hpop]; exact popN_go (by omega) (of_decide_eq_true ht), rfl, rfl, rfl, rfl⟩ ?_ ?_ (by decide)
               · unfold e80i sO
                 ((repeat' (refine List.forall_mem_cons.2 ⟨⟨rfl, ?_⟩, ?_⟩; (first | exact scT_g rfl | exact ⟨by decide, rfl⟩ | exact ⟨by decide, fun h => (by cases h)⟩))); exact fun _ h => (by cases h))
               · unfold h80i
                 exact List.forall_mem_cons.2 ⟨⟨by show 0 < 4; decide, _, rfl, box_ren false _ _ _ (by decide)⟩, List.forall_mem_cons.2 ⟨⟨by show 1 < 4; decide, _, rfl, ObjRen_g (flat_g elP _)⟩, List.forall_mem_cons.2 ⟨⟨by show 2 < 4; decide, _, rfl, ObjRen_g (flat_g elP _)⟩, List.forall_mem_cons.2 ⟨⟨by show 3 < 4; decide, _, rfl, ObjRen_g rfl⟩, fun _ h => (by cases h)⟩⟩⟩⟩)
            | (have hst : popN F p m = q := by
                 rw [hpop]
                 refine popN_stop (fun h1 => ?_)
                 first
                   | omega
                   | (have ht : decide (turnS (at2 F (q - 2)) (at2 F (q - 1)) p ≤ 0) = false := ‹cfgS.A.le (turnS ((at2 F (q - 2)).fst, (at2 F (q - 2)).snd) ((at2 F (q - 1)).fst, (at2 F (q - 1)).snd) (p.fst, p.snd)) 0 = false›
                      exact of_decide_eq_false ht)
               rw [hst] at hnext
               refine ⟨l.length - (k + 1), by omega, ?_⟩
               have hin : q < F.length := Nat.le_of_ble_eq_true ‹(q + 1).ble F.length = true›
               rw [if_pos hin] at hpl
               refine Into_id (e0 := e80 l.length c (sO (q + 1) F.length) (j + 1)) (h0 := h80o l (pushI F q p) c) (n0 := 3) ⟨k + 1, j + 1, by omega, by omega, rfl, .inr ⟨pushI F q p, q + 1, by omega, hnext, by omega, by omega, by omega, pushI_right hFr hpr, by rw [hpl]; rfl, rfl, rfl⟩⟩ ?_ ?_ (by decide)
               · unfold e80 sO
                 ((repeat' (refine List.forall_mem_cons.2 ⟨⟨rfl, ?_⟩, ?_⟩; (first | exact scT_g rfl | exact ⟨by decide, rfl⟩ | exact ⟨by decide, fun h => (by cases h)⟩))); exact fun _ h => (by cases h))
               · unfold h80o
                 exact List.forall_mem_cons.2 ⟨⟨by show 0 < 3; decide, _, rfl, box_ren false _ _ _ (by decide)⟩, List.forall_mem_cons.2 ⟨⟨by show 1 < 3; decide, _, rfl, ObjRen_g (flat_g elP _)⟩, List.forall_mem_cons.2 ⟨⟨by show 2 < 3; decide, _, rfl, ObjRen_j (flat_g elP _) (push_in hin (by show 0 + q * 2 = _; omega))⟩, fun _ h => (by cases h)⟩⟩⟩)
            | (have hst : popN F p m = q := by
                 rw [hpop]
                 refine popN_stop (fun h1 => ?_)
                 first
                   | omega
                   | (have ht : decide (turnS (at2 F (q - 2)) (at2 F (q - 1)) p ≤ 0) = false := ‹cfgS.A.le (turnS ((at2 F (q - 2)).fst, (at2 F (q - 2)).snd) ((at2 F (q - 1)).fst, (at2 F (q - 1)).snd) (p.fst, p.snd)) 0 = false›
                      exact of_decide_eq_false ht)
               rw [hst] at hnext
               refine ⟨l.length - (k + 1), by omega, ?_⟩
               have hin : ¬ q < F.length := by
                 have hb : (q + 1).ble F.length = false := ‹(q + 1).ble F.length = false›
                 have := ble_f.1 hb
                 omega
               rw [if_neg hin] at hpl
               refine Into_mv (e0 := e80 l.length c (sO (q + 1) (q + 1)) (j + 1)) (h0 := h80o l (pushI F q p) c) (n0 := 3) 2 5 (by decide) (by decide) ⟨k + 1, j + 1, by omega, by omega, rfl, .inr ⟨pushI F q p, q + 1, by omega, hnext, by omega, by omega, by omega, pushI_right hFr hpr, by rw [hpl]; rfl, rfl, rfl⟩⟩ ?_ ?_ ?_
               · unfold e80 sO
                 ((repeat' (refine List.forall_mem_cons.2 ⟨⟨rfl, ?_⟩, ?_⟩; (first | exact scT_g rfl | exact ⟨by decide, rfl⟩ | exact ⟨by decide, fun h => (by cases h)⟩))); exact fun _ h => (by cases h))
               · unfold h80o
                 exact List.forall_mem_cons.2 ⟨⟨by show 0 < 3; decide, _, rfl, ⟨rfl, rfl, rfl, rfl, box_nm _ _⟩⟩, List.forall_mem_cons.2 ⟨⟨by show 1 < 3; decide, _, rfl, ObjRen_g (flat_g elP _)⟩, List.forall_mem_cons.2 ⟨⟨by show 2 < 3; decide, _, rfl, ObjRen_j (flat_g elP _) (push_out (by omega) rfl rfl)⟩, fun _ h => (by cases h)⟩⟩⟩
               · unfold h80o
                 ((repeat' (refine List.forall_mem_cons.2 ⟨?_, ?_⟩; (intro _ h; revert h; simp))); exact fun _ h => (by cases h)))
            | trace_state
      · have hkl : k = l.length := by simp only [cA_lt, decide_eq_false_iff_not] at g0; omega
        subst hkl
        repeat' first
          | (exfalso
             simp only [eqb_t, eqb_f, cA_add, cA_sub, cA_fits, cA_lt, cA_le, cA_eq, cA_notB, cA_andB, cA_eqB, cA_num, cA_subN, cA_toN, fitsK, ble_t, ble_f, beq_t, beq_f, flat2, Bool.not_eq_false', Bool.not_eq_true', Bool.and_eq_false_iff, Bool.and_eq_true, decide_eq_true_eq, decide_eq_false_iff_not, List.length_nil, List.length_cons, cA_ix, putN, List.length_append, List.length_take, List.length_drop] at g; omega)
          | (((conv => whnf); refine bm (fun g => ?_) (fun g => ?_)))
        all_goals (conv => whnf)
        rw [hF]
        refine ⟨2, ?_, rfl⟩
        show Value.slice (some ⟨2, 0, none⟩) ((m : Int) - 1).toNat F.length = .slice (some ⟨2, 0, none⟩) (m - 1) F.length
        rw [show ((m : Int) - 1).toNat = m - 1 by omega]
end Go.Aw
