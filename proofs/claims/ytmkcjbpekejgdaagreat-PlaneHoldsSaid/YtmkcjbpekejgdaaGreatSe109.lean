/-
  PlaneHolds: its body, for lists that are not empty. No condition.
-/
import Derived.Test.YtmkcjbpekejgdaaGreatSeM
import Derived.Test.YtmkcjbpekejgdaaGreatSe104
import Derived.Test.YtmkcjbpekejgdaaGreatSe42
import Derived.Test.YtmkcjbpekejgdaaGreatSeC
set_option linter.unusedSimpArgs false
set_option linter.unusedVariables false
noncomputable section
namespace Go.Aw
set_option maxRecDepth 100000
def fndB (l : List (Int × Int)) (p : Int × Int) : Nat → Bool
  | 0 => false
  | k + 1 => fndB l p k || eqP p (at2 l k)
theorem fnd_yes {l : List (Int × Int)} {p : Int × Int} : ∀ k, (∃ j, j < k ∧ at2 l j = p) → fndB l p k = true
  | 0, ⟨j, h, _⟩ => by omega
  | k + 1, ⟨j, hj, e⟩ => by
    unfold fndB
    by_cases g : j = k
    · rw [← g, e, (eqP_iff p p).2 rfl, Bool.or_true]
    · rw [fnd_yes k ⟨j, by omega, e⟩, Bool.true_or]
def sl0 (n c : Nat) : Value := .slice (some ⟨0, 0, none⟩) n c
def sl1 (n : Nat) : Value := .slice (some ⟨1, 0, none⟩) n n
def e12a (n c m : Nat) (i : Int) : List (Nat × Value) := [(0, sl0 n c), (3, sl1 m), (65, sl1 m), (66, iv m), (67, iv i)]
def e12b (n c m : Nat) (i : Int) (b : Bool) (j : Int) : List (Nat × Value) := [(0, sl0 n c), (3, sl1 m), (65, sl1 m), (66, iv m), (67, iv i), (8, .pointer (some ⟨2, 0, none⟩)), (9, .bool b), (71, sl0 n c), (72, iv n), (73, iv j)]
def e12c (n c m : Nat) (i : Int) : List (Nat × Value) := [(0, sl0 n c), (3, sl1 m), (87, sl0 n c), (88, iv n), (89, iv i)]
def e12d (n c m : Nat) (i : Int) (j : Int) : List (Nat × Value) := [(0, sl0 n c), (3, sl1 m), (87, sl0 n c), (88, iv n), (89, iv i), (13, .pointer (some ⟨2, 0, none⟩)), (14, iv j)]
def h12a (l H : List (Int × Int)) : Heap := [(0, .cells false true 2 (flat elP.fl l)), (1, .cells true false 2 (flat elP.fl H))]
def h12b (l H : List (Int × Int)) (p : Int × Int) : Heap := [(0, .cells false true 2 (flat elP.fl l)), (1, .cells true false 2 (flat elP.fl H)), (2, .cells true false 1 [iv p.1, iv p.2])]
theorem fits_ex : ∃ f : IntKind → Int → Bool, f = fitsK := ⟨_, rfl⟩
/-- The check of sizes, closed to reckoning. -/
def fitsO : IntKind → Int → Bool := Classical.choose fits_ex
theorem fitsO_eq : fitsO = fitsK := Classical.choose_spec fits_ex
def stdO : Ar := { std with fits := fitsO }
theorem stdO_eq : stdO = std := by
  unfold stdO
  rw [fitsO_eq]
  rfl
def cfgO : Cfg := { A := stdO, T := tyT, FT := look ftL, PL := plF, PR := fun _ => false, X := fun _ => none, M := 0 }
theorem cfgO_ok : CfgOK Go.Proofs.Tryz.prog cfgO where
  ar := stdO_eq
  tab := tabB_ok tyT_ok
  mixed := by decide +kernel
  funcs := ft_funcs
  xs := fun _ _ h => by cases h
def bodyO (xl : List (Nat × XF)) : VC := vbody cfgO none (CX (look xl)) noY
theorem bodyO_calls {xl : List (Nat × XF)} (h : XLOK xl) : CallsOK Go.Proofs.Tryz.prog (bodyO xl) := vbody_ok cfgO_ok (CX_ok h.look) noY_ok (CX_det h.look) noY_det none
theorem cO_add (a b : Int) : cfgO.A.add a b = a + b := rfl
theorem cO_mul (a b : Int) : cfgO.A.mul a b = a * b := rfl
theorem cO_neg (a : Int) : cfgO.A.neg a = 0 - a := rfl
theorem cO_lt (a b : Int) : cfgO.A.lt a b = decide (a < b) := rfl
theorem cO_le (a b : Int) : cfgO.A.le a b = decide (a ≤ b) := rfl
theorem cO_eq (a b : Int) : cfgO.A.eq a b = decide (a = b) := rfl
theorem cO_fits (k : IntKind) (a : Int) : cfgO.A.fits k a = fitsK k a := by
  show fitsO k a = _
  rw [fitsO_eq]
theorem cO_num (a : Nat) : cfgO.A.num a = (a : Int) := rfl
theorem cO_andB (a b : Bool) : cfgO.A.andB a b = (a && b) := rfl
theorem cO_notB (a : Bool) : cfgO.A.notB a = !a := rfl
theorem cO_eqB (a b : Bool) : cfgO.A.eqB a b = (a == b) := rfl

attribute [local irreducible] hulO hulE hulL samePB convB OnS WhV tS fndB in
theorem law12 (l : List (Int × Int)) (h0 : 0 < l.length) (c : Nat) : bodyO [X19, D33, X48, X36, X20, X40, X15] 12 [.slice (some ⟨0, 0, none⟩) l.length c] [(0, .cells false true 2 (flat elP.fl l))] 1 (fun u _ _ => u = .bool true) := by
  have hs : ∀ O, samePB O O = true := fun O => by unfold samePB; exact decide_eq_true rfl
  ((conv => whnf); refine bm (fun g1 => ?_) (fun g1 => ?_))
  · (conv => whnf)
  · have hlen : l.length ≤ 100 := by simp only [cO_lt, cO_num, decide_eq_false_iff_not] at g1; omega
    by_cases hE : hulE l = 0
    · have hO : hulO l = hulL l := by unfold hulO; rw [if_pos hE]
      have hr : l.all rightS = true := by
        unfold hulE at hE
        split at hE
        · cases hE
        · split at hE
          · assumption
          · cases hE
      obtain ⟨hC, hz⟩ := hull_corners hr h0
      have hH := hull_hull hr h0
      have hHr : (hulL l).all rightS = true := List.all_eq_true.2 fun x hx => by
        obtain ⟨k, hk, e⟩ := List.mem_iff_getElem.1 hx
        rw [← e, ← at2_eq hk]
        exact corners_right hC h0 hr hk
      have hl2 := hC.len
      have hpos := hC.pos
      have hE2 : hulE (hulL l) = 0 := by unfold hulE; rw [if_neg (by omega), if_pos hHr]
      have hO2 : hulO (hulL l) = hulL l := by unfold hulO; rw [if_pos hE2, hH]
      have hcv : 3 ≤ (hulL l).length → convB (hulL l) = true := fun h3 => hull_conv hC h0 hr hz h3 (by omega)
      have hd0 : decide (0 < l.length) = true := decide_eq_true h0
      generalize hulL l = H at *
      obtain ⟨a, t, hHe⟩ : ∃ a t, H = a :: t := by
        cases H with
        | nil => cases hpos
        | cons a t => exact ⟨a, t, rfl⟩
      subst hHe
      have hs1 := hs (a :: t)
      repeat' first
        | (exfalso
           simp only [eqb_t, eqb_f, cO_eqB, cO_notB, cO_eq, cO_lt, cO_le, cO_num, hE, hE2, hs1, hd0, Bool.not_eq_true', Bool.not_eq_false', Bool.and_eq_false_iff, decide_eq_true_eq, decide_eq_false_iff_not, Bool.true_eq_false, Bool.false_eq_true, not_true_eq_false, decide_true, Bool.not_true, Bool.not_false] at g
           first | omega | (rw [hcv (by omega)] at g; cases g))
        | (((conv => whnf); refine bm (fun g => ?_) (fun g => ?_)))
        | ((conv => whnf)
           rw [hO])
        | ((conv => whnf)
           rw [hO2])
        | ((conv => whnf)
           refine Exists.intro l (And.intro (LsAt_own elP rfl) ?_))
        | ((conv => whnf)
           refine Exists.intro (a :: t) (And.intro (LsAt_n elP rfl rfl) ?_))
        | ((conv => whnf)
           refine Exists.intro (a :: t) (Exists.intro (a :: t) (And.intro (LsAt_n elP rfl rfl) (And.intro (LsAt_n elP rfl rfl) ?_))))
      all_goals (conv => whnf)
      all_goals first
        | (exfalso
           have hg : (!(decide (hulE l = 0))) = true := g
           rw [hE] at hg
           cases hg)
        | (exfalso
           have hg : ((!(convB (a :: t))) == false) = false := g
           rw [hcv (by simp only [eqb_t, cO_eqB, cO_le, cO_num, decide_eq_true_eq] at *; omega)] at hg
           cases hg)
        | (exfalso
           have hg : ((!(samePB (a :: t) (a :: t))) == false) = false := g
           rw [hs1] at hg
           cases hg)
        | (exfalso
           have hg : ((!(decide (hulE (a :: t) = 0))) == false) = false := g
           rw [hE2] at hg
           cases hg)
        | (exfalso
           have hg : (decide (l.length ≤ 1000000000) && decide (0 < l.length)) = false := g
           rw [hd0, decide_eq_true (by omega)] at hg
           cases hg)
        | skip
      all_goals generalize a :: t = H at *
      all_goals (refine ⟨fun n e h nx => ∃ (i : Nat) (j : Int), j = i ∧ i ≤ H.length ∧ n = H.length - i ∧ e = e12a l.length c H.length j ∧ h = h12a l H ∧ nx = 2, ⟨H.length, ?_⟩, ?_⟩)
      any_goals
        refine Into_id (e0 := e12a l.length c H.length 0) (h0 := h12a l H) (n0 := 2) ⟨0, 0, rfl, Nat.zero_le _, rfl, rfl, rfl, rfl⟩ ?_ ?_ (by decide)
        · unfold e12a sl0 sl1
          ((repeat' (refine List.forall_mem_cons.2 ⟨⟨rfl, ?_⟩, ?_⟩; (first | exact scT_g rfl | exact ⟨by decide, rfl⟩ | exact ⟨by decide, fun h => (by cases h)⟩))); exact fun _ h => (by cases h))
        · unfold h12a
          ((repeat' (refine List.forall_mem_cons.2 ⟨⟨Nat.le_of_ble_eq_true rfl, _, rfl, ?_⟩, ?_⟩; (first | exact ObjRen_g (flat_g _ _) | exact ObjRen_j rfl rfl))); exact fun _ h => (by cases h))
      all_goals
        rintro n e h nx ⟨i, j, hj, hi, rfl, rfl, rfl, rfl⟩
        unfold e12a h12a sl0 sl1
        ((conv => whnf); refine bm (fun g2 => ?_) (fun g2 => ?_))
        · have hlt : i < H.length := by simp only [cO_lt, cO_num, decide_eq_true_eq] at g2; omega
          repeat' first
            | (exfalso
               simp only [cO_add, cO_fits, cO_lt, cO_le, cO_andB, cO_num, fitsK, Bool.and_eq_false_iff, decide_eq_true_eq, decide_eq_false_iff_not] at g
               omega)
            | (((conv => whnf); refine bm (fun g => ?_) (fun g => ?_)))
            | ((conv => whnf)
               refine boL (getP H hlt ?_) ?_
               · simp [cfgO, stdO, std]; omega)
          all_goals (conv => whnf)
          have hfnd : fndB l (at2 H i) l.length = true := by
            obtain ⟨q, hq, e⟩ := List.mem_iff_getElem.1 (corners_mem hC h0 i hlt)
            exact fnd_yes _ ⟨q, hq, by rw [at2_eq hq, e]⟩
          generalize at2 H i = p at hfnd ⊢
          refine ⟨fun n e h nx => ∃ (k : Nat) (m : Int), m = k ∧ k ≤ l.length ∧ n = l.length - k ∧ e = e12b l.length c H.length j (fndB l p k) m ∧ h = h12b l H p ∧ nx = 3, ⟨l.length, ?_⟩, ?_⟩
          · refine Into_id (e0 := e12b l.length c H.length j false 0) (h0 := h12b l H p) (n0 := 3) ⟨0, 0, rfl, Nat.zero_le _, rfl, by unfold fndB; rfl, rfl, rfl⟩ ?_ ?_ (by decide)
            · unfold e12b sl0 sl1
              ((repeat' (refine List.forall_mem_cons.2 ⟨⟨rfl, ?_⟩, ?_⟩; (first | exact scT_g rfl | exact ⟨by decide, rfl⟩ | exact ⟨by decide, fun h => (by cases h)⟩))); exact fun _ h => (by cases h))
            · unfold h12b
              ((repeat' (refine List.forall_mem_cons.2 ⟨⟨Nat.le_of_ble_eq_true rfl, _, rfl, ?_⟩, ?_⟩; (first | exact ObjRen_g (flat_g _ _) | exact ObjRen_j rfl rfl))); exact fun _ h => (by cases h))
          · rintro n e h nx ⟨k, m, hm, hk, rfl, rfl, rfl, rfl⟩
            unfold e12b h12b sl0 sl1
            have hstep : fndB l p (k + 1) = (fndB l p k || eqP p (at2 l k)) := by conv => lhs; unfold fndB
            ((conv => whnf); refine bm (fun g3 => ?_) (fun g3 => ?_))
            · have hltk : k < l.length := by simp only [cO_lt, cO_num, decide_eq_true_eq] at g3; omega
              generalize fndB l p k = b at hstep ⊢
              repeat' first
                | (exfalso
                   simp only [cO_add, cO_fits, cO_lt, cO_le, cO_andB, cO_num, fitsK, Bool.and_eq_false_iff, decide_eq_true_eq, decide_eq_false_iff_not] at g
                   omega)
                | (((conv => whnf); refine bm (fun g => ?_) (fun g => ?_)))
                | ((conv => whnf)
                   refine boL (getP l hltk ?_) ?_
                   · simp [cfgO, stdO, std]; omega)
              all_goals (conv => whnf)
              · have hb : b = false := by
                  have hg : (b == false) = true := ‹cfgO.A.eqB b false = true›
                  simpa using hg
                subst hb
                refine ⟨l.length - (k + 1), by omega, ?_⟩
                refine Into_id (e0 := e12b l.length c H.length j (fndB l p (k + 1)) (m + 1)) (h0 := h12b l H p) (n0 := 3) ⟨k + 1, m + 1, by omega, by omega, rfl, rfl, rfl, rfl⟩ ?_ ?_ (by decide)
                · rw [hstep]
                  unfold e12b sl0 sl1
                  ((repeat' (refine List.forall_mem_cons.2 ⟨⟨rfl, ?_⟩, ?_⟩; (first | exact scT_g rfl | exact ⟨by decide, rfl⟩ | exact ⟨by decide, fun h => (by cases h)⟩))); exact fun _ h => (by cases h))
                · unfold h12b
                  ((repeat' (refine List.forall_mem_cons.2 ⟨⟨Nat.le_of_ble_eq_true rfl, _, rfl, ?_⟩, ?_⟩; (first | exact ObjRen_g (flat_g _ _) | exact ObjRen_j rfl rfl))); exact fun _ h => (by cases h))
              · have hb : b = true := by
                  have hg : (b == false) = false := ‹cfgO.A.eqB b false = false›
                  simpa using hg
                subst hb
                refine ⟨l.length - (k + 1), by omega, ?_⟩
                refine Into_id (e0 := e12b l.length c H.length j (fndB l p (k + 1)) (m + 1)) (h0 := h12b l H p) (n0 := 3) ⟨k + 1, m + 1, by omega, by omega, rfl, rfl, rfl, rfl⟩ ?_ ?_ (by decide)
                · rw [hstep]
                  unfold e12b sl0 sl1
                  ((repeat' (refine List.forall_mem_cons.2 ⟨⟨rfl, ?_⟩, ?_⟩; (first | exact scT_g rfl | exact ⟨by decide, rfl⟩ | exact ⟨by decide, fun h => (by cases h)⟩))); exact fun _ h => (by cases h))
                · unfold h12b
                  ((repeat' (refine List.forall_mem_cons.2 ⟨⟨Nat.le_of_ble_eq_true rfl, _, rfl, ?_⟩, ?_⟩; (first | exact ObjRen_g (flat_g _ _) | exact ObjRen_j rfl rfl))); exact fun _ h => (by cases h))
            · have hge : k = l.length := by simp only [cO_lt, cO_num, decide_eq_false_iff_not] at g3; omega
              subst hge
              rw [hfnd]
              ((conv => whnf); refine bm (fun g4 => ?_) (fun g4 => ?_))
              · (conv => whnf)
                refine ⟨H.length - (i + 1), by omega, ?_⟩
                refine Into_id (e0 := e12a l.length c H.length (j + 1)) (h0 := h12a l H) (n0 := 2) ⟨i + 1, j + 1, by omega, by omega, rfl, rfl, rfl, rfl⟩ ?_ ?_ (by decide)
                · unfold e12a sl0 sl1
                  ((repeat' (refine List.forall_mem_cons.2 ⟨⟨rfl, ?_⟩, ?_⟩; (first | exact scT_g rfl | exact ⟨by decide, rfl⟩ | exact ⟨by decide, fun h => (by cases h)⟩))); exact fun _ h => (by cases h))
                · unfold h12a
                  ((repeat' (refine List.forall_mem_cons.2 ⟨⟨Nat.le_of_ble_eq_true rfl, _, rfl, ?_⟩, ?_⟩; (first | exact ObjRen_g (flat_g _ _) | exact ObjRen_j rfl rfl))); exact fun _ h => (by cases h))
              · exfalso
                simp only [cO_add, cO_fits, cO_lt, cO_le, cO_andB, cO_num, fitsK, Bool.and_eq_false_iff, decide_eq_true_eq, decide_eq_false_iff_not] at g4
                omega
        · clear hj hi g2
          (conv => whnf)
          refine ⟨fun n e h nx => ∃ (i : Nat) (j : Int), j = i ∧ i ≤ l.length ∧ n = l.length - i ∧ e = e12c l.length c H.length j ∧ h = h12a l H ∧ nx = 2, ⟨l.length, ?_⟩, ?_⟩
          · refine Into_id (e0 := e12c l.length c H.length 0) (h0 := h12a l H) (n0 := 2) ⟨0, 0, rfl, Nat.zero_le _, rfl, rfl, rfl, rfl⟩ ?_ ?_ (by decide)
            · unfold e12c sl0 sl1
              ((repeat' (refine List.forall_mem_cons.2 ⟨⟨rfl, ?_⟩, ?_⟩; (first | exact scT_g rfl | exact ⟨by decide, rfl⟩ | exact ⟨by decide, fun h => (by cases h)⟩))); exact fun _ h => (by cases h))
            · unfold h12a
              ((repeat' (refine List.forall_mem_cons.2 ⟨⟨Nat.le_of_ble_eq_true rfl, _, rfl, ?_⟩, ?_⟩; (first | exact ObjRen_g (flat_g _ _) | exact ObjRen_j rfl rfl))); exact fun _ h => (by cases h))
          · rintro n e h nx ⟨i, j, hj, hi, rfl, rfl, rfl, rfl⟩
            unfold e12c h12a sl0 sl1
            ((conv => whnf); refine bm (fun g2 => ?_) (fun g2 => ?_))
            · have hlt : i < l.length := by simp only [cO_lt, cO_num, decide_eq_true_eq] at g2; omega
              have hpm : at2 l i ∈ l := by rw [at2_eq hlt]; exact List.getElem_mem _
              have hpr : rightS (at2 l i) = true := all_at hr hlt
              have f1 : H.length = 1 → eqP (at2 l i) (at2 H 0) = true := fun h1 => (eqP_iff _ _).2 (hC.one h1 _ hpm)
              have f2 : H.length = 2 → OnS (at2 l i) (at2 H 0, at2 H 1) = true := fun h2 => by
                unfold OnS rightG
                simp only
                rw [hpr, all_at hHr (by omega), all_at hHr (by omega), corners_two hC h0 hr h2 hpm]
                have hne := hC.step 0 (by omega)
                rw [show eqP (at2 H 0) (at2 H 1) = false by cases he : eqP (at2 H 0) (at2 H 1) with | false => rfl | true => exact absurd ((eqP_iff _ _).1 he).symm hne]
                rfl
              have f3 : 3 ≤ H.length → WhV H (at2 l i) ≠ 0 := fun h3 => by
                unfold WhV
                rw [if_pos ⟨hull_poly hC h0 hr h3 (by omega), hpr⟩]
                exact hull_where hC h0 hr h3 hpm
              have f4 : 2 ≤ H.length → ∀ k, k < H.length → ¬ tS (at2 H k) (at2 H ((k + 1) % H.length)) (at2 l i) < 0 := fun h2 k hk => by
                unfold tS
                split
                · rw [turn_lt]
                  rcases (hC.edge h2 k hk).2.2 _ hpm with g | ⟨g, -⟩ <;> omega
                · omega
              rcases H with _ | ⟨a0, _ | ⟨b0, _ | ⟨d0, t0⟩⟩⟩
              · cases hpos
              all_goals (((conv => whnf); refine bm (fun g5 => ?_) (fun g5 => ?_)))
              all_goals try (exfalso; simp only [cO_lt, cO_le, cO_andB, cO_num, Bool.and_eq_false_iff, decide_eq_false_iff_not] at g5; omega)
              all_goals (conv => whnf)
              all_goals refine boL (getP l hlt ?_) ?_
              all_goals try (simp [cfgO, stdO, std]; omega)
              all_goals repeat' first
                | (exfalso
                   simp only [eqb_t, eqb_f, cO_eqB, cO_notB, cO_eq, cO_lt, cO_le, cO_andB, cO_num, List.length_cons, List.length_nil, Bool.not_eq_true', Bool.not_eq_false', Bool.and_eq_false_iff, decide_eq_true_eq, decide_eq_false_iff_not] at g
                   omega)
                | (((conv => whnf); refine bm (fun g => ?_) (fun g => ?_)))
                | ((conv => whnf)
                   refine Exists.intro (a0 :: b0 :: d0 :: t0) (And.intro (LsAt_n elP rfl rfl) ?_))
              all_goals (conv => whnf)
              all_goals first
                | (exfalso
                   have hg : ((!(eqP (at2 l i) a0)) == false) = false := g
                   rw [show eqP (at2 l i) a0 = true from f1 rfl] at hg
                   cases hg)
                | (exfalso
                   have hg : (!(OnS (at2 l i) (a0, b0))) = true := g
                   rw [show OnS (at2 l i) (a0, b0) = true from f2 rfl] at hg
                   cases hg)
                | (exfalso
                   have hg : decide (WhV (a0 :: b0 :: d0 :: t0) (at2 l i) = 0) = true := g
                   exact f3 (by simp only [List.length_cons]; omega) (of_decide_eq_true hg))
                | (exfalso
                   have hg : decide ((a0 :: b0 :: d0 :: t0).length ≤ 1000000000) = false := g
                   rw [decide_eq_false_iff_not] at hg
                   omega)
                | skip
              · refine ⟨fun n e h nx => ∃ (k : Nat) (m : Int), m = k ∧ k ≤ [a0].length ∧ n = [a0].length - k ∧ e = e12d l.length c [a0].length j m ∧ h = h12b l [a0] (at2 l i) ∧ nx = 3, ⟨[a0].length, ?_⟩, ?_⟩
                · refine Into_id (e0 := e12d l.length c [a0].length j 0) (h0 := h12b l [a0] (at2 l i)) (n0 := 3) ⟨0, 0, rfl, Nat.zero_le _, rfl, rfl, rfl, rfl⟩ ?_ ?_ (by decide)
                  · unfold e12d sl0 sl1
                    ((repeat' (refine List.forall_mem_cons.2 ⟨⟨rfl, ?_⟩, ?_⟩; (first | exact scT_g rfl | exact ⟨by decide, rfl⟩ | exact ⟨by decide, fun h => (by cases h)⟩))); exact fun _ h => (by cases h))
                  · unfold h12b
                    ((repeat' (refine List.forall_mem_cons.2 ⟨⟨Nat.le_of_ble_eq_true rfl, _, rfl, ?_⟩, ?_⟩; (first | exact ObjRen_g (flat_g _ _) | exact ObjRen_j rfl rfl))); exact fun _ h => (by cases h))
                · rintro n e h nx ⟨k, m, hm, hk, rfl, rfl, rfl, rfl⟩
                  unfold e12d h12b sl0 sl1
                  have hN : [a0].length ≤ 200 := by omega
                  repeat' first
                    | (exfalso
                       simp only [eqb_t, eqb_f, cO_eqB, cO_notB, cO_eq, cO_lt, cO_le, cO_andB, cO_num, cO_add, cO_fits, fitsK, List.length_cons, List.length_nil, Bool.not_eq_true', Bool.not_eq_false', Bool.and_eq_false_iff, decide_eq_true_eq, decide_eq_false_iff_not] at g
                       omega)
                    | (((conv => whnf); refine bm (fun g => ?_) (fun g => ?_)))
                  all_goals (conv => whnf)
                  refine ⟨l.length - (i + 1), by omega, ?_⟩
                  refine Into_id (e0 := e12c l.length c [a0].length (j + 1)) (h0 := h12a l [a0]) (n0 := 2) ⟨i + 1, j + 1, by omega, by omega, rfl, rfl, rfl, rfl⟩ ?_ ?_ (by decide)
                  · unfold e12c sl0 sl1
                    ((repeat' (refine List.forall_mem_cons.2 ⟨⟨rfl, ?_⟩, ?_⟩; (first | exact scT_g rfl | exact ⟨by decide, rfl⟩ | exact ⟨by decide, fun h => (by cases h)⟩))); exact fun _ h => (by cases h))
                  · unfold h12a
                    ((repeat' (refine List.forall_mem_cons.2 ⟨⟨Nat.le_of_ble_eq_true rfl, _, rfl, ?_⟩, ?_⟩; (first | exact ObjRen_g (flat_g _ _) | exact ObjRen_j rfl rfl))); exact fun _ h => (by cases h))
              · refine ⟨fun n e h nx => ∃ (k : Nat) (m : Int), m = k ∧ k ≤ ([a0, b0] : List (Int × Int)).length ∧ n = ([a0, b0] : List (Int × Int)).length - k ∧ e = e12d l.length c ([a0, b0] : List (Int × Int)).length j m ∧ h = h12b l ([a0, b0] : List (Int × Int)) (at2 l i) ∧ nx = 3, ⟨([a0, b0] : List (Int × Int)).length, ?_⟩, ?_⟩
                · refine Into_id (e0 := e12d l.length c ([a0, b0] : List (Int × Int)).length j 0) (h0 := h12b l ([a0, b0] : List (Int × Int)) (at2 l i)) (n0 := 3) ⟨0, 0, rfl, Nat.zero_le _, rfl, rfl, rfl, rfl⟩ ?_ ?_ (by decide)
                  · unfold e12d sl0 sl1
                    ((repeat' (refine List.forall_mem_cons.2 ⟨⟨rfl, ?_⟩, ?_⟩; (first | exact scT_g rfl | exact ⟨by decide, rfl⟩ | exact ⟨by decide, fun h => (by cases h)⟩))); exact fun _ h => (by cases h))
                  · unfold h12b
                    ((repeat' (refine List.forall_mem_cons.2 ⟨⟨Nat.le_of_ble_eq_true rfl, _, rfl, ?_⟩, ?_⟩; (first | exact ObjRen_g (flat_g _ _) | exact ObjRen_j rfl rfl))); exact fun _ h => (by cases h))
                · rintro n e h nx ⟨k, m, hm, hk, rfl, rfl, rfl, rfl⟩
                  unfold e12d h12b sl0 sl1
                  have hN : ([a0, b0] : List (Int × Int)).length ≤ 200 := by omega
                  repeat' first
                    | (exfalso
                       simp only [eqb_t, eqb_f, cO_eqB, cO_notB, cO_eq, cO_lt, cO_le, cO_andB, cO_num, cO_add, cO_fits, fitsK, List.length_cons, List.length_nil, Bool.not_eq_true', Bool.not_eq_false', Bool.and_eq_false_iff, decide_eq_true_eq, decide_eq_false_iff_not] at g
                       omega)
                    | (((conv => whnf); refine bm (fun g => ?_) (fun g => ?_)))
                  all_goals (conv => whnf)
                  refine ⟨l.length - (i + 1), by omega, ?_⟩
                  refine Into_id (e0 := e12c l.length c ([a0, b0] : List (Int × Int)).length (j + 1)) (h0 := h12a l ([a0, b0] : List (Int × Int))) (n0 := 2) ⟨i + 1, j + 1, by omega, by omega, rfl, rfl, rfl, rfl⟩ ?_ ?_ (by decide)
                  · unfold e12c sl0 sl1
                    ((repeat' (refine List.forall_mem_cons.2 ⟨⟨rfl, ?_⟩, ?_⟩; (first | exact scT_g rfl | exact ⟨by decide, rfl⟩ | exact ⟨by decide, fun h => (by cases h)⟩))); exact fun _ h => (by cases h))
                  · unfold h12a
                    ((repeat' (refine List.forall_mem_cons.2 ⟨⟨Nat.le_of_ble_eq_true rfl, _, rfl, ?_⟩, ?_⟩; (first | exact ObjRen_g (flat_g _ _) | exact ObjRen_j rfl rfl))); exact fun _ h => (by cases h))
              all_goals
                refine ⟨fun n e h nx => ∃ (k : Nat) (m : Int), m = k ∧ k ≤ (a0 :: b0 :: d0 :: t0).length ∧ n = (a0 :: b0 :: d0 :: t0).length - k ∧ e = e12d l.length c (a0 :: b0 :: d0 :: t0).length j m ∧ h = h12b l (a0 :: b0 :: d0 :: t0) (at2 l i) ∧ nx = 3, ⟨(a0 :: b0 :: d0 :: t0).length, ?_⟩, ?_⟩
                · refine Into_id (e0 := e12d l.length c (a0 :: b0 :: d0 :: t0).length j 0) (h0 := h12b l (a0 :: b0 :: d0 :: t0) (at2 l i)) (n0 := 3) ⟨0, 0, rfl, Nat.zero_le _, rfl, rfl, rfl, rfl⟩ ?_ ?_ (by decide)
                  · unfold e12d sl0 sl1
                    ((repeat' (refine List.forall_mem_cons.2 ⟨⟨rfl, ?_⟩, ?_⟩; (first | exact scT_g rfl | exact ⟨by decide, rfl⟩ | exact ⟨by decide, fun h => (by cases h)⟩))); exact fun _ h => (by cases h))
                  · unfold h12b
                    ((repeat' (refine List.forall_mem_cons.2 ⟨⟨Nat.le_of_ble_eq_true rfl, _, rfl, ?_⟩, ?_⟩; (first | exact ObjRen_g (flat_g _ _) | exact ObjRen_j rfl rfl))); exact fun _ h => (by cases h))
                · rintro n e h nx ⟨k, m, hm, hk, rfl, rfl, rfl, rfl⟩
                  unfold e12d h12b sl0 sl1
                  have hN : (a0 :: b0 :: d0 :: t0).length ≤ 200 := by omega
                  by_cases hkN : k < (a0 :: b0 :: d0 :: t0).length
                  · have hn2 : (k + 1) % (a0 :: b0 :: d0 :: t0).length < (a0 :: b0 :: d0 :: t0).length := Nat.mod_lt _ hpos
                    have tn : (m + 1).tmod ((a0 :: b0 :: d0 :: t0).length : Int) = ((k + 1) % (a0 :: b0 :: d0 :: t0).length : Nat) := by rw [hm]; exact (Int.ofNat_tmod _ _).symm
                    have f5 := f4 (by simp only [List.length_cons]; omega) k hkN
                    have h3n : 3 ≤ (a0 :: b0 :: d0 :: t0).length := by simp only [List.length_cons]; omega
                    generalize a0 :: b0 :: d0 :: t0 = H at *
                    repeat' first
                      | (exfalso
                         simp only [eqb_t, eqb_f, cO_eqB, cO_notB, cO_eq, cO_lt, cO_le, cO_andB, cO_num, cO_add, cO_fits, fitsK, Bool.not_eq_true', Bool.not_eq_false', Bool.and_eq_false_iff, decide_eq_true_eq, decide_eq_false_iff_not] at g
                         omega)
                      | (exfalso
                         have hg : (decide (0 ≤ (m + 1).tmod (H.length : Int)) && decide ((m + 1).tmod (H.length : Int) < H.length)) = false := g
                         rw [tn] at hg
                         simp only [Bool.and_eq_false_iff, decide_eq_false_iff_not] at hg
                         omega)
                      | (((conv => whnf); refine bm (fun g => ?_) (fun g => ?_)))
                      | ((conv => whnf)
                         refine boL (getP H hkN ?_) ?_
                         · simp [cfgO, stdO, std]; omega)
                      | ((conv => whnf)
                         refine boL (getP H hn2 ?_) ?_
                         · show 0 + ((m + 1).tmod (H.length : Int)).toNat * 2 = _
                           rw [tn, Int.toNat_natCast, Nat.zero_add])
                    all_goals (conv => whnf)
                    · exfalso
                      exact f5 (of_decide_eq_true g)
                    · refine ⟨H.length - (k + 1), by omega, ?_⟩
                      refine Into_id (e0 := e12d l.length c H.length j (m + 1)) (h0 := h12b l H (at2 l i)) (n0 := 3) ⟨k + 1, m + 1, by omega, by omega, rfl, rfl, rfl, rfl⟩ ?_ ?_ (by decide)
                      · unfold e12d sl0 sl1
                        ((repeat' (refine List.forall_mem_cons.2 ⟨⟨rfl, ?_⟩, ?_⟩; (first | exact scT_g rfl | exact ⟨by decide, rfl⟩ | exact ⟨by decide, fun h => (by cases h)⟩))); exact fun _ h => (by cases h))
                      · unfold h12b
                        ((repeat' (refine List.forall_mem_cons.2 ⟨⟨Nat.le_of_ble_eq_true rfl, _, rfl, ?_⟩, ?_⟩; (first | exact ObjRen_g (flat_g _ _) | exact ObjRen_j rfl rfl))); exact fun _ h => (by cases h))
                  · have h3n : 3 ≤ (a0 :: b0 :: d0 :: t0).length := by simp only [List.length_cons]; omega
                    repeat' first
                      | (exfalso
                         simp only [eqb_t, eqb_f, cO_eqB, cO_notB, cO_eq, cO_lt, cO_le, cO_andB, cO_num, cO_add, cO_fits, fitsK, Bool.not_eq_true', Bool.not_eq_false', Bool.and_eq_false_iff, decide_eq_true_eq, decide_eq_false_iff_not] at g
                         omega)
                      | (((conv => whnf); refine bm (fun g => ?_) (fun g => ?_)))
                    all_goals (conv => whnf)
                    generalize a0 :: b0 :: d0 :: t0 = H at *
                    refine ⟨l.length - (i + 1), by omega, ?_⟩
                    refine Into_id (e0 := e12c l.length c H.length (j + 1)) (h0 := h12a l H) (n0 := 2) ⟨i + 1, j + 1, by omega, by omega, rfl, rfl, rfl, rfl⟩ ?_ ?_ (by decide)
                    · unfold e12c sl0 sl1
                      ((repeat' (refine List.forall_mem_cons.2 ⟨⟨rfl, ?_⟩, ?_⟩; (first | exact scT_g rfl | exact ⟨by decide, rfl⟩ | exact ⟨by decide, fun h => (by cases h)⟩))); exact fun _ h => (by cases h))
                    · unfold h12a
                      ((repeat' (refine List.forall_mem_cons.2 ⟨⟨Nat.le_of_ble_eq_true rfl, _, rfl, ?_⟩, ?_⟩; (first | exact ObjRen_g (flat_g _ _) | exact ObjRen_j rfl rfl))); exact fun _ h => (by cases h))
            · (conv => whnf)
    · have hO : hulO l = [] := by unfold hulO; rw [if_neg hE]
      have hd0 : decide (0 < l.length) = true := decide_eq_true h0
      repeat' first
        | (((conv => whnf); refine bm (fun g => ?_) (fun g => ?_)))
        | ((conv => whnf)
           rw [hO])
        | ((conv => whnf)
           refine Exists.intro l (And.intro (LsAt_own elP rfl) ?_))
      all_goals (conv => whnf)
      all_goals first
        | (exfalso
           have hg : (decide (l.length ≤ 1000000000) && decide (0 < l.length)) = false := g
           rw [hd0, decide_eq_true (by omega)] at hg
           cases hg)
        | (exfalso
           have hg : (!(decide (hulE l = 0))) = false := g
           rw [decide_eq_false hE] at hg
           cases hg)
        | rfl
end Go.Aw
