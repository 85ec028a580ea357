/-
  PlaneMoves: its body. No condition.
-/
import Derived.Test.YtmkcjbpekejgdaaGreatSe64
import Derived.Test.YtmkcjbpekejgdaaGreatSe57
import Derived.Test.YtmkcjbpekejgdaaGreatSe61
import Derived.Test.YtmkcjbpekejgdaaGreatSe42
import Derived.Test.YtmkcjbpekejgdaaGreatSeE
import Derived.Test.YtmkcjbpekejgdaaGreatSeB
import Derived.Test.YtmkcjbpekejgdaaGreatSe69
set_option linter.unusedSimpArgs false
set_option linter.unusedVariables false
noncomputable section
namespace Go.Aw
set_option maxRecDepth 100000
def e6 (l : List (Int × Int)) (c : Nat) (dx dy k : Int) (n : Nat) : List (Nat × Value) := [(0, .slice (some ⟨0, 0, none⟩) l.length c), (2, iv dx), (3, iv dy), (4, iv k), (6, .pointer (some ⟨1, 0, none⟩)), (11, .slice (some ⟨2, 0, none⟩) n n)]
def h6 (l : List (Int × Int)) (p : Int × Int) (o : List (Int × Int)) : Heap := [(0, .cells false true 2 (flat elP.fl l)), (1, .cells true false 1 [iv p.1, iv p.2]), (2, .cells true false 2 (flat elP.fl o))]
theorem fits_ex : ∃ f : IntKind → Int → Bool, f = fitsK := ⟨_, rfl⟩
/-- The check of sizes, closed to reckoning. -/
def fitsO : IntKind → Int → Bool := Classical.choose fits_ex
theorem fitsO_eq : fitsO = fitsK := Classical.choose_spec fits_ex
def stdO : Ar := { std with fits := fitsO }
theorem stdO_eq : stdO = std := by
  unfold stdO
  rw [fitsO_eq]
  rfl
def cfgO : Cfg := { A := stdO, T := tyT, FT := look ftL, PL := plF, PR := fun _ => false, X := fun _ => none, M := 0 }
theorem cfgO_ok : CfgOK Go.Proofs.Tryz.prog cfgO where
  ar := stdO_eq
  tab := tabB_ok tyT_ok
  mixed := by decide +kernel
  funcs := ft_funcs
  xs := fun _ _ h => by cases h
def bodyO (xl : List (Nat × XF)) : VC := vbody cfgO none (CX (look xl)) noY
theorem bodyO_calls {xl : List (Nat × XF)} (h : XLOK xl) : CallsOK Go.Proofs.Tryz.prog (bodyO xl) := vbody_ok cfgO_ok (CX_ok h.look) noY_ok (CX_det h.look) noY_det none
theorem cO_add (a b : Int) : cfgO.A.add a b = a + b := rfl
theorem cO_mul (a b : Int) : cfgO.A.mul a b = a * b := rfl
theorem cO_neg (a : Int) : cfgO.A.neg a = 0 - a := rfl
theorem cO_lt (a b : Int) : cfgO.A.lt a b = decide (a < b) := rfl
theorem cO_le (a b : Int) : cfgO.A.le a b = decide (a ≤ b) := rfl
theorem cO_eq (a b : Int) : cfgO.A.eq a b = decide (a = b) := rfl
theorem cO_fits (k : IntKind) (a : Int) : cfgO.A.fits k a = fitsK k a := by
  show fitsO k a = _
  rw [fitsO_eq]
theorem cO_num (a : Nat) : cfgO.A.num a = (a : Int) := rfl
theorem cO_andB (a b : Bool) : cfgO.A.andB a b = (a && b) := rfl
theorem cO_notB (a : Bool) : cfgO.A.notB a = !a := rfl
theorem cO_eqB (a b : Bool) : cfgO.A.eqB a b = (a == b) := rfl
theorem outK_pos {α : Type} (E : El α) {l : List α} {e : Option Int} {h : Heap} {nx : Nat} {K : KE} (hl : 0 < l.length) (hk : K (wrapV e (.slice (some ⟨nx, 0, none⟩) l.length l.length)) (app h [(nx, .cells true false E.sz (flat E.fl l))]) (nx + 1)) : outK E l e h nx K := by
  cases l with
  | nil => cases hl
  | cons a r => exact hk
theorem outK_nil {α : Type} (E : El α) {e : Option Int} {h : Heap} {nx : Nat} {K : KE} (hk : K (wrapV e (.slice none 0 0)) h nx) : outK E ([] : List α) e h nx K := hk
theorem LsAt_pre {α : Type} (E : El α) {l O : List α} {n c k : Nat} {wr g : Bool} {sz : Nat} {h : Heap} (hn : n = l.length) (hO : ∃ r, O = l ++ r) (hk : look h k = some (.cells wr g sz (flat E.fl O))) : LsAt E h (.slice (some ⟨k, 0, none⟩) n c) l := by
  subst hn
  obtain ⟨r, rfl⟩ := hO
  refine ⟨rfl, wr, g, sz, _, hk, ?_⟩
  rw [List.drop_zero, flat_append]
  exact List.take_left' rfl
theorem chg_zero {L : List (Int × Int)} {b : Bool} {F : Int × Int → Int × Int} (h : chgE L b F = 0) : chgO L b F = L.map F ∧ L.all rightS = true ∧ (L.map F).all rightS = true ∧ b = false := by
  unfold chgE at h
  split at h
  · cases h
  · rename_i h4
    split at h
    · rename_i h2
      exact ⟨(chg_ok h4 h2).1, h2.1, h2.2.2, h2.2.1⟩
    · cases h
theorem chg_nz {L : List (Int × Int)} {b : Bool} {F : Int × Int → Int × Int} (h : ¬ chgE L b F = 0) : chgO L b F = [] := by
  by_cases h4 : 400 < L.length
  · exact (chg_limit h4).1
  · by_cases h2 : L.all rightS = true ∧ b = false ∧ (L.map F).all rightS = true
    · exact absurd (chg_ok h4 h2).2 h
    · exact (chg_arg h4 h2).1
theorem sEt (s : Sg) : (s.1, s.2) = s := rfl
structure MvF (l : List (Int × Int)) (p : Int × Int) (F : Int × Int → Int × Int) (O : List (Int × Int)) : Prop where
  len : O.length = l.length + 1
  pre : O = l.map F ++ [F p]
  ats : ∀ i, i < l.length → at2 O i = F (at2 l i)
  last : at2 O l.length = F p
  r0 : l.all rightS = true
  r1 : (l.map F).all rightS = true
  p0 : rightS p = true
  p1 : rightS (F p) = true
theorem mvF {l : List (Int × Int)} {p : Int × Int} {F : Int × Int → Int × Int} {b : Bool} {O : List (Int × Int)} (hO : chgO (l ++ [p]) b F = O) (h : chgE (l ++ [p]) b F = 0) : MvF l p F O := by
  obtain ⟨h1, h2, h3, _⟩ := chg_zero h
  rw [hO] at h1
  rw [List.map_append] at h1 h3
  rw [List.all_append, Bool.and_eq_true] at h2 h3
  have hp : O = l.map F ++ [F p] := h1
  have hlen : O.length = l.length + 1 := by rw [hp, List.length_append, List.length_map]; rfl
  refine ⟨hlen, hp, fun i hi => ?_, ?_, h2.1, h3.1, by simpa using h2.2, by simpa using h3.2⟩
  · rw [at2_eq (by omega), at2_eq hi]
    simp only [hp]
    rw [List.getElem_append_left (by rw [List.length_map]; exact hi), List.getElem_map]
  · rw [at2_eq (by omega)]
    simp only [hp]
    rw [List.getElem_append_right (by rw [List.length_map]; exact Nat.le_refl _)]
    simp
theorem mov_facts {l : List (Int × Int)} {p : Int × Int} {x y : Int} {O : List (Int × Int)} (M : MvF l p (movF x y) O) (h4 : 4 ≤ l.length) (h40 : l.length ≤ 40) :
    MeetV (at2 O 0, at2 O 1) (at2 O 2, at2 O 3) = MeetV (at2 l 0, at2 l 1) (at2 l 2, at2 l 3) ∧ WhV (l.map (movF x y)) (at2 O l.length) = WhV l p ∧ Area2V (l.map (movF x y)) = Area2V l := by
  have a := fun i (hi : i < l.length) => all_at M.r0 hi
  have b : ∀ i, i < l.length → rightS (movF x y (at2 l i)) = true := fun i hi => by rw [← at_F (F := movF x y) l hi]; exact all_at M.r1 (by rw [List.length_map]; exact hi)
  refine ⟨?_, ?_, Area_mov (by omega) M.r0 M.r1⟩
  · rw [M.ats 0 (by omega), M.ats 1 (by omega), M.ats 2 (by omega), M.ats 3 (by omega)]
    exact MeetV_F (sim_mov x y) (s := (at2 l 0, at2 l 1)) (t := (at2 l 2, at2 l 3)) (a 0 (by omega)) (a 1 (by omega)) (a 2 (by omega)) (a 3 (by omega)) (b 0 (by omega)) (b 1 (by omega)) (b 2 (by omega)) (b 3 (by omega))
  · rw [M.last]
    exact WhV_mov M.r0 M.r1 M.p0 M.p1
theorem mir_facts {l : List (Int × Int)} {p : Int × Int} {x : Int} {O : List (Int × Int)} (M : MvF l p (mirF x) O) (h4 : 4 ≤ l.length) (h40 : l.length ≤ 40) :
    MeetV (at2 O 0, at2 O 1) (at2 O 2, at2 O 3) = MeetV (at2 l 0, at2 l 1) (at2 l 2, at2 l 3) ∧ WhV (l.map (mirF x)) (at2 O l.length) = WhV l p ∧ Area2V (l.map (mirF x)) = -Area2V l := by
  have a := fun i (hi : i < l.length) => all_at M.r0 hi
  have b : ∀ i, i < l.length → rightS (mirF x (at2 l i)) = true := fun i hi => by rw [← at_F (F := mirF x) l hi]; exact all_at M.r1 (by rw [List.length_map]; exact hi)
  refine ⟨?_, ?_, Area_mir (by omega) M.r0 M.r1⟩
  · rw [M.ats 0 (by omega), M.ats 1 (by omega), M.ats 2 (by omega), M.ats 3 (by omega)]
    exact MeetV_F (sim_mir x) (s := (at2 l 0, at2 l 1)) (t := (at2 l 2, at2 l 3)) (a 0 (by omega)) (a 1 (by omega)) (a 2 (by omega)) (a 3 (by omega)) (b 0 (by omega)) (b 1 (by omega)) (b 2 (by omega)) (b 3 (by omega))
  · rw [M.last]
    exact WhV_mir M.r0 M.r1 M.p0 M.p1
theorem all_cells (l : List (Int × Int)) (p : Int × Int) : List.take ((0 + l.length) * 2) (List.drop 0 (List.take (0 * 2) (List.drop 0 (rep 0 [iv 0, iv 0])) ++ List.take (l.length * 2) (List.drop 0 (flat elP.fl l)))) ++ List.take (1 * 2) (List.drop 0 (setN (rep 1 [iv 0, iv 0]) (0 * 2) [iv p.1, iv p.2])) = flat elP.fl (l ++ [p]) := by
  have h1 : List.take (l.length * 2) (flat elP.fl l) = flat elP.fl l := List.take_of_length_le (by rw [flat_len]; exact Nat.le_refl _)
  rw [List.drop_zero, List.drop_zero, List.drop_zero, List.drop_zero, h1, Nat.zero_add, Nat.zero_mul, List.take_zero, List.nil_append, h1, flat_append]
  rfl
theorem all_len (l : List (Int × Int)) : (List.take (0 * 2) (List.drop 0 (rep 0 [iv 0, iv 0])) ++ List.take (l.length * 2) (List.drop 0 (flat elP.fl l))).length = l.length * 2 := by
  have h1 : List.take (l.length * 2) (flat elP.fl l) = flat elP.fl l := List.take_of_length_le (by rw [flat_len]; exact Nat.le_refl _)
  rw [List.drop_zero, List.drop_zero, h1, Nat.zero_mul, List.take_zero, List.nil_append, flat_len]
  rfl
theorem area_bound {l : List (Int × Int)} (hr : l.all rightS = true) (h40 : l.length ≤ 40) : -8000000000 ≤ Area2V l ∧ Area2V l ≤ 8000000000 := by
  have h := areaI_B hr l.length (Nat.le_refl _)
  rw [Area_V (by omega) hr]
  omega
theorem enl_facts {l : List (Int × Int)} {p : Int × Int} {k : Int} {O : List (Int × Int)} (M : MvF l p (enlF k) O) (hb : [k, 0, k, 0].any outI = false) (h40 : l.length ≤ 40) :
    Area2V (l.map (enlF k)) = k * k * Area2V l ∧ (k ≠ 0 → WhV (l.map (enlF k)) (at2 O l.length) = WhV l p) ∧ (-20000 ≤ k ∧ k ≤ 20000) := by
  refine ⟨Area_enl (by omega) M.r0 M.r1, fun hk => ?_, ?_⟩
  · rw [M.last]
    exact WhV_enl hk M.r0 M.r1 M.p0 M.p1
  · simp only [List.any_cons, List.any_nil, outI, Bool.or_eq_false_iff, decide_eq_false_iff_not] at hb
    omega
set_option maxHeartbeats 4000000 in
attribute [local irreducible] MeetV WhV Area2V chgO chgE outK in
theorem law6 (l : List (Int × Int)) (p : Int × Int) (dx dy k : Int) (c : Nat) : bodyO [X19, X22, X40, X34, X42, X44, X46] 6 [.slice (some ⟨0, 0, none⟩) l.length c, ptv p, iv dx, iv dy, iv k] [(0, .cells false true 2 (flat elP.fl l))] 1 (fun u _ _ => u = .bool true) := by
  ((conv => whnf); refine bm (fun h1 => ?_) (fun h1 => ?_))
  · ((conv => whnf); refine bm (fun h2 => ?_) (fun h2 => ?_))
    · (conv => whnf)
    · have hl40 : l.length ≤ 40 := by
        simp only [cO_lt, cO_num, cO_eqB, beq_iff_eq, beq_eq_false_iff_ne, ne_eq, Bool.not_eq_false, Bool.not_eq_true, decide_eq_true_eq, decide_eq_false_iff_not] at *
        omega
      have hl4 : 4 ≤ l.length := by
        simp only [cO_lt, cO_num, cO_eqB, beq_iff_eq, beq_eq_false_iff_ne, ne_eq, Bool.not_eq_false, Bool.not_eq_true, decide_eq_true_eq, decide_eq_false_iff_not] at *
        omega
      (conv => whnf)
      refine ⟨fun e h nx => e = e6 l c dx dy k (l.length + 1) ∧ h = h6 l p (l ++ [p]) ∧ nx = 3, ?_, ?_⟩
      · clear h1 h2
        have hs1 : Nat.ble (l.length * 2) (flat elP.fl l).length = true := by rw [flat_len]; exact Nat.ble_eq_true_of_le (Nat.le_refl _)
        repeat' first
          | (exfalso
             have hx : Nat.ble (0 + l.length) 0 = true := g
             have := Nat.le_of_ble_eq_true hx
             omega)
          | (exfalso
             have hx : Nat.ble (0 + l.length + 1) (0 + l.length) = true := g
             have := Nat.le_of_ble_eq_true hx
             omega)
          | (exfalso
             have hx : Nat.ble (0 + l.length * 2) (flat elP.fl l).length = false := g
             rw [Nat.zero_add, hs1] at hx
             cases hx)
          | (((conv => whnf); refine bm (fun g => ?_) (fun g => ?_)))
          | ((conv => whnf)
             refine And.intro ?_ ?_)
        all_goals (conv => whnf)
        all_goals first
          | (refine Into_mv (e0 := e6 l c dx dy k (l.length + 1)) (h0 := h6 l p (l ++ [p])) (n0 := 3) 2 5 (by decide) (by decide) ⟨rfl, rfl, rfl⟩ ?_ ?_ ?_
             · unfold e6
               rw [show l.length + 1 = 0 + l.length + 1 by omega]
               ((repeat' (refine List.forall_mem_cons.2 ⟨⟨rfl, ?_⟩, ?_⟩; (first | exact scT_g rfl | exact ⟨by decide, rfl⟩ | exact ⟨by decide, fun h => (by cases h)⟩))); exact fun _ h => (by cases h))
             · unfold h6
               ((repeat' (refine List.forall_mem_cons.2 ⟨⟨Nat.le_of_ble_eq_true rfl, _, rfl, ?_⟩, ?_⟩; (first | exact (ObjRen_j (flat_g elP _) (all_cells l p)) | exact ObjRen_g (flat_g _ _) | exact ObjRen_j rfl rfl))); exact fun _ h => (by cases h))
             · unfold h6
               ((repeat' (refine List.forall_mem_cons.2 ⟨?_, ?_⟩; (intro _ h; revert h; simp))); exact fun _ h => (by cases h)))
          | (exfalso
             have hx : (((Nat.ble (0 + l.length) 1000000000) && (Nat.ble (0 + 0 * 2) (rep 0 [iv 0, iv 0]).length)) && (Nat.beq (0 + 0 * 2) (rep 0 [iv 0, iv 0]).length && Nat.beq 2 2)) = false := g
             rw [Nat.ble_eq_true_of_le (show 0 + l.length ≤ 1000000000 by omega)] at hx
             cases hx)
          | (exfalso
             have hx : (((Nat.ble (0 + l.length + 1) 1000000000) && (Nat.ble (0 + (0 + l.length) * 2) (List.take (0 * 2) (List.drop 0 (rep 0 [iv 0, iv 0])) ++ List.take (l.length * 2) (List.drop 0 (flat elP.fl l))).length)) && (Nat.beq (0 + (0 + l.length) * 2) (List.take (0 * 2) (List.drop 0 (rep 0 [iv 0, iv 0])) ++ List.take (l.length * 2) (List.drop 0 (flat elP.fl l))).length && Nat.beq 2 2)) = false := g
             rw [all_len, Nat.ble_eq_true_of_le (show 0 + l.length + 1 ≤ 1000000000 by omega), Nat.ble_eq_true_of_le (show 0 + (0 + l.length) * 2 ≤ l.length * 2 by omega), show 0 + (0 + l.length) * 2 = l.length * 2 by omega, Nat.beq_refl] at hx
             cases hx)
          | trace_state
      · rintro e h nx ⟨rfl, rfl, rfl⟩
        clear h1 h2
        unfold e6 h6
        have hd : l.length ≤ 1000000000 := by omega
        have hL : (l ++ [p]).length = l.length + 1 := by rw [List.length_append]; rfl
        have q0 : 0 < l.length := by omega
        have q1 : 1 < l.length := by omega
        have q2 : 2 < l.length := by omega
        have q3 : 3 < l.length := by omega
        repeat' ((conv => whnf)
                 first
                   | ((refine bm (fun g => ?_) (fun g => ?_)) <;> try (first
                        | (exfalso
                           simp only [cO_le, cO_lt, cO_andB, cO_num, cO_fits, cO_add, fitsK, cO_eq, cO_eqB, cO_notB, Bool.and_eq_false_iff, Bool.and_eq_true, Bool.not_eq_true', Bool.not_eq_false', Bool.not_eq_true, Bool.not_eq_false, beq_iff_eq, beq_eq_false_iff_ne, ne_eq, decide_eq_false_iff_not, decide_eq_true_eq, not_true_eq_false, not_false_eq_true, Bool.not_true, Bool.not_false, Bool.true_eq_false, Bool.false_eq_true, decide_true, cO_mul, cO_neg, pEta, sEt, List.length_append, List.length_cons, List.length_nil, List.length_map] at g <;> omega)
                        ))
                   | (refine boL (getP l q0 rfl) ?_)
                   | (refine boL (getP l q1 rfl) ?_)
                   | (refine boL (getP l q2 rfl) ?_)
                   | (refine boL (getP l q3 rfl) ?_)
                   | (refine Exists.intro l (And.intro (LsAt_own elP rfl) ?_))
                   | (refine Exists.intro (l ++ [p]) (And.intro (LsAt_n elP hL.symm rfl) ?_))
                 )
        generalize hN' : cfgO.A.num l.length = N
        have hN : N = (l.length : Int) := hN'.symm
        clear hN'
        clear g
        obtain ⟨E1, hE1⟩ : ∃ E, chgE (l ++ [p]) ([1, dx, 1, dy].any outI) (affF 1 dx 1 dy) = E := ⟨_, rfl⟩
        obtain ⟨O1, hO1⟩ : ∃ O, chgO (l ++ [p]) ([1, dx, 1, dy].any outI) (affF 1 dx 1 dy) = O := ⟨_, rfl⟩
        rw [hE1, hO1]
        by_cases z1 : E1 = 0
        · rw [movF_aff] at hE1 hO1
          rw [z1] at hE1 ⊢
          have M1 := mvF hO1 hE1
          obtain ⟨m1, w1, a1⟩ := mov_facts M1 hl4 hl40
          have n1 := M1.len
          obtain ⟨b1, b2⟩ := area_bound M1.r0 hl40
          clear hE1 hO1
          show outK elP O1 (some 0) _ _ _
          refine outK_pos elP (by omega) ?_
          repeat' ((conv => whnf)
                   first
                     | ((refine bm (fun g => ?_) (fun g => ?_)) <;> try (first
                          | (exfalso
                             simp only [cO_le, cO_lt, cO_andB, cO_num, cO_fits, cO_add, fitsK, cO_eq, cO_eqB, cO_notB, Bool.and_eq_false_iff, Bool.and_eq_true, Bool.not_eq_true', Bool.not_eq_false', Bool.not_eq_true, Bool.not_eq_false, beq_iff_eq, beq_eq_false_iff_ne, ne_eq, decide_eq_false_iff_not, decide_eq_true_eq, not_true_eq_false, not_false_eq_true, Bool.not_true, Bool.not_false, Bool.true_eq_false, Bool.false_eq_true, decide_true, cO_mul, cO_neg, pEta, sEt, List.length_append, List.length_cons, List.length_nil, List.length_map, m1, w1, a1, n1] at g <;> omega)
                          ))
                     | (refine boL (getP l q0 rfl) ?_)
                     | (refine boL (getP l q1 rfl) ?_)
                     | (refine boL (getP l q2 rfl) ?_)
                     | (refine boL (getP l q3 rfl) ?_)
                     | (refine Exists.intro l (And.intro (LsAt_own elP rfl) ?_))
                     | (refine Exists.intro (l ++ [p]) (And.intro (LsAt_n elP hL.symm rfl) ?_))
                     | (refine boL (getP O1 (show 0 < O1.length by omega) rfl) ?_)
                     | (refine boL (getP O1 (show 1 < O1.length by omega) rfl) ?_)
                     | (refine boL (getP O1 (show 2 < O1.length by omega) rfl) ?_)
                     | (refine boL (getP O1 (show 3 < O1.length by omega) rfl) ?_)
                     | (refine boL (getP O1 (show l.length < O1.length by omega) (show 0 + N.toNat * 2 = l.length * 2 by omega)) ?_)
                     | (refine Exists.intro (l.map (movF dx dy)) (And.intro (LsAt_pre elP (show N.toNat = (l.map (movF dx dy)).length by rw [List.length_map]; omega) ⟨_, M1.pre⟩ rfl) ?_))
                   )
          clear g
          obtain ⟨E2, hE2⟩ : ∃ E, chgE (l ++ [p]) ([-1, dx, 1, 0].any outI) (affF (-1) dx 1 0) = E := ⟨_, rfl⟩
          obtain ⟨O2, hO2⟩ : ∃ O, chgO (l ++ [p]) ([-1, dx, 1, 0].any outI) (affF (-1) dx 1 0) = O := ⟨_, rfl⟩
          rw [hE2, hO2]
          by_cases z2 : E2 = 0
          · rw [mirF_aff] at hE2 hO2
            rw [z2] at hE2 ⊢
            have M2 := mvF hO2 hE2
            obtain ⟨m2, w2, a2⟩ := mir_facts M2 hl4 hl40
            have n2 := M2.len
            obtain ⟨b1, b2⟩ := area_bound M2.r0 hl40
            clear hE2 hO2
            show outK elP O2 (some 0) _ _ _
            refine outK_pos elP (by omega) ?_
            repeat' ((conv => whnf)
                     first
                       | ((refine bm (fun g => ?_) (fun g => ?_)) <;> try (first
                            | (exfalso
                               simp only [cO_le, cO_lt, cO_andB, cO_num, cO_fits, cO_add, fitsK, cO_eq, cO_eqB, cO_notB, Bool.and_eq_false_iff, Bool.and_eq_true, Bool.not_eq_true', Bool.not_eq_false', Bool.not_eq_true, Bool.not_eq_false, beq_iff_eq, beq_eq_false_iff_ne, ne_eq, decide_eq_false_iff_not, decide_eq_true_eq, not_true_eq_false, not_false_eq_true, Bool.not_true, Bool.not_false, Bool.true_eq_false, Bool.false_eq_true, decide_true, cO_mul, cO_neg, pEta, sEt, List.length_append, List.length_cons, List.length_nil, List.length_map, m2, w2, a2, n2] at g <;> omega)
                            ))
                       | (refine boL (getP l q0 rfl) ?_)
                       | (refine boL (getP l q1 rfl) ?_)
                       | (refine boL (getP l q2 rfl) ?_)
                       | (refine boL (getP l q3 rfl) ?_)
                       | (refine Exists.intro l (And.intro (LsAt_own elP rfl) ?_))
                       | (refine Exists.intro (l ++ [p]) (And.intro (LsAt_n elP hL.symm rfl) ?_))
                       | (refine boL (getP O2 (show 0 < O2.length by omega) rfl) ?_)
                       | (refine boL (getP O2 (show 1 < O2.length by omega) rfl) ?_)
                       | (refine boL (getP O2 (show 2 < O2.length by omega) rfl) ?_)
                       | (refine boL (getP O2 (show 3 < O2.length by omega) rfl) ?_)
                       | (refine boL (getP O2 (show l.length < O2.length by omega) (show 0 + N.toNat * 2 = l.length * 2 by omega)) ?_)
                       | (refine Exists.intro (l.map (mirF dx)) (And.intro (LsAt_pre elP (show N.toNat = (l.map (mirF dx)).length by rw [List.length_map]; omega) ⟨_, M2.pre⟩ rfl) ?_))
                     )
            clear g
            obtain ⟨E3, hE3⟩ : ∃ E, chgE (l ++ [p]) ([k, 0, k, 0].any outI) (affF k 0 k 0) = E := ⟨_, rfl⟩
            obtain ⟨O3, hO3⟩ : ∃ O, chgO (l ++ [p]) ([k, 0, k, 0].any outI) (affF k 0 k 0) = O := ⟨_, rfl⟩
            rw [hE3, hO3]
            by_cases z3 : E3 = 0
            · rw [enlF_aff] at hE3 hO3
              rw [z3] at hE3 ⊢
              have M3 := mvF hO3 hE3
              obtain ⟨a3, w3, k1, k2⟩ := enl_facts M3 (chg_zero hE3).2.2.2 hl40
              have n3 := M3.len
              obtain ⟨b1, b2⟩ := area_bound M3.r0 hl40
              have kk := mulB (a := k) (b := k) (A := 20000) (B := 20000) (by omega) (by omega) (by omega) (by omega)
              have kka := mulB (a := k * k) (b := Area2V l) (A := 400000000) (B := 8000000000) (by omega) (by omega) (by omega) (by omega)
              clear hE3 hO3
              show outK elP O3 (some 0) _ _ _
              refine outK_pos elP (by omega) ?_
              by_cases hk0 : k = 0
              · repeat' ((conv => whnf)
                         first
                           | ((refine bm (fun g => ?_) (fun g => ?_)) <;> try (first
                                | (exfalso
                                   simp only [cO_le, cO_lt, cO_andB, cO_num, cO_fits, cO_add, fitsK, cO_eq, cO_eqB, cO_notB, Bool.and_eq_false_iff, Bool.and_eq_true, Bool.not_eq_true', Bool.not_eq_false', Bool.not_eq_true, Bool.not_eq_false, beq_iff_eq, beq_eq_false_iff_ne, ne_eq, decide_eq_false_iff_not, decide_eq_true_eq, not_true_eq_false, not_false_eq_true, Bool.not_true, Bool.not_false, Bool.true_eq_false, Bool.false_eq_true, decide_true, cO_mul, cO_neg, pEta, sEt, List.length_append, List.length_cons, List.length_nil, List.length_map, a3, n3] at g <;> omega)
                                ))
                           | (refine boL (getP l q0 rfl) ?_)
                           | (refine boL (getP l q1 rfl) ?_)
                           | (refine boL (getP l q2 rfl) ?_)
                           | (refine boL (getP l q3 rfl) ?_)
                           | (refine Exists.intro l (And.intro (LsAt_own elP rfl) ?_))
                           | (refine Exists.intro (l ++ [p]) (And.intro (LsAt_n elP hL.symm rfl) ?_))
                           | (refine boL (getP O3 (show 0 < O3.length by omega) rfl) ?_)
                           | (refine boL (getP O3 (show 1 < O3.length by omega) rfl) ?_)
                           | (refine boL (getP O3 (show 2 < O3.length by omega) rfl) ?_)
                           | (refine boL (getP O3 (show 3 < O3.length by omega) rfl) ?_)
                           | (refine boL (getP O3 (show l.length < O3.length by omega) (show 0 + N.toNat * 2 = l.length * 2 by omega)) ?_)
                           | (refine Exists.intro (l.map (enlF k)) (And.intro (LsAt_pre elP (show N.toNat = (l.map (enlF k)).length by rw [List.length_map]; omega) ⟨_, M3.pre⟩ rfl) ?_))
                         )
                all_goals (conv => whnf)
                all_goals first
                  | rfl
                  | (simp only [cO_eq, pEta, sEt, decide_true]; done)
                  | trace_state
              · have w3 := w3 hk0
                repeat' ((conv => whnf)
                         first
                           | ((refine bm (fun g => ?_) (fun g => ?_)) <;> try (first
                                | (exfalso
                                   simp only [cO_le, cO_lt, cO_andB, cO_num, cO_fits, cO_add, fitsK, cO_eq, cO_eqB, cO_notB, Bool.and_eq_false_iff, Bool.and_eq_true, Bool.not_eq_true', Bool.not_eq_false', Bool.not_eq_true, Bool.not_eq_false, beq_iff_eq, beq_eq_false_iff_ne, ne_eq, decide_eq_false_iff_not, decide_eq_true_eq, not_true_eq_false, not_false_eq_true, Bool.not_true, Bool.not_false, Bool.true_eq_false, Bool.false_eq_true, decide_true, cO_mul, cO_neg, pEta, sEt, List.length_append, List.length_cons, List.length_nil, List.length_map, a3, w3, n3] at g <;> omega)
                                ))
                           | (refine boL (getP l q0 rfl) ?_)
                           | (refine boL (getP l q1 rfl) ?_)
                           | (refine boL (getP l q2 rfl) ?_)
                           | (refine boL (getP l q3 rfl) ?_)
                           | (refine Exists.intro l (And.intro (LsAt_own elP rfl) ?_))
                           | (refine Exists.intro (l ++ [p]) (And.intro (LsAt_n elP hL.symm rfl) ?_))
                           | (refine boL (getP O3 (show 0 < O3.length by omega) rfl) ?_)
                           | (refine boL (getP O3 (show 1 < O3.length by omega) rfl) ?_)
                           | (refine boL (getP O3 (show 2 < O3.length by omega) rfl) ?_)
                           | (refine boL (getP O3 (show 3 < O3.length by omega) rfl) ?_)
                           | (refine boL (getP O3 (show l.length < O3.length by omega) (show 0 + N.toNat * 2 = l.length * 2 by omega)) ?_)
                           | (refine Exists.intro (l.map (enlF k)) (And.intro (LsAt_pre elP (show N.toNat = (l.map (enlF k)).length by rw [List.length_map]; omega) ⟨_, M3.pre⟩ rfl) ?_))
                         )
                all_goals (conv => whnf)
                all_goals first
                  | rfl
                  | (simp only [cO_eq, pEta, sEt, w3, decide_true]; done)
                  | trace_state
            · rw [chg_nz (by rw [hE3]; exact z3)] at hO3
              rw [← hO3]
              clear hE3 hO3
              show outK elP [] (some E3) _ _ _
              refine outK_nil elP ?_
              repeat' ((conv => whnf)
                       first
                         | ((refine bm (fun g => ?_) (fun g => ?_)) <;> try (first
                              | (exfalso
                                 simp only [cO_le, cO_lt, cO_andB, cO_num, cO_fits, cO_add, fitsK, cO_eq, cO_eqB, cO_notB, Bool.and_eq_false_iff, Bool.and_eq_true, Bool.not_eq_true', Bool.not_eq_false', Bool.not_eq_true, Bool.not_eq_false, beq_iff_eq, beq_eq_false_iff_ne, ne_eq, decide_eq_false_iff_not, decide_eq_true_eq, not_true_eq_false, not_false_eq_true, Bool.not_true, Bool.not_false, Bool.true_eq_false, Bool.false_eq_true, decide_true, cO_mul, cO_neg, pEta, sEt, List.length_append, List.length_cons, List.length_nil, List.length_map] at g <;> omega)
                              ))
                         | (refine boL (getP l q0 rfl) ?_)
                         | (refine boL (getP l q1 rfl) ?_)
                         | (refine boL (getP l q2 rfl) ?_)
                         | (refine boL (getP l q3 rfl) ?_)
                         | (refine Exists.intro l (And.intro (LsAt_own elP rfl) ?_))
                         | (refine Exists.intro (l ++ [p]) (And.intro (LsAt_n elP hL.symm rfl) ?_))
                       )
              all_goals (conv => whnf)
              all_goals first
                | rfl
                | trace_state
          · rw [chg_nz (by rw [hE2]; exact z2)] at hO2
            rw [← hO2]
            clear hE2 hO2
            show outK elP [] (some E2) _ _ _
            refine outK_nil elP ?_
            repeat' ((conv => whnf)
                     first
                       | ((refine bm (fun g => ?_) (fun g => ?_)) <;> try (first
                            | (exfalso
                               simp only [cO_le, cO_lt, cO_andB, cO_num, cO_fits, cO_add, fitsK, cO_eq, cO_eqB, cO_notB, Bool.and_eq_false_iff, Bool.and_eq_true, Bool.not_eq_true', Bool.not_eq_false', Bool.not_eq_true, Bool.not_eq_false, beq_iff_eq, beq_eq_false_iff_ne, ne_eq, decide_eq_false_iff_not, decide_eq_true_eq, not_true_eq_false, not_false_eq_true, Bool.not_true, Bool.not_false, Bool.true_eq_false, Bool.false_eq_true, decide_true, cO_mul, cO_neg, pEta, sEt, List.length_append, List.length_cons, List.length_nil, List.length_map] at g <;> omega)
                            ))
                       | (refine boL (getP l q0 rfl) ?_)
                       | (refine boL (getP l q1 rfl) ?_)
                       | (refine boL (getP l q2 rfl) ?_)
                       | (refine boL (getP l q3 rfl) ?_)
                       | (refine Exists.intro l (And.intro (LsAt_own elP rfl) ?_))
                       | (refine Exists.intro (l ++ [p]) (And.intro (LsAt_n elP hL.symm rfl) ?_))
                     )
            clear g
            obtain ⟨E3, hE3⟩ : ∃ E, chgE (l ++ [p]) ([k, 0, k, 0].any outI) (affF k 0 k 0) = E := ⟨_, rfl⟩
            obtain ⟨O3, hO3⟩ : ∃ O, chgO (l ++ [p]) ([k, 0, k, 0].any outI) (affF k 0 k 0) = O := ⟨_, rfl⟩
            rw [hE3, hO3]
            by_cases z3 : E3 = 0
            · rw [enlF_aff] at hE3 hO3
              rw [z3] at hE3 ⊢
              have M3 := mvF hO3 hE3
              obtain ⟨a3, w3, k1, k2⟩ := enl_facts M3 (chg_zero hE3).2.2.2 hl40
              have n3 := M3.len
              obtain ⟨b1, b2⟩ := area_bound M3.r0 hl40
              have kk := mulB (a := k) (b := k) (A := 20000) (B := 20000) (by omega) (by omega) (by omega) (by omega)
              have kka := mulB (a := k * k) (b := Area2V l) (A := 400000000) (B := 8000000000) (by omega) (by omega) (by omega) (by omega)
              clear hE3 hO3
              show outK elP O3 (some 0) _ _ _
              refine outK_pos elP (by omega) ?_
              by_cases hk0 : k = 0
              · repeat' ((conv => whnf)
                         first
                           | ((refine bm (fun g => ?_) (fun g => ?_)) <;> try (first
                                | (exfalso
                                   simp only [cO_le, cO_lt, cO_andB, cO_num, cO_fits, cO_add, fitsK, cO_eq, cO_eqB, cO_notB, Bool.and_eq_false_iff, Bool.and_eq_true, Bool.not_eq_true', Bool.not_eq_false', Bool.not_eq_true, Bool.not_eq_false, beq_iff_eq, beq_eq_false_iff_ne, ne_eq, decide_eq_false_iff_not, decide_eq_true_eq, not_true_eq_false, not_false_eq_true, Bool.not_true, Bool.not_false, Bool.true_eq_false, Bool.false_eq_true, decide_true, cO_mul, cO_neg, pEta, sEt, List.length_append, List.length_cons, List.length_nil, List.length_map, a3, n3] at g <;> omega)
                                ))
                           | (refine boL (getP l q0 rfl) ?_)
                           | (refine boL (getP l q1 rfl) ?_)
                           | (refine boL (getP l q2 rfl) ?_)
                           | (refine boL (getP l q3 rfl) ?_)
                           | (refine Exists.intro l (And.intro (LsAt_own elP rfl) ?_))
                           | (refine Exists.intro (l ++ [p]) (And.intro (LsAt_n elP hL.symm rfl) ?_))
                           | (refine boL (getP O3 (show 0 < O3.length by omega) rfl) ?_)
                           | (refine boL (getP O3 (show 1 < O3.length by omega) rfl) ?_)
                           | (refine boL (getP O3 (show 2 < O3.length by omega) rfl) ?_)
                           | (refine boL (getP O3 (show 3 < O3.length by omega) rfl) ?_)
                           | (refine boL (getP O3 (show l.length < O3.length by omega) (show 0 + N.toNat * 2 = l.length * 2 by omega)) ?_)
                           | (refine Exists.intro (l.map (enlF k)) (And.intro (LsAt_pre elP (show N.toNat = (l.map (enlF k)).length by rw [List.length_map]; omega) ⟨_, M3.pre⟩ rfl) ?_))
                         )
                all_goals (conv => whnf)
                all_goals first
                  | rfl
                  | (simp only [cO_eq, pEta, sEt, decide_true]; done)
                  | trace_state
              · have w3 := w3 hk0
                repeat' ((conv => whnf)
                         first
                           | ((refine bm (fun g => ?_) (fun g => ?_)) <;> try (first
                                | (exfalso
                                   simp only [cO_le, cO_lt, cO_andB, cO_num, cO_fits, cO_add, fitsK, cO_eq, cO_eqB, cO_notB, Bool.and_eq_false_iff, Bool.and_eq_true, Bool.not_eq_true', Bool.not_eq_false', Bool.not_eq_true, Bool.not_eq_false, beq_iff_eq, beq_eq_false_iff_ne, ne_eq, decide_eq_false_iff_not, decide_eq_true_eq, not_true_eq_false, not_false_eq_true, Bool.not_true, Bool.not_false, Bool.true_eq_false, Bool.false_eq_true, decide_true, cO_mul, cO_neg, pEta, sEt, List.length_append, List.length_cons, List.length_nil, List.length_map, a3, w3, n3] at g <;> omega)
                                ))
                           | (refine boL (getP l q0 rfl) ?_)
                           | (refine boL (getP l q1 rfl) ?_)
                           | (refine boL (getP l q2 rfl) ?_)
                           | (refine boL (getP l q3 rfl) ?_)
                           | (refine Exists.intro l (And.intro (LsAt_own elP rfl) ?_))
                           | (refine Exists.intro (l ++ [p]) (And.intro (LsAt_n elP hL.symm rfl) ?_))
                           | (refine boL (getP O3 (show 0 < O3.length by omega) rfl) ?_)
                           | (refine boL (getP O3 (show 1 < O3.length by omega) rfl) ?_)
                           | (refine boL (getP O3 (show 2 < O3.length by omega) rfl) ?_)
                           | (refine boL (getP O3 (show 3 < O3.length by omega) rfl) ?_)
                           | (refine boL (getP O3 (show l.length < O3.length by omega) (show 0 + N.toNat * 2 = l.length * 2 by omega)) ?_)
                           | (refine Exists.intro (l.map (enlF k)) (And.intro (LsAt_pre elP (show N.toNat = (l.map (enlF k)).length by rw [List.length_map]; omega) ⟨_, M3.pre⟩ rfl) ?_))
                         )
                all_goals (conv => whnf)
                all_goals first
                  | rfl
                  | (simp only [cO_eq, pEta, sEt, w3, decide_true]; done)
                  | trace_state
            · rw [chg_nz (by rw [hE3]; exact z3)] at hO3
              rw [← hO3]
              clear hE3 hO3
              show outK elP [] (some E3) _ _ _
              refine outK_nil elP ?_
              repeat' ((conv => whnf)
                       first
                         | ((refine bm (fun g => ?_) (fun g => ?_)) <;> try (first
                              | (exfalso
                                 simp only [cO_le, cO_lt, cO_andB, cO_num, cO_fits, cO_add, fitsK, cO_eq, cO_eqB, cO_notB, Bool.and_eq_false_iff, Bool.and_eq_true, Bool.not_eq_true', Bool.not_eq_false', Bool.not_eq_true, Bool.not_eq_false, beq_iff_eq, beq_eq_false_iff_ne, ne_eq, decide_eq_false_iff_not, decide_eq_true_eq, not_true_eq_false, not_false_eq_true, Bool.not_true, Bool.not_false, Bool.true_eq_false, Bool.false_eq_true, decide_true, cO_mul, cO_neg, pEta, sEt, List.length_append, List.length_cons, List.length_nil, List.length_map] at g <;> omega)
                              ))
                         | (refine boL (getP l q0 rfl) ?_)
                         | (refine boL (getP l q1 rfl) ?_)
                         | (refine boL (getP l q2 rfl) ?_)
                         | (refine boL (getP l q3 rfl) ?_)
                         | (refine Exists.intro l (And.intro (LsAt_own elP rfl) ?_))
                         | (refine Exists.intro (l ++ [p]) (And.intro (LsAt_n elP hL.symm rfl) ?_))
                       )
              all_goals (conv => whnf)
              all_goals first
                | rfl
                | trace_state
        · rw [chg_nz (by rw [hE1]; exact z1)] at hO1
          rw [← hO1]
          clear hE1 hO1
          show outK elP [] (some E1) _ _ _
          refine outK_nil elP ?_
          repeat' ((conv => whnf)
                   first
                     | ((refine bm (fun g => ?_) (fun g => ?_)) <;> try (first
                          | (exfalso
                             simp only [cO_le, cO_lt, cO_andB, cO_num, cO_fits, cO_add, fitsK, cO_eq, cO_eqB, cO_notB, Bool.and_eq_false_iff, Bool.and_eq_true, Bool.not_eq_true', Bool.not_eq_false', Bool.not_eq_true, Bool.not_eq_false, beq_iff_eq, beq_eq_false_iff_ne, ne_eq, decide_eq_false_iff_not, decide_eq_true_eq, not_true_eq_false, not_false_eq_true, Bool.not_true, Bool.not_false, Bool.true_eq_false, Bool.false_eq_true, decide_true, cO_mul, cO_neg, pEta, sEt, List.length_append, List.length_cons, List.length_nil, List.length_map] at g <;> omega)
                          ))
                     | (refine boL (getP l q0 rfl) ?_)
                     | (refine boL (getP l q1 rfl) ?_)
                     | (refine boL (getP l q2 rfl) ?_)
                     | (refine boL (getP l q3 rfl) ?_)
                     | (refine Exists.intro l (And.intro (LsAt_own elP rfl) ?_))
                     | (refine Exists.intro (l ++ [p]) (And.intro (LsAt_n elP hL.symm rfl) ?_))
                   )
          clear g
          obtain ⟨E2, hE2⟩ : ∃ E, chgE (l ++ [p]) ([-1, dx, 1, 0].any outI) (affF (-1) dx 1 0) = E := ⟨_, rfl⟩
          obtain ⟨O2, hO2⟩ : ∃ O, chgO (l ++ [p]) ([-1, dx, 1, 0].any outI) (affF (-1) dx 1 0) = O := ⟨_, rfl⟩
          rw [hE2, hO2]
          by_cases z2 : E2 = 0
          · rw [mirF_aff] at hE2 hO2
            rw [z2] at hE2 ⊢
            have M2 := mvF hO2 hE2
            obtain ⟨m2, w2, a2⟩ := mir_facts M2 hl4 hl40
            have n2 := M2.len
            obtain ⟨b1, b2⟩ := area_bound M2.r0 hl40
            clear hE2 hO2
            show outK elP O2 (some 0) _ _ _
            refine outK_pos elP (by omega) ?_
            repeat' ((conv => whnf)
                     first
                       | ((refine bm (fun g => ?_) (fun g => ?_)) <;> try (first
                            | (exfalso
                               simp only [cO_le, cO_lt, cO_andB, cO_num, cO_fits, cO_add, fitsK, cO_eq, cO_eqB, cO_notB, Bool.and_eq_false_iff, Bool.and_eq_true, Bool.not_eq_true', Bool.not_eq_false', Bool.not_eq_true, Bool.not_eq_false, beq_iff_eq, beq_eq_false_iff_ne, ne_eq, decide_eq_false_iff_not, decide_eq_true_eq, not_true_eq_false, not_false_eq_true, Bool.not_true, Bool.not_false, Bool.true_eq_false, Bool.false_eq_true, decide_true, cO_mul, cO_neg, pEta, sEt, List.length_append, List.length_cons, List.length_nil, List.length_map, m2, w2, a2, n2] at g <;> omega)
                            ))
                       | (refine boL (getP l q0 rfl) ?_)
                       | (refine boL (getP l q1 rfl) ?_)
                       | (refine boL (getP l q2 rfl) ?_)
                       | (refine boL (getP l q3 rfl) ?_)
                       | (refine Exists.intro l (And.intro (LsAt_own elP rfl) ?_))
                       | (refine Exists.intro (l ++ [p]) (And.intro (LsAt_n elP hL.symm rfl) ?_))
                       | (refine boL (getP O2 (show 0 < O2.length by omega) rfl) ?_)
                       | (refine boL (getP O2 (show 1 < O2.length by omega) rfl) ?_)
                       | (refine boL (getP O2 (show 2 < O2.length by omega) rfl) ?_)
                       | (refine boL (getP O2 (show 3 < O2.length by omega) rfl) ?_)
                       | (refine boL (getP O2 (show l.length < O2.length by omega) (show 0 + N.toNat * 2 = l.length * 2 by omega)) ?_)
                       | (refine Exists.intro (l.map (mirF dx)) (And.intro (LsAt_pre elP (show N.toNat = (l.map (mirF dx)).length by rw [List.length_map]; omega) ⟨_, M2.pre⟩ rfl) ?_))
                     )
            clear g
            obtain ⟨E3, hE3⟩ : ∃ E, chgE (l ++ [p]) ([k, 0, k, 0].any outI) (affF k 0 k 0) = E := ⟨_, rfl⟩
            obtain ⟨O3, hO3⟩ : ∃ O, chgO (l ++ [p]) ([k, 0, k, 0].any outI) (affF k 0 k 0) = O := ⟨_, rfl⟩
            rw [hE3, hO3]
            by_cases z3 : E3 = 0
            · rw [enlF_aff] at hE3 hO3
              rw [z3] at hE3 ⊢
              have M3 := mvF hO3 hE3
              obtain ⟨a3, w3, k1, k2⟩ := enl_facts M3 (chg_zero hE3).2.2.2 hl40
              have n3 := M3.len
              obtain ⟨b1, b2⟩ := area_bound M3.r0 hl40
              have kk := mulB (a := k) (b := k) (A := 20000) (B := 20000) (by omega) (by omega) (by omega) (by omega)
              have kka := mulB (a := k * k) (b := Area2V l) (A := 400000000) (B := 8000000000) (by omega) (by omega) (by omega) (by omega)
              clear hE3 hO3
              show outK elP O3 (some 0) _ _ _
              refine outK_pos elP (by omega) ?_
              by_cases hk0 : k = 0
              · repeat' ((conv => whnf)
                         first
                           | ((refine bm (fun g => ?_) (fun g => ?_)) <;> try (first
                                | (exfalso
                                   simp only [cO_le, cO_lt, cO_andB, cO_num, cO_fits, cO_add, fitsK, cO_eq, cO_eqB, cO_notB, Bool.and_eq_false_iff, Bool.and_eq_true, Bool.not_eq_true', Bool.not_eq_false', Bool.not_eq_true, Bool.not_eq_false, beq_iff_eq, beq_eq_false_iff_ne, ne_eq, decide_eq_false_iff_not, decide_eq_true_eq, not_true_eq_false, not_false_eq_true, Bool.not_true, Bool.not_false, Bool.true_eq_false, Bool.false_eq_true, decide_true, cO_mul, cO_neg, pEta, sEt, List.length_append, List.length_cons, List.length_nil, List.length_map, a3, n3] at g <;> omega)
                                ))
                           | (refine boL (getP l q0 rfl) ?_)
                           | (refine boL (getP l q1 rfl) ?_)
                           | (refine boL (getP l q2 rfl) ?_)
                           | (refine boL (getP l q3 rfl) ?_)
                           | (refine Exists.intro l (And.intro (LsAt_own elP rfl) ?_))
                           | (refine Exists.intro (l ++ [p]) (And.intro (LsAt_n elP hL.symm rfl) ?_))
                           | (refine boL (getP O3 (show 0 < O3.length by omega) rfl) ?_)
                           | (refine boL (getP O3 (show 1 < O3.length by omega) rfl) ?_)
                           | (refine boL (getP O3 (show 2 < O3.length by omega) rfl) ?_)
                           | (refine boL (getP O3 (show 3 < O3.length by omega) rfl) ?_)
                           | (refine boL (getP O3 (show l.length < O3.length by omega) (show 0 + N.toNat * 2 = l.length * 2 by omega)) ?_)
                           | (refine Exists.intro (l.map (enlF k)) (And.intro (LsAt_pre elP (show N.toNat = (l.map (enlF k)).length by rw [List.length_map]; omega) ⟨_, M3.pre⟩ rfl) ?_))
                         )
                all_goals (conv => whnf)
                all_goals first
                  | rfl
                  | (simp only [cO_eq, pEta, sEt, decide_true]; done)
                  | trace_state
              · have w3 := w3 hk0
                repeat' ((conv => whnf)
                         first
                           | ((refine bm (fun g => ?_) (fun g => ?_)) <;> try (first
                                | (exfalso
                                   simp only [cO_le, cO_lt, cO_andB, cO_num, cO_fits, cO_add, fitsK, cO_eq, cO_eqB, cO_notB, Bool.and_eq_false_iff, Bool.and_eq_true, Bool.not_eq_true', Bool.not_eq_false', Bool.not_eq_true, Bool.not_eq_false, beq_iff_eq, beq_eq_false_iff_ne, ne_eq, decide_eq_false_iff_not, decide_eq_true_eq, not_true_eq_false, not_false_eq_true, Bool.not_true, Bool.not_false, Bool.true_eq_false, Bool.false_eq_true, decide_true, cO_mul, cO_neg, pEta, sEt, List.length_append, List.length_cons, List.length_nil, List.length_map, a3, w3, n3] at g <;> omega)
                                ))
                           | (refine boL (getP l q0 rfl) ?_)
                           | (refine boL (getP l q1 rfl) ?_)
                           | (refine boL (getP l q2 rfl) ?_)
                           | (refine boL (getP l q3 rfl) ?_)
                           | (refine Exists.intro l (And.intro (LsAt_own elP rfl) ?_))
                           | (refine Exists.intro (l ++ [p]) (And.intro (LsAt_n elP hL.symm rfl) ?_))
                           | (refine boL (getP O3 (show 0 < O3.length by omega) rfl) ?_)
                           | (refine boL (getP O3 (show 1 < O3.length by omega) rfl) ?_)
                           | (refine boL (getP O3 (show 2 < O3.length by omega) rfl) ?_)
                           | (refine boL (getP O3 (show 3 < O3.length by omega) rfl) ?_)
                           | (refine boL (getP O3 (show l.length < O3.length by omega) (show 0 + N.toNat * 2 = l.length * 2 by omega)) ?_)
                           | (refine Exists.intro (l.map (enlF k)) (And.intro (LsAt_pre elP (show N.toNat = (l.map (enlF k)).length by rw [List.length_map]; omega) ⟨_, M3.pre⟩ rfl) ?_))
                         )
                all_goals (conv => whnf)
                all_goals first
                  | rfl
                  | (simp only [cO_eq, pEta, sEt, w3, decide_true]; done)
                  | trace_state
            · rw [chg_nz (by rw [hE3]; exact z3)] at hO3
              rw [← hO3]
              clear hE3 hO3
              show outK elP [] (some E3) _ _ _
              refine outK_nil elP ?_
              repeat' ((conv => whnf)
                       first
                         | ((refine bm (fun g => ?_) (fun g => ?_)) <;> try (first
                              | (exfalso
                                 simp only [cO_le, cO_lt, cO_andB, cO_num, cO_fits, cO_add, fitsK, cO_eq, cO_eqB, cO_notB, Bool.and_eq_false_iff, Bool.and_eq_true, Bool.not_eq_true', Bool.not_eq_false', Bool.not_eq_true, Bool.not_eq_false, beq_iff_eq, beq_eq_false_iff_ne, ne_eq, decide_eq_false_iff_not, decide_eq_true_eq, not_true_eq_false, not_false_eq_true, Bool.not_true, Bool.not_false, Bool.true_eq_false, Bool.false_eq_true, decide_true, cO_mul, cO_neg, pEta, sEt, List.length_append, List.length_cons, List.length_nil, List.length_map] at g <;> omega)
                              ))
                         | (refine boL (getP l q0 rfl) ?_)
                         | (refine boL (getP l q1 rfl) ?_)
                         | (refine boL (getP l q2 rfl) ?_)
                         | (refine boL (getP l q3 rfl) ?_)
                         | (refine Exists.intro l (And.intro (LsAt_own elP rfl) ?_))
                         | (refine Exists.intro (l ++ [p]) (And.intro (LsAt_n elP hL.symm rfl) ?_))
                       )
              all_goals (conv => whnf)
              all_goals first
                | rfl
                | trace_state
          · rw [chg_nz (by rw [hE2]; exact z2)] at hO2
            rw [← hO2]
            clear hE2 hO2
            show outK elP [] (some E2) _ _ _
            refine outK_nil elP ?_
            repeat' ((conv => whnf)
                     first
                       | ((refine bm (fun g => ?_) (fun g => ?_)) <;> try (first
                            | (exfalso
                               simp only [cO_le, cO_lt, cO_andB, cO_num, cO_fits, cO_add, fitsK, cO_eq, cO_eqB, cO_notB, Bool.and_eq_false_iff, Bool.and_eq_true, Bool.not_eq_true', Bool.not_eq_false', Bool.not_eq_true, Bool.not_eq_false, beq_iff_eq, beq_eq_false_iff_ne, ne_eq, decide_eq_false_iff_not, decide_eq_true_eq, not_true_eq_false, not_false_eq_true, Bool.not_true, Bool.not_false, Bool.true_eq_false, Bool.false_eq_true, decide_true, cO_mul, cO_neg, pEta, sEt, List.length_append, List.length_cons, List.length_nil, List.length_map] at g <;> omega)
                            ))
                       | (refine boL (getP l q0 rfl) ?_)
                       | (refine boL (getP l q1 rfl) ?_)
                       | (refine boL (getP l q2 rfl) ?_)
                       | (refine boL (getP l q3 rfl) ?_)
                       | (refine Exists.intro l (And.intro (LsAt_own elP rfl) ?_))
                       | (refine Exists.intro (l ++ [p]) (And.intro (LsAt_n elP hL.symm rfl) ?_))
                     )
            clear g
            obtain ⟨E3, hE3⟩ : ∃ E, chgE (l ++ [p]) ([k, 0, k, 0].any outI) (affF k 0 k 0) = E := ⟨_, rfl⟩
            obtain ⟨O3, hO3⟩ : ∃ O, chgO (l ++ [p]) ([k, 0, k, 0].any outI) (affF k 0 k 0) = O := ⟨_, rfl⟩
            rw [hE3, hO3]
            by_cases z3 : E3 = 0
            · rw [enlF_aff] at hE3 hO3
              rw [z3] at hE3 ⊢
              have M3 := mvF hO3 hE3
              obtain ⟨a3, w3, k1, k2⟩ := enl_facts M3 (chg_zero hE3).2.2.2 hl40
              have n3 := M3.len
              obtain ⟨b1, b2⟩ := area_bound M3.r0 hl40
              have kk := mulB (a := k) (b := k) (A := 20000) (B := 20000) (by omega) (by omega) (by omega) (by omega)
              have kka := mulB (a := k * k) (b := Area2V l) (A := 400000000) (B := 8000000000) (by omega) (by omega) (by omega) (by omega)
              clear hE3 hO3
              show outK elP O3 (some 0) _ _ _
              refine outK_pos elP (by omega) ?_
              by_cases hk0 : k = 0
              · repeat' ((conv => whnf)
                         first
                           | ((refine bm (fun g => ?_) (fun g => ?_)) <;> try (first
                                | (exfalso
                                   simp only [cO_le, cO_lt, cO_andB, cO_num, cO_fits, cO_add, fitsK, cO_eq, cO_eqB, cO_notB, Bool.and_eq_false_iff, Bool.and_eq_true, Bool.not_eq_true', Bool.not_eq_false', Bool.not_eq_true, Bool.not_eq_false, beq_iff_eq, beq_eq_false_iff_ne, ne_eq, decide_eq_false_iff_not, decide_eq_true_eq, not_true_eq_false, not_false_eq_true, Bool.not_true, Bool.not_false, Bool.true_eq_false, Bool.false_eq_true, decide_true, cO_mul, cO_neg, pEta, sEt, List.length_append, List.length_cons, List.length_nil, List.length_map, a3, n3] at g <;> omega)
                                ))
                           | (refine boL (getP l q0 rfl) ?_)
                           | (refine boL (getP l q1 rfl) ?_)
                           | (refine boL (getP l q2 rfl) ?_)
                           | (refine boL (getP l q3 rfl) ?_)
                           | (refine Exists.intro l (And.intro (LsAt_own elP rfl) ?_))
                           | (refine Exists.intro (l ++ [p]) (And.intro (LsAt_n elP hL.symm rfl) ?_))
                           | (refine boL (getP O3 (show 0 < O3.length by omega) rfl) ?_)
                           | (refine boL (getP O3 (show 1 < O3.length by omega) rfl) ?_)
                           | (refine boL (getP O3 (show 2 < O3.length by omega) rfl) ?_)
                           | (refine boL (getP O3 (show 3 < O3.length by omega) rfl) ?_)
                           | (refine boL (getP O3 (show l.length < O3.length by omega) (show 0 + N.toNat * 2 = l.length * 2 by omega)) ?_)
                           | (refine Exists.intro (l.map (enlF k)) (And.intro (LsAt_pre elP (show N.toNat = (l.map (enlF k)).length by rw [List.length_map]; omega) ⟨_, M3.pre⟩ rfl) ?_))
                         )
                all_goals (conv => whnf)
                all_goals first
                  | rfl
                  | (simp only [cO_eq, pEta, sEt, decide_true]; done)
                  | trace_state
              · have w3 := w3 hk0
                repeat' ((conv => whnf)
                         first
                           | ((refine bm (fun g => ?_) (fun g => ?_)) <;> try (first
                                | (exfalso
                                   simp only [cO_le, cO_lt, cO_andB, cO_num, cO_fits, cO_add, fitsK, cO_eq, cO_eqB, cO_notB, Bool.and_eq_false_iff, Bool.and_eq_true, Bool.not_eq_true', Bool.not_eq_false', Bool.not_eq_true, Bool.not_eq_false, beq_iff_eq, beq_eq_false_iff_ne, ne_eq, decide_eq_false_iff_not, decide_eq_true_eq, not_true_eq_false, not_false_eq_true, Bool.not_true, Bool.not_false, Bool.true_eq_false, Bool.false_eq_true, decide_true, cO_mul, cO_neg, pEta, sEt, List.length_append, List.length_cons, List.length_nil, List.length_map, a3, w3, n3] at g <;> omega)
                                ))
                           | (refine boL (getP l q0 rfl) ?_)
                           | (refine boL (getP l q1 rfl) ?_)
                           | (refine boL (getP l q2 rfl) ?_)
                           | (refine boL (getP l q3 rfl) ?_)
                           | (refine Exists.intro l (And.intro (LsAt_own elP rfl) ?_))
                           | (refine Exists.intro (l ++ [p]) (And.intro (LsAt_n elP hL.symm rfl) ?_))
                           | (refine boL (getP O3 (show 0 < O3.length by omega) rfl) ?_)
                           | (refine boL (getP O3 (show 1 < O3.length by omega) rfl) ?_)
                           | (refine boL (getP O3 (show 2 < O3.length by omega) rfl) ?_)
                           | (refine boL (getP O3 (show 3 < O3.length by omega) rfl) ?_)
                           | (refine boL (getP O3 (show l.length < O3.length by omega) (show 0 + N.toNat * 2 = l.length * 2 by omega)) ?_)
                           | (refine Exists.intro (l.map (enlF k)) (And.intro (LsAt_pre elP (show N.toNat = (l.map (enlF k)).length by rw [List.length_map]; omega) ⟨_, M3.pre⟩ rfl) ?_))
                         )
                all_goals (conv => whnf)
                all_goals first
                  | rfl
                  | (simp only [cO_eq, pEta, sEt, w3, decide_true]; done)
                  | trace_state
            · rw [chg_nz (by rw [hE3]; exact z3)] at hO3
              rw [← hO3]
              clear hE3 hO3
              show outK elP [] (some E3) _ _ _
              refine outK_nil elP ?_
              repeat' ((conv => whnf)
                       first
                         | ((refine bm (fun g => ?_) (fun g => ?_)) <;> try (first
                              | (exfalso
                                 simp only [cO_le, cO_lt, cO_andB, cO_num, cO_fits, cO_add, fitsK, cO_eq, cO_eqB, cO_notB, Bool.and_eq_false_iff, Bool.and_eq_true, Bool.not_eq_true', Bool.not_eq_false', Bool.not_eq_true, Bool.not_eq_false, beq_iff_eq, beq_eq_false_iff_ne, ne_eq, decide_eq_false_iff_not, decide_eq_true_eq, not_true_eq_false, not_false_eq_true, Bool.not_true, Bool.not_false, Bool.true_eq_false, Bool.false_eq_true, decide_true, cO_mul, cO_neg, pEta, sEt, List.length_append, List.length_cons, List.length_nil, List.length_map] at g <;> omega)
                              ))
                         | (refine boL (getP l q0 rfl) ?_)
                         | (refine boL (getP l q1 rfl) ?_)
                         | (refine boL (getP l q2 rfl) ?_)
                         | (refine boL (getP l q3 rfl) ?_)
                         | (refine Exists.intro l (And.intro (LsAt_own elP rfl) ?_))
                         | (refine Exists.intro (l ++ [p]) (And.intro (LsAt_n elP hL.symm rfl) ?_))
                       )
              all_goals (conv => whnf)
              all_goals first
                | rfl
                | trace_state
  · (conv => whnf)
end Go.Aw
