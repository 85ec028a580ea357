/-
  Normal forms: the program's. No condition.
-/
import Derived.Test.YtmkcjbpekejgdaaGreatSe68
set_option linter.unusedSimpArgs false
set_option linter.unusedVariables false
noncomputable section
namespace Go.Aw
set_option maxRecDepth 100000
def prv (l : List (Int × Int)) (i : Nat) : Int × Int := at2 l ((i + l.length - 1) % l.length)
def keptB (l : List (Int × Int)) (i : Nat) : Bool := !decide (turnS (prv l i) (at2 l i) (nxt l i) = 0)
def rawI (l : List (Int × Int)) : Nat → List (Int × Int)
  | 0 => []
  | i + 1 => rawI l i ++ (if keptB l i = true then [at2 l i] else [])
def dirI (l : List (Int × Int)) : List (Int × Int) := if areaI l l.length < 0 then l.reverse else l
def topI (l : List (Int × Int)) : List (Int × Int) := turnI l (idxP (minI l (l.length - 1)) l 0).toNat
def norI (l : List (Int × Int)) : List (Int × Int) := topI (dirI (rawI l l.length))
theorem rawI_len (l : List (Int × Int)) : ∀ i, (rawI l i).length ≤ i
  | 0 => Nat.le_refl _
  | i + 1 => by
    have := rawI_len l i
    unfold rawI
    rw [List.length_append]
    split
    · simp; omega
    · simp; omega
theorem rawI_mem (l : List (Int × Int)) : ∀ i, i ≤ l.length → ∀ p ∈ rawI l i, p ∈ l
  | 0, _, p, h => by cases h
  | i + 1, hi, p, h => by
    unfold rawI at h
    rcases List.mem_append.1 h with h | h
    · exact rawI_mem l i (by omega) p h
    · split at h
      · rw [List.mem_singleton] at h
        rw [h, at2_eq (show i < l.length by omega)]
        exact List.getElem_mem _
      · cases h
theorem rawI_right {l : List (Int × Int)} (h : l.all rightS = true) (i : Nat) (hi : i ≤ l.length) : (rawI l i).all rightS = true :=
  List.all_eq_true.2 fun p hp => List.all_eq_true.1 h p (rawI_mem l i hi p hp)
theorem minI_mem (l : List (Int × Int)) : ∀ i, i < l.length → minI l i ∈ l
  | 0, h => by
    unfold minI
    rw [at2_eq h]
    exact List.getElem_mem _
  | i + 1, h => by
    unfold minI
    split
    · rw [at2_eq h]
      exact List.getElem_mem _
    · exact minI_mem l i (by omega)
theorem idxP_mem {p : Int × Int} : ∀ {l : List (Int × Int)} (i : Nat), p ∈ l → (i : Int) ≤ idxP p l i ∧ idxP p l i < i + l.length
  | [], i, h => by cases h
  | q :: r, i, h => by
    unfold idxP
    split
    · simp; omega
    · rename_i hq
      have hm : p ∈ r := by
        cases h with
        | head => exact absurd (show eqP p p = true by simp [eqP]) hq
        | tail _ h => exact h
      have := idxP_mem (i + 1) hm
      simp only [List.length_cons]
      omega
theorem tmod_prev {i n : Nat} (h : 0 < i + n) : ((i : Int) + (n : Int) - 1).tmod (n : Int) = ((i + n - 1) % n : Nat) := by
  have e : (i : Int) + (n : Int) - 1 = ((i + n - 1 : Nat) : Int) := by omega
  rw [e]
  exact (Int.ofNat_tmod _ _).symm
theorem LsAt_n {α : Type} (E : El α) {l : List α} {n c k : Nat} {wr g : Bool} {sz : Nat} {h : Heap} (hn : n = l.length) (hk : look h k = some (.cells wr g sz (flat E.fl l))) : LsAt E h (.slice (some ⟨k, 0, none⟩) n c) l := by
  subst hn
  exact ⟨rfl, wr, g, sz, _, hk, by rw [List.drop_zero, List.take_length]⟩
def S85 (l : List (Int × Int)) : List Value → Option (Bool × List (Int × Int) × Option Int)
  | [] => some (goodL l && decide (0 < (rawI l l.length).length), norI l, none)
  | _ => none
theorem S85_inv {l out : List (Int × Int)} {r : List Value} {e : Option Int} (hs : S85 l r = some (true, out, e)) : r = [] ∧ goodP l ∧ 0 < (rawI l l.length).length ∧ out = norI l ∧ e = none := by
  unfold S85 at hs
  split at hs
  · injection hs with hs; injection hs with h1 h2; injection h2 with h2 h3
    simp only [Bool.and_eq_true, decide_eq_true_eq] at h1
    exact ⟨rfl, goodL_iff.1 h1.1, h1.2, h2.symm, h3.symm⟩
  · cases hs
def e85 (l : List (Int × Int)) (c : Nat) (v : Value) (j : Int) : List (Nat × Value) := [(0, .slice (some ⟨0, 0, none⟩) l.length c), (3, v), (6, .slice (some ⟨0, 0, none⟩) l.length c), (7, iv l.length), (8, iv j)]
def h85 (l R : List (Int × Int)) : Heap := [(0, .cells false true 2 (flat elP.fl l)), (1, .cells true false 2 (flat elP.fl R))]
def X85 : Nat × XF := (62, rfX elP elP S85)
attribute [local irreducible] rawI turnS turnI minI idxP norI areaI in
theorem x85 : XOK Go.Proofs.Tryz.prog X85.1 X85.2 := rfX_ok elP elP (s := S85) (f := 62) (bodyN_calls (xl := [X55, X83, X109, X125, X124]) (.cons x55 (.cons x83 (.cons x109 (.cons x125 (.cons x124 .nil))))) [129, 82, 140]) fun l r out e hs => by
  obtain ⟨rfl, ⟨hl3, hl2, hall, hnd⟩, hpos, rfl, rfl⟩ := S85_inv hs
  refine ⟨rfl, fun c => ?_⟩
  clear hs
  (conv => whnf)
  refine ⟨fun n e h nx => ∃ (i : Nat) (j : Int), j = i ∧ i ≤ l.length ∧ n = l.length - i ∧
    ((rawI l i = [] ∧ e = e85 l c (.slice none 0 0) j ∧ h = hP l ∧ nx = 1) ∨ (∃ R, R = rawI l i ∧ 0 < R.length ∧ R.length ≤ i ∧ e = e85 l c (.slice (some ⟨1, 0, none⟩) R.length R.length) j ∧ h = h85 l R ∧ nx = 2)), ⟨l.length, ?_⟩, ?_⟩
  · refine Into_id (e0 := e85 l c (.slice none 0 0) 0) (h0 := hP l) (n0 := 1) ⟨0, 0, rfl, Nat.zero_le _, rfl, .inl ⟨by unfold rawI; rfl, rfl, rfl, rfl⟩⟩ ?_ ?_ (by decide)
    · unfold e85
      ((repeat' (refine List.forall_mem_cons.2 ⟨⟨rfl, ?_⟩, ?_⟩; (first | exact scT_g rfl | exact ⟨by decide, rfl⟩ | exact ⟨by decide, fun h => (by cases h)⟩))); exact fun _ h => (by cases h))
    · unfold hP
      ((repeat' (refine List.forall_mem_cons.2 ⟨⟨Nat.le_of_ble_eq_true rfl, _, rfl, ?_⟩, ?_⟩; (first | exact ObjRen_g (flat_g _ _) | exact ObjRen_j rfl rfl))); exact fun _ h => (by cases h))
  · rintro n e h nx ⟨i, j, hj, hi, rfl, ⟨hR, rfl, rfl, rfl⟩ | ⟨R, hR, hR0, hRi, rfl, rfl, rfl⟩⟩
    · unfold e85 hP
      ((conv => whnf); refine bm (fun g1 => ?_) (fun g1 => ?_))
      · have hlt : i < l.length := by simp [cfgS, std] at g1; omega
        have hn : (i + 1) % l.length < l.length := Nat.mod_lt _ (by omega)
        have hp : (i + l.length - 1) % l.length < l.length := Nat.mod_lt _ (by omega)
        have tn : (j + 1).tmod (l.length : Int) = ((i + 1) % l.length : Nat) := by rw [hj]; exact tmod_nat
        have tp : (j + (l.length : Int) - 1).tmod (l.length : Int) = ((i + l.length - 1) % l.length : Nat) := by rw [hj]; exact tmod_prev (by omega)
        have w1 := rightS_wide (all_at hall hlt)
        have w2 := rightS_wide (all_at hall hn)
        have w3 := rightS_wide (all_at hall hp)
        repeat' first
          | (((conv => whnf); refine bm (fun g => ?_) (fun g => ?_)))
          | ((conv => whnf)
             refine boL (getP l hlt ?_) ?_
             · simp [cfgS, std]; omega)
          | ((conv => whnf)
             refine boL (getP l hn ?_) ?_
             · show 0 + ((j + 1).tmod (l.length : Int)).toNat * 2 = _
               rw [tn, Int.toNat_natCast, Nat.zero_add])
          | ((conv => whnf)
             refine boL (getP l hp ?_) ?_
             · show 0 + ((j + (l.length : Int) - 1).tmod (l.length : Int)).toNat * 2 = _
               rw [tp, Int.toNat_natCast, Nat.zero_add])
        all_goals (conv => whnf)
        · rename_i gk
          have hk : keptB l i = true := gk
          have hr : rawI l (i + 1) = [at2 l i] := by
            unfold rawI
            rw [hR, if_pos hk]
            rfl
          refine ⟨l.length - (i + 1), by omega, ?_⟩
          refine Into_mv (e0 := e85 l c (.slice (some ⟨1, 0, none⟩) 1 1) (j + 1)) (h0 := h85 l [at2 l i]) (n0 := 2) 1 3 (by decide) (by decide)
            ⟨i + 1, j + 1, by omega, by omega, rfl, .inr ⟨[at2 l i], hr.symm, Nat.one_pos, Nat.succ_le_succ (Nat.zero_le _), rfl, rfl, rfl⟩⟩ ?_ ?_ ?_
          · unfold e85
            ((repeat' (refine List.forall_mem_cons.2 ⟨⟨rfl, ?_⟩, ?_⟩; (first | exact scT_g rfl | exact ⟨by decide, rfl⟩ | exact ⟨by decide, fun h => (by cases h)⟩))); exact fun _ h => (by cases h))
          · unfold h85
            ((repeat' (refine List.forall_mem_cons.2 ⟨⟨Nat.le_of_ble_eq_true rfl, _, rfl, ?_⟩, ?_⟩; (first | exact ObjRen_g (flat_g _ _) | exact ObjRen_j rfl rfl))); exact fun _ h => (by cases h))
          · unfold h85
            ((repeat' (refine List.forall_mem_cons.2 ⟨?_, ?_⟩; (intro _ h; revert h; simp))); exact fun _ h => (by cases h))
        rotate_left
        · rename_i gk
          have hk : keptB l i = false := gk
          have hr : rawI l (i + 1) = [] := by
            unfold rawI
            rw [hR, if_neg (by rw [hk]; decide)]
            rfl
          refine ⟨l.length - (i + 1), by omega, ?_⟩
          refine Into_id (e0 := e85 l c (.slice none 0 0) (j + 1)) (h0 := hP l) (n0 := 1) ⟨i + 1, j + 1, by omega, by omega, rfl, .inl ⟨hr, rfl, rfl, rfl⟩⟩ ?_ ?_ (by decide)
          · unfold e85
            ((repeat' (refine List.forall_mem_cons.2 ⟨⟨rfl, ?_⟩, ?_⟩; (first | exact scT_g rfl | exact ⟨by decide, rfl⟩ | exact ⟨by decide, fun h => (by cases h)⟩))); exact fun _ h => (by cases h))
          · unfold hP
            ((repeat' (refine List.forall_mem_cons.2 ⟨⟨Nat.le_of_ble_eq_true rfl, _, rfl, ?_⟩, ?_⟩; (first | exact ObjRen_g (flat_g _ _) | exact ObjRen_j rfl rfl))); exact fun _ h => (by cases h))
        all_goals exfalso
        all_goals first
          | (simp only [cA_add, cA_sub, cA_fits, cA_lt, cA_le, cA_eq, cA_notB, cA_andB, cA_num, fitsK, Bool.and_eq_false_iff, Bool.not_eq_false', decide_eq_true_eq, decide_eq_false_iff_not] at g; omega)
          | (simp only [cA_rem, cA_add, cA_sub, cA_lt, cA_le, cA_andB, cA_num, Bool.and_eq_false_iff, decide_eq_false_iff_not] at g
             rw [tn] at g
             omega)
          | (simp only [cA_rem, cA_add, cA_sub, cA_lt, cA_le, cA_andB, cA_num, Bool.and_eq_false_iff, decide_eq_false_iff_not] at g
             rw [tp] at g
             omega)
          | (have hg : (wide (prv l i) && wide (at2 l i) && wide (nxt l i)) = false := g
             unfold prv nxt at hg
             rw [w1, w2, w3] at hg
             cases hg)
          | trace_state
      · exfalso
        simp only [cA_lt, cA_num, decide_eq_false_iff_not] at g1
        rw [show i = l.length by omega] at hR
        rw [hR] at hpos
        cases hpos
    · unfold e85 h85
      ((conv => whnf); refine bm (fun g1 => ?_) (fun g1 => ?_))
      · have hlt : i < l.length := by simp [cfgS, std] at g1; omega
        have hn : (i + 1) % l.length < l.length := Nat.mod_lt _ (by omega)
        have hp : (i + l.length - 1) % l.length < l.length := Nat.mod_lt _ (by omega)
        have tn : (j + 1).tmod (l.length : Int) = ((i + 1) % l.length : Nat) := by rw [hj]; exact tmod_nat
        have tp : (j + (l.length : Int) - 1).tmod (l.length : Int) = ((i + l.length - 1) % l.length : Nat) := by rw [hj]; exact tmod_prev (by omega)
        have w1 := rightS_wide (all_at hall hlt)
        have w2 := rightS_wide (all_at hall hn)
        have w3 := rightS_wide (all_at hall hp)
        repeat' first
          | (exfalso
             have hx : Nat.ble (R.length + 1) R.length = true := g
             have := Nat.le_of_ble_eq_true hx
             omega)
          | (((conv => whnf); refine bm (fun g => ?_) (fun g => ?_)))
          | ((conv => whnf)
             refine boL (getP l hlt ?_) ?_
             · simp [cfgS, std]; omega)
          | ((conv => whnf)
             refine boL (getP l hn ?_) ?_
             · show 0 + ((j + 1).tmod (l.length : Int)).toNat * 2 = _
               rw [tn, Int.toNat_natCast, Nat.zero_add])
          | ((conv => whnf)
             refine boL (getP l hp ?_) ?_
             · show 0 + ((j + (l.length : Int) - 1).tmod (l.length : Int)).toNat * 2 = _
               rw [tp, Int.toNat_natCast, Nat.zero_add])
        all_goals (conv => whnf)
        case refine_2.inr.refine_1.refine_1.refine_2.refine_1.refine_1.refine_1.refine_1.refine_2.refine_1.refine_1.refine_1.refine_2.refine_1.refine_1.refine_2.refine_1.refine_1 =>
          rename_i gk _ _
          have hk : keptB l i = true := gk
          have hr : rawI l (i + 1) = R ++ [at2 l i] := by
            rw [hR]
            conv => lhs; unfold rawI
            rw [if_pos hk]
          refine ⟨l.length - (i + 1), by omega, ?_⟩
          refine Into_mv (e0 := e85 l c (.slice (some ⟨1, 0, none⟩) (R.length + 1) (R.length + 1)) (j + 1)) (h0 := h85 l (R ++ [at2 l i])) (n0 := 2) 1 4 (by decide) (by decide)
            ⟨i + 1, j + 1, by omega, by omega, rfl, .inr ⟨R ++ [at2 l i], hr.symm, by rw [List.length_append]; exact Nat.succ_pos _, by rw [List.length_append]; exact Nat.succ_le_succ hRi, by rw [List.length_append]; rfl, rfl, rfl⟩⟩ ?_ ?_ ?_
          · unfold e85
            ((repeat' (refine List.forall_mem_cons.2 ⟨⟨rfl, ?_⟩, ?_⟩; (first | exact scT_g rfl | exact ⟨by decide, rfl⟩ | exact ⟨by decide, fun h => (by cases h)⟩))); exact fun _ h => (by cases h))
          · unfold h85
            ((repeat' (refine List.forall_mem_cons.2 ⟨⟨Nat.le_of_ble_eq_true rfl, _, rfl, ?_⟩, ?_⟩; (first | exact (ObjRen_j (flat_g elP _) (flat_grow R _)) | exact ObjRen_g (flat_g _ _) | exact ObjRen_j rfl rfl))); exact fun _ h => (by cases h))
          · unfold h85
            ((repeat' (refine List.forall_mem_cons.2 ⟨?_, ?_⟩; (intro _ h; revert h; simp))); exact fun _ h => (by cases h))
        case refine_2.inr.refine_1.refine_1.refine_2.refine_1.refine_1.refine_1.refine_1.refine_2.refine_1.refine_1.refine_1.refine_2.refine_1.refine_2.refine_1 =>
          rename_i gk
          have hk : keptB l i = false := gk
          have hr : rawI l (i + 1) = R := by
            rw [hR]
            conv => lhs; unfold rawI
            rw [if_neg (by rw [hk]; decide), List.append_nil]
          refine ⟨l.length - (i + 1), by omega, ?_⟩
          refine Into_id (e0 := e85 l c (.slice (some ⟨1, 0, none⟩) R.length R.length) (j + 1)) (h0 := h85 l R) (n0 := 2) ⟨i + 1, j + 1, by omega, by omega, rfl, .inr ⟨R, hr.symm, hR0, by omega, rfl, rfl, rfl⟩⟩ ?_ ?_ (by decide)
          · unfold e85
            ((repeat' (refine List.forall_mem_cons.2 ⟨⟨rfl, ?_⟩, ?_⟩; (first | exact scT_g rfl | exact ⟨by decide, rfl⟩ | exact ⟨by decide, fun h => (by cases h)⟩))); exact fun _ h => (by cases h))
          · unfold h85
            ((repeat' (refine List.forall_mem_cons.2 ⟨⟨Nat.le_of_ble_eq_true rfl, _, rfl, ?_⟩, ?_⟩; (first | exact ObjRen_g (flat_g _ _) | exact ObjRen_j rfl rfl))); exact fun _ h => (by cases h))
        all_goals exfalso
        all_goals first
          | (simp only [cA_add, cA_sub, cA_fits, cA_lt, cA_le, cA_eq, cA_notB, cA_andB, cA_num, fitsK, Bool.and_eq_false_iff, Bool.not_eq_false', decide_eq_true_eq, decide_eq_false_iff_not] at g; omega)
          | (simp only [cA_rem, cA_add, cA_sub, cA_lt, cA_le, cA_andB, cA_num, Bool.and_eq_false_iff, decide_eq_false_iff_not] at g
             rw [tn] at g
             omega)
          | (simp only [cA_rem, cA_add, cA_sub, cA_lt, cA_le, cA_andB, cA_num, Bool.and_eq_false_iff, decide_eq_false_iff_not] at g
             rw [tp] at g
             omega)
          | (have hg : (wide (prv l i) && wide (at2 l i) && wide (nxt l i)) = false := g
             unfold prv nxt at hg
             rw [w1, w2, w3] at hg
             cases hg)
          | (have hf : (flat elP.fl R).length = R.length * 2 := by rw [flat_len]; rfl
             simp only [cA_andB, hf] at g
             revert g
             simp
             omega)
          | trace_state
      · have hge : i = l.length := by simp only [cA_lt, cA_num, decide_eq_false_iff_not] at g1; omega
        subst hge
        have hRl : R.length ≤ 200 := by omega
        have hRr : R.all rightS = true := by rw [hR]; exact rawI_right hall _ (Nat.le_refl _)
        unfold norI
        rw [← hR]
        (conv => whnf)
        refine ⟨R, LsAt_n elP rfl rfl, ?_⟩
        ((conv => whnf); refine bm (fun g2 => ?_) (fun g2 => ?_))
        · ((conv => whnf); refine bm (fun g3 => ?_) (fun g3 => ?_))
          · (conv => whnf)
            refine ⟨R, rfl, rfl, ?_⟩
            ((conv => whnf); refine bm (fun g4 => ?_) (fun g4 => ?_))
            · have hneg : areaI R R.length < 0 := by simpa only [cA_lt, decide_eq_true_eq] using g3
              rw [show dirI R = R.reverse by unfold dirI; rw [if_pos hneg]]
              have hGl : R.reverse.length = R.length := List.length_reverse
              generalize R.reverse = G at hGl ⊢
              (conv => whnf)
              refine ⟨G, LsAt_n elP hGl.symm rfl, ?_⟩
              ((conv => whnf); refine bm (fun g5 => ?_) (fun g5 => ?_))
              · (conv => whnf)
                refine ⟨G, LsAt_n elP hGl.symm rfl, ?_⟩
                ((conv => whnf); refine bm (fun g6 => ?_) (fun g6 => ?_))
                · have hjm := idxP_mem (p := minI G (G.length - 1)) (l := G) 0 (minI_mem G _ (by omega))
                  unfold topI
                  obtain ⟨jj, hjj⟩ : ∃ jj : Int, jj = idxP (minI G (G.length - 1)) G 0 := ⟨_, rfl⟩
                  have hj0 : 0 ≤ jj := by rw [hjj]; simpa using hjm.1
                  have hj1 : jj < (R.length : Int) := by rw [hjj, ← hGl]; simpa using hjm.2
                  have hjE : idxP ((minI G (G.length - 1)).1, (minI G (G.length - 1)).2) G 0 = jj := hjj.symm
                  rw [hjE]
                  try rw [← hjj]
                  clear hjE hjj hjm g6 g5
                  repeat' first
                    | (exfalso
                       simp only [c4A, cA_add, cA_sub, cA_fits, cA_lt, cA_le, cA_andB, cA_num, cA_subN, cA_toN, fitsK, Bool.and_eq_false_iff, decide_eq_false_iff_not] at g
                       omega)
                    | (exfalso
                       have hc : Nat.ble (0 + (R.length - jj.toNat)) ((0 : Int) + ((R.length - jj.toNat : Nat) : Int) + ((jj.toNat : Nat) : Int) - (0 - 0)).toNat = false := g
                       rw [Nat.ble_eq_true_of_le (by omega)] at hc
                       cases hc)
                    | (exfalso
                       have hc : Nat.ble (0 + (R.length - jj.toNat) + jj.toNat) ((0 : Int) + ((R.length - jj.toNat : Nat) : Int) + ((jj.toNat : Nat) : Int) - (0 - 0)).toNat = false := g
                       rw [Nat.ble_eq_true_of_le (by omega)] at hc
                       cases hc)
                    | (((conv => whnf); refine bm (fun g => ?_) (fun g => ?_)))
                  all_goals (conv => whnf)
                  · refine Yields_at (q := 3) (n := 0 + (R.length - jj.toNat) + jj.toNat) (c := ((0 : Int) + ((R.length - jj.toNat : Nat) : Int) + ((jj.toNat : Nat) : Int) - (0 - 0)).toNat) (nx := 4) ?_ ?_ ?_ ?hq
                    case hq => refine ⟨_, rfl, ?_⟩; exact turn_cells (l := G) (j := jj.toNat) (N := ((0 : Int) + ((R.length - jj.toNat : Nat) : Int) + ((jj.toNat : Nat) : Int) - (0 - 0)).toNat) (o0 := 0 + 0 * 2) (s1 := (R.length - jj.toNat) * 2) (d1 := 0 + jj.toNat * 2) (o1 := 0 + (0 + (R.length - jj.toNat)) * 2) (s2 := jj.toNat * 2) (d2 := 0) (a := iv 0) (b := iv 0) (by omega) (by omega) (by omega) (by omega) (by omega) (by omega) (by omega) (by omega)
                    · rw [turnI_len _ _ (by omega)]; omega
                    · rw [turnI_len _ _ (by omega)]; omega
                    · rw [turnI_len _ _ (by omega)]; omega
                  all_goals exfalso
                  all_goals first
                    | (have hx : 0 + jj.toNat * 2 + (R.length - jj.toNat) * 2 ≤ (flat elP.fl G).length := by rw [flat2]; omega
                       have hc : Nat.ble (0 + jj.toNat * 2 + (R.length - jj.toNat) * 2) (flat elP.fl G).length = false := g
                       rw [Nat.ble_eq_true_of_le hx] at hc
                       cases hc)
                    | (have hx : 0 + jj.toNat * 2 ≤ (flat elP.fl G).length := by rw [flat2]; omega
                       have hc : Nat.ble (0 + jj.toNat * 2) (flat elP.fl G).length = false := g
                       rw [Nat.ble_eq_true_of_le hx] at hc
                       cases hc)
                    | (have hc : Nat.ble (0 + (0 + (R.length - jj.toNat)) * 2) (rep ((0 : Int) + ((R.length - jj.toNat : Nat) : Int) + ((jj.toNat : Nat) : Int) - (0 - 0)).toNat [iv 0, iv 0]).length = false := g
                       rw [rep_len] at hc
                       rw [Nat.ble_eq_true_of_le (by show _ ≤ _ * 2; omega)] at hc
                       cases hc)
                    | (have hc : Nat.ble (0 + (0 + (R.length - jj.toNat) + jj.toNat) * 2) (putN (rep ((0 : Int) + ((R.length - jj.toNat : Nat) : Int) + ((jj.toNat : Nat) : Int) - (0 - 0)).toNat [iv 0, iv 0]) (0 + 0 * 2) (List.take ((R.length - jj.toNat) * 2) (List.drop (0 + jj.toNat * 2) (flat elP.fl G)))).length = false := g
                       rw [put_len (j := jj.toNat) (by omega) (by omega) rfl (by omega) (by omega)] at hc
                       rw [Nat.ble_eq_true_of_le (by omega)] at hc
                       cases hc)
                    | trace_state
                · exfalso
                  have hg : decide (G.length ≤ 1000000000) = false := g6
                  rw [decide_eq_false_iff_not] at hg
                  omega
              · exfalso
                have hg : (decide (0 < G.length) && decide (G.length ≤ 1000000000)) = false := g5
                simp only [Bool.and_eq_false_iff, decide_eq_false_iff_not] at hg
                omega
            · exfalso
              have hg : decide (R.length ≤ 1000000000) = false := g4
              rw [decide_eq_false_iff_not] at hg
              omega
          · have hneg : ¬ areaI R R.length < 0 := by simpa only [cA_lt, decide_eq_false_iff_not] using g3
            rw [show dirI R = R by unfold dirI; rw [if_neg hneg]]
            have hGl : R.length = R.length := rfl
            (conv => whnf)
            refine ⟨R, LsAt_n elP hGl.symm rfl, ?_⟩
            ((conv => whnf); refine bm (fun g5 => ?_) (fun g5 => ?_))
            · (conv => whnf)
              refine ⟨R, LsAt_n elP hGl.symm rfl, ?_⟩
              ((conv => whnf); refine bm (fun g6 => ?_) (fun g6 => ?_))
              · have hjm := idxP_mem (p := minI R (R.length - 1)) (l := R) 0 (minI_mem R _ (by omega))
                unfold topI
                obtain ⟨jj, hjj⟩ : ∃ jj : Int, jj = idxP (minI R (R.length - 1)) R 0 := ⟨_, rfl⟩
                have hj0 : 0 ≤ jj := by rw [hjj]; simpa using hjm.1
                have hj1 : jj < (R.length : Int) := by rw [hjj, ← hGl]; simpa using hjm.2
                have hjE : idxP ((minI R (R.length - 1)).1, (minI R (R.length - 1)).2) R 0 = jj := hjj.symm
                rw [hjE]
                try rw [← hjj]
                clear hjE hjj hjm g6 g5
                repeat' first
                  | (exfalso
                     simp only [c4A, cA_add, cA_sub, cA_fits, cA_lt, cA_le, cA_andB, cA_num, cA_subN, cA_toN, fitsK, Bool.and_eq_false_iff, decide_eq_false_iff_not] at g
                     omega)
                  | (exfalso
                     have hc : Nat.ble (0 + (R.length - jj.toNat)) ((0 : Int) + ((R.length - jj.toNat : Nat) : Int) + ((jj.toNat : Nat) : Int) - (0 - 0)).toNat = false := g
                     rw [Nat.ble_eq_true_of_le (by omega)] at hc
                     cases hc)
                  | (exfalso
                     have hc : Nat.ble (0 + (R.length - jj.toNat) + jj.toNat) ((0 : Int) + ((R.length - jj.toNat : Nat) : Int) + ((jj.toNat : Nat) : Int) - (0 - 0)).toNat = false := g
                     rw [Nat.ble_eq_true_of_le (by omega)] at hc
                     cases hc)
                  | (((conv => whnf); refine bm (fun g => ?_) (fun g => ?_)))
                all_goals (conv => whnf)
                · refine Yields_at (q := 3) (n := 0 + (R.length - jj.toNat) + jj.toNat) (c := ((0 : Int) + ((R.length - jj.toNat : Nat) : Int) + ((jj.toNat : Nat) : Int) - (0 - 0)).toNat) (nx := 4) ?_ ?_ ?_ ?hq
                  case hq => refine ⟨_, rfl, ?_⟩; exact turn_cells (l := R) (j := jj.toNat) (N := ((0 : Int) + ((R.length - jj.toNat : Nat) : Int) + ((jj.toNat : Nat) : Int) - (0 - 0)).toNat) (o0 := 0 + 0 * 2) (s1 := (R.length - jj.toNat) * 2) (d1 := 0 + jj.toNat * 2) (o1 := 0 + (0 + (R.length - jj.toNat)) * 2) (s2 := jj.toNat * 2) (d2 := 0) (a := iv 0) (b := iv 0) (by omega) (by omega) (by omega) (by omega) (by omega) (by omega) (by omega) (by omega)
                  · rw [turnI_len _ _ (by omega)]; omega
                  · rw [turnI_len _ _ (by omega)]; omega
                  · rw [turnI_len _ _ (by omega)]; omega
                all_goals exfalso
                all_goals first
                  | (have hx : 0 + jj.toNat * 2 + (R.length - jj.toNat) * 2 ≤ (flat elP.fl R).length := by rw [flat2]; omega
                     have hc : Nat.ble (0 + jj.toNat * 2 + (R.length - jj.toNat) * 2) (flat elP.fl R).length = false := g
                     rw [Nat.ble_eq_true_of_le hx] at hc
                     cases hc)
                  | (have hx : 0 + jj.toNat * 2 ≤ (flat elP.fl R).length := by rw [flat2]; omega
                     have hc : Nat.ble (0 + jj.toNat * 2) (flat elP.fl R).length = false := g
                     rw [Nat.ble_eq_true_of_le hx] at hc
                     cases hc)
                  | (have hc : Nat.ble (0 + (0 + (R.length - jj.toNat)) * 2) (rep ((0 : Int) + ((R.length - jj.toNat : Nat) : Int) + ((jj.toNat : Nat) : Int) - (0 - 0)).toNat [iv 0, iv 0]).length = false := g
                     rw [rep_len] at hc
                     rw [Nat.ble_eq_true_of_le (by show _ ≤ _ * 2; omega)] at hc
                     cases hc)
                  | (have hc : Nat.ble (0 + (0 + (R.length - jj.toNat) + jj.toNat) * 2) (putN (rep ((0 : Int) + ((R.length - jj.toNat : Nat) : Int) + ((jj.toNat : Nat) : Int) - (0 - 0)).toNat [iv 0, iv 0]) (0 + 0 * 2) (List.take ((R.length - jj.toNat) * 2) (List.drop (0 + jj.toNat * 2) (flat elP.fl R)))).length = false := g
                     rw [put_len (j := jj.toNat) (by omega) (by omega) rfl (by omega) (by omega)] at hc
                     rw [Nat.ble_eq_true_of_le (by omega)] at hc
                     cases hc)
                  | trace_state
              · exfalso
                have hg : decide (R.length ≤ 1000000000) = false := g6
                rw [decide_eq_false_iff_not] at hg
                omega
            · exfalso
              have hg : (decide (0 < R.length) && decide (R.length ≤ 1000000000)) = false := g5
              simp only [Bool.and_eq_false_iff, decide_eq_false_iff_not] at hg
              omega
        · exfalso
          have hg : (decide (R.length ≤ 400) && R.all rightS) = false := g2
          rw [hRr, Bool.and_true, decide_eq_false_iff_not] at hg
          omega
end Go.Aw
