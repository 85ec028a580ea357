/-
  Box. No condition.
-/
import Derived.Test.YtagdfcdnfdpocaaGreatSe15
set_option linter.unusedSimpArgs false
set_option linter.unusedVariables false
noncomputable section
namespace Go.Aw
set_option maxRecDepth 100000
def mn (a b : Int) : Int := if b < a then b else a
def mnP (a p : Int × Int) : Int × Int := (mn a.1 p.1, mn a.2 p.2)
def mxP (a p : Int × Int) : Int × Int := (mx a.1 p.1, mx a.2 p.2)
def boxI (l : List (Int × Int)) : Nat → (Int × Int) × (Int × Int)
  | 0 => (at2 l 0, at2 l 0)
  | i + 1 => (mnP (boxI l i).1 (at2 l i), mxP (boxI l i).2 (at2 l i))
def noBox (l : List (Int × Int)) : Prop := l.length = 0 ∨ l.all rightS = false
instance (l : List (Int × Int)) : Decidable (noBox l) := inferInstanceAs (Decidable (_ ∨ _))
def loB (l : List (Int × Int)) : Int × Int := if noBox l then (0, 0) else (boxI l l.length).1
def hiB (l : List (Int × Int)) : Int × Int := if noBox l then (0, 0) else (boxI l l.length).2
def okB (l : List (Int × Int)) : Bool := if noBox l then false else true
def boxV (l : List (Int × Int)) : Value := .tuple #[ptv (loB l), ptv (hiB l), .bool (okB l)]
theorem boxV_no {l : List (Int × Int)} (h : noBox l) : boxV l = .tuple #[ptv (0, 0), ptv (0, 0), .bool false] := by simp only [boxV, loB, hiB, okB, if_pos h]
theorem boxV_yes {l : List (Int × Int)} (h : ¬ noBox l) : boxV l = .tuple #[ptv (boxI l l.length).1, ptv (boxI l l.length).2, .bool true] := by simp only [boxV, loB, hiB, okB, if_neg h]
theorem boxV_g (l : List (Int × Int)) : gT (boxV l) = true := rfl
def SBox (l : List (Int × Int)) : List Value → Option (Bool × Value)
  | [] => some (decide (l.length ≤ 1000000000), boxV l)
  | _ => none
theorem SBox_inv {l : List (Int × Int)} {r : List Value} {v : Value} (hs : SBox l r = some (true, v)) : r = [] ∧ l.length ≤ 1000000000 ∧ v = boxV l := by
  unfold SBox at hs
  split at hs
  · injection hs with hs; injection hs with h1 h2; exact ⟨rfl, by simpa using h1, h2.symm⟩
  · cases hs
theorem getP (l : List (Int × Int)) {i o : Nat} (hi : i < l.length) (ho : o = i * 2) : getN (flat elP.fl l) o 2 = some [iv (at2 l i).1, iv (at2 l i).2] := by
  rw [at2_eq hi]
  exact flat_get elP l hi ho
theorem ObjRen_i {ρ : Nat → Nat} {n sz : Nat} {wr g : Bool} {cs cs' : List Value} (hg : allG cs = true) (e : cs' = cs) : ObjRen ρ n (.cells wr g sz cs) (.cells wr g sz cs') := by
  subst e
  exact ObjRen_g hg
def hp3 (l : List (Int × Int)) (a b : Int × Int) : Heap := [(0, .cells false true 2 (flat elP.fl l)), (1, .cells true false 1 [iv a.1, iv a.2]), (2, .cells true false 1 [iv b.1, iv b.2])]
def X28 : Nat × XF := (28, lX elP SBox)
theorem x28 : XOK Go.Proofs.Tryz.prog X28.1 X28.2 := lX_ok elP (body_calls (xl := [X54]) (.cons x54 .nil)) fun l r v hs => by
  obtain ⟨rfl, hlen, rfl⟩ := SBox_inv hs
  refine ⟨rfl, boxV_g l, fun c => ?_⟩
  conv => whnf
  refine bm (fun h1 => ?_) (fun h1 => ?_)
  · conv => whnf
    refine ⟨l, LsAt_own elP rfl, ?_⟩
    conv => whnf
    refine bm (fun h2 => ?_) (fun h2 => ?_)
    · conv => whnf
      refine bm (fun h3 => ?_) (fun h3 => ?_)
      · conv => whnf
        have : l.all rightS = false := by simpa only [cA_notB, Bool.not_eq_true'] using h3
        rw [boxV_no (.inr this)]
        rfl
      · have h3 : l.all rightS = true := by simpa only [cA_notB, Bool.not_eq_false'] using h3
        have h0 : 0 < l.length := by
          simp only [cA_eqB, cA_eq, cA_num, beq_iff_eq, decide_eq_false_iff_not] at h1
          omega
        conv => whnf
        refine bm (fun h4 => ?_) (fun h4 => ?_)
        · conv => whnf
          refine boL (getP l h0 rfl) ?_
          conv => whnf
          refine bm (fun h5 => ?_) (fun h5 => ?_)
          · conv => whnf
            refine boL (getP l h0 rfl) ?_
            conv => whnf
            refine ⟨fun n e h nx => ∃ (i : Nat) (j : Int), j = i ∧ i ≤ l.length ∧ n = l.length - i ∧
              e = [(0, .slice (some ⟨0, 0, none⟩) l.length c), (2, .pointer (some ⟨1, 0, none⟩)), (3, .pointer (some ⟨2, 0, none⟩)), (23, .slice (some ⟨0, 0, none⟩) l.length c), (24, iv l.length), (25, iv j)] ∧ h = hp3 l (boxI l i).1 (boxI l i).2 ∧ nx = 3, ⟨l.length, ?_⟩, ?_⟩
            · refine Into_id (e0 := [(0, .slice (some ⟨0, 0, none⟩) l.length c), (2, .pointer (some ⟨1, 0, none⟩)), (3, .pointer (some ⟨2, 0, none⟩)), (23, .slice (some ⟨0, 0, none⟩) l.length c), (24, iv l.length), (25, iv 0)]) (h0 := hp3 l (boxI l 0).1 (boxI l 0).2) (n0 := 3)
                ⟨0, 0, by omega, by omega, rfl, rfl, rfl, rfl⟩ ?_ ?_ (by decide)
              · exact List.forall_mem_cons.2 ⟨⟨rfl, (by decide), fun h => nomatch h⟩, List.forall_mem_cons.2 ⟨⟨rfl, (by decide), rfl⟩, List.forall_mem_cons.2 ⟨⟨rfl, (by decide), rfl⟩, List.forall_mem_cons.2 ⟨⟨rfl, (by decide), fun h => nomatch h⟩, List.forall_mem_cons.2 ⟨⟨rfl, scT_g rfl⟩, List.forall_mem_cons.2 ⟨⟨rfl, scT_g rfl⟩, fun _ h => nomatch h⟩⟩⟩⟩⟩⟩
              · exact List.forall_mem_cons.2 ⟨⟨Nat.le_of_ble_eq_true rfl, _, rfl, ObjRen_g (flat_g elP l)⟩, List.forall_mem_cons.2 ⟨⟨Nat.le_of_ble_eq_true rfl, _, rfl, ObjRen_i rfl rfl⟩, List.forall_mem_cons.2 ⟨⟨Nat.le_of_ble_eq_true rfl, _, rfl, ObjRen_i rfl rfl⟩, fun _ h => nomatch h⟩⟩⟩
            · rintro n e h nx ⟨i, j, hj, hi, rfl, rfl, rfl, rfl⟩
              unfold hp3
              conv => whnf
              refine bm (fun g1 => ?_) (fun g1 => ?_)
              · have hlt : i < l.length := by simp [cfgS, std] at g1; omega
                conv => whnf
                refine bm (fun g => ?_) (fun g => ?_)
                · conv => whnf
                  refine boL (getP l hlt ?_) ?_
                  · simp [cfgS, std]; omega
                  conv => whnf
                  refine bm (fun g => ?_) (fun g => ?_)
                  · conv => whnf
                    refine ⟨l.length - (i + 1), by omega, ?_⟩
                    refine Into_id (e0 := [(0, .slice (some ⟨0, 0, none⟩) l.length c), (2, .pointer (some ⟨1, 0, none⟩)), (3, .pointer (some ⟨2, 0, none⟩)), (23, .slice (some ⟨0, 0, none⟩) l.length c), (24, iv l.length), (25, iv (j + 1))]) (h0 := hp3 l (boxI l (i + 1)).1 (boxI l (i + 1)).2) (n0 := 3)
                      ⟨(i + 1), (j + 1), by omega, by omega, rfl, rfl, rfl, rfl⟩ ?_ ?_ (by decide)
                    · exact List.forall_mem_cons.2 ⟨⟨rfl, (by decide), fun h => nomatch h⟩, List.forall_mem_cons.2 ⟨⟨rfl, (by decide), rfl⟩, List.forall_mem_cons.2 ⟨⟨rfl, (by decide), rfl⟩, List.forall_mem_cons.2 ⟨⟨rfl, (by decide), fun h => nomatch h⟩, List.forall_mem_cons.2 ⟨⟨rfl, scT_g rfl⟩, List.forall_mem_cons.2 ⟨⟨rfl, scT_g rfl⟩, fun _ h => nomatch h⟩⟩⟩⟩⟩⟩
                    · exact List.forall_mem_cons.2 ⟨⟨Nat.le_of_ble_eq_true rfl, _, rfl, ObjRen_g (flat_g elP l)⟩, List.forall_mem_cons.2 ⟨⟨Nat.le_of_ble_eq_true rfl, _, rfl, ObjRen_i rfl rfl⟩, List.forall_mem_cons.2 ⟨⟨Nat.le_of_ble_eq_true rfl, _, rfl, ObjRen_i rfl rfl⟩, fun _ h => nomatch h⟩⟩⟩
                  · simp only [cA_add, cA_fits, fitsK, Bool.eq_false_iff, ne_eq, Bool.and_eq_true, decide_eq_true_eq] at g
                    omega
                · simp only [cA_lt, cA_le, cA_andB, cA_num, Bool.eq_false_iff, ne_eq, Bool.and_eq_true, decide_eq_true_eq] at g
                  omega
              · conv => whnf
                have hge : i = l.length := by simp [cfgS, std] at g1; omega
                subst hge
                rw [boxV_yes (fun h => by
                  rcases h with h | h
                  · omega
                  · rw [h3] at h; cases h)]
                rfl
          · simp only [cA_lt, cA_le, cA_andB, cA_num, Bool.eq_false_iff, ne_eq, Bool.and_eq_true, decide_eq_true_eq] at h5
            omega
        · simp only [cA_lt, cA_le, cA_andB, cA_num, Bool.eq_false_iff, ne_eq, Bool.and_eq_true, decide_eq_true_eq] at h4
          omega
    · exact absurd hlen (by simpa using h2)
  · conv => whnf
    have : l.length = 0 := by
      simp only [cA_eqB, cA_eq, cA_num, beq_eq_false_iff_ne, ne_eq, decide_eq_false_iff_not, Decidable.not_not] at h1
      omega
    rw [boxV_no (.inl this)]
    rfl

def hp5 (l : List (Int × Int)) (a b : Int × Int) : Heap := [(0, .cells false true 2 (flat elP.fl l)), (1, .cells true false 1 [iv 0, iv 0]), (2, .cells true false 1 [iv 0, iv 0]), (3, .cells true false 1 [iv a.1, iv a.2]), (4, .cells true false 1 [iv b.1, iv b.2])]
def X29 : Nat × XF := (29, lX elP SBox)
theorem x29 : XOK Go.Proofs.Tryz.prog X29.1 X29.2 := lX_ok elP (body_calls (xl := [X80]) (.cons x80 .nil)) fun l r v hs => by
  obtain ⟨rfl, hlen, rfl⟩ := SBox_inv hs
  refine ⟨rfl, boxV_g l, fun c => ?_⟩
  conv => whnf
  refine ⟨l, LsAt_own elP rfl, ?_⟩
  conv => whnf
  refine bm (fun h2 => ?_) (fun h2 => ?_)
  · conv => whnf
    refine bm (fun h3 => ?_) (fun h3 => ?_)
    · have h3 : l.all rightS = true := by
        simp only [cA_eqB, cA_notB, beq_iff_eq, Bool.not_eq_false'] at h3
        exact h3
      conv => whnf
      refine bm (fun h1 => ?_) (fun h1 => ?_)
      · conv => whnf
        have : l.length = 0 := by
          simp only [cA_eq, cA_num, decide_eq_true_eq] at h1
          omega
        rw [boxV_no (.inl this)]
        rfl
      · have h0 : 0 < l.length := by
          simp only [cA_eq, cA_num, decide_eq_false_iff_not] at h1
          omega
        conv => whnf
        refine bm (fun h4 => ?_) (fun h4 => ?_)
        · conv => whnf
          refine boL (getP l h0 rfl) ?_
          conv => whnf
          refine bm (fun h5 => ?_) (fun h5 => ?_)
          · conv => whnf
            refine boL (getP l h0 rfl) ?_
            conv => whnf
            refine ⟨fun n e h nx => ∃ (i : Nat) (j : Int), j = i ∧ i ≤ l.length ∧ n = l.length - i ∧
              e = [(0, .slice (some ⟨0, 0, none⟩) l.length c), (2, .pointer (some ⟨1, 0, none⟩)), (3, .pointer (some ⟨2, 0, none⟩)), (6, .pointer (some ⟨3, 0, none⟩)), (7, .pointer (some ⟨4, 0, none⟩)), (8, iv j)] ∧ h = hp5 l (boxI l i).1 (boxI l i).2 ∧ nx = 5, ⟨l.length, ?_⟩, ?_⟩
            · refine Into_id (e0 := [(0, .slice (some ⟨0, 0, none⟩) l.length c), (2, .pointer (some ⟨1, 0, none⟩)), (3, .pointer (some ⟨2, 0, none⟩)), (6, .pointer (some ⟨3, 0, none⟩)), (7, .pointer (some ⟨4, 0, none⟩)), (8, iv 0)]) (h0 := hp5 l (boxI l 0).1 (boxI l 0).2) (n0 := 5)
                ⟨0, 0, by omega, by omega, rfl, rfl, rfl, rfl⟩ ?_ ?_ (by decide)
              · exact List.forall_mem_cons.2 ⟨⟨rfl, (by decide), fun h => nomatch h⟩, List.forall_mem_cons.2 ⟨⟨rfl, (by decide), rfl⟩, List.forall_mem_cons.2 ⟨⟨rfl, (by decide), rfl⟩, List.forall_mem_cons.2 ⟨⟨rfl, (by decide), rfl⟩, List.forall_mem_cons.2 ⟨⟨rfl, (by decide), rfl⟩, List.forall_mem_cons.2 ⟨⟨rfl, scT_g rfl⟩, fun _ h => nomatch h⟩⟩⟩⟩⟩⟩
              · exact List.forall_mem_cons.2 ⟨⟨Nat.le_of_ble_eq_true rfl, _, rfl, ObjRen_g (flat_g elP l)⟩, List.forall_mem_cons.2 ⟨⟨Nat.le_of_ble_eq_true rfl, _, rfl, ObjRen_i rfl rfl⟩, List.forall_mem_cons.2 ⟨⟨Nat.le_of_ble_eq_true rfl, _, rfl, ObjRen_i rfl rfl⟩, List.forall_mem_cons.2 ⟨⟨Nat.le_of_ble_eq_true rfl, _, rfl, ObjRen_i rfl rfl⟩, List.forall_mem_cons.2 ⟨⟨Nat.le_of_ble_eq_true rfl, _, rfl, ObjRen_i rfl rfl⟩, fun _ h => nomatch h⟩⟩⟩⟩⟩
            · rintro n e h nx ⟨i, j, hj, hi, rfl, rfl, rfl, rfl⟩
              unfold hp5
              conv => whnf
              refine bm (fun g1 => ?_) (fun g1 => ?_)
              · have hlt : i < l.length := by simp [cfgS, std] at g1; omega
                repeat' first
                  | (conv => whnf
                     refine bm (fun g => ?_) (fun g => ?_))
                  | (conv => whnf
                     refine boV (pt_x' l hlt ?_) ?_
                     · simp [cfgS, std]; omega)
                  | (conv => whnf
                     refine boV (pt_y' l hlt ?_) ?_
                     · simp [cfgS, std]; omega)
                · conv => whnf
                  refine ⟨l.length - (i + 1), by omega, ?_⟩
                  refine Into_id (e0 := [(0, .slice (some ⟨0, 0, none⟩) l.length c), (2, .pointer (some ⟨1, 0, none⟩)), (3, .pointer (some ⟨2, 0, none⟩)), (6, .pointer (some ⟨3, 0, none⟩)), (7, .pointer (some ⟨4, 0, none⟩)), (8, iv (j + 1))]) (h0 := hp5 l (boxI l (i + 1)).1 (boxI l (i + 1)).2) (n0 := 5)
                    ⟨(i + 1), (j + 1), by omega, by omega, rfl, rfl, rfl, rfl⟩ ?_ ?_ (by decide)
                  · exact List.forall_mem_cons.2 ⟨⟨rfl, (by decide), fun h => nomatch h⟩, List.forall_mem_cons.2 ⟨⟨rfl, (by decide), rfl⟩, List.forall_mem_cons.2 ⟨⟨rfl, (by decide), rfl⟩, List.forall_mem_cons.2 ⟨⟨rfl, (by decide), rfl⟩, List.forall_mem_cons.2 ⟨⟨rfl, (by decide), rfl⟩, List.forall_mem_cons.2 ⟨⟨rfl, scT_g rfl⟩, fun _ h => nomatch h⟩⟩⟩⟩⟩⟩
                  · exact List.forall_mem_cons.2 ⟨⟨Nat.le_of_ble_eq_true rfl, _, rfl, ObjRen_g (flat_g elP l)⟩, List.forall_mem_cons.2 ⟨⟨Nat.le_of_ble_eq_true rfl, _, rfl, ObjRen_i rfl rfl⟩, List.forall_mem_cons.2 ⟨⟨Nat.le_of_ble_eq_true rfl, _, rfl, ObjRen_i rfl rfl⟩, List.forall_mem_cons.2 ⟨⟨Nat.le_of_ble_eq_true rfl, _, rfl, ObjRen_i rfl rfl⟩, List.forall_mem_cons.2 ⟨⟨Nat.le_of_ble_eq_true rfl, _, rfl, ObjRen_i rfl rfl⟩, fun _ h => nomatch h⟩⟩⟩⟩⟩
                all_goals (
                  simp only [cA_add, cA_sub, cA_lt, cA_le, cA_fits, cA_num, cA_andB, fitsK, Bool.eq_false_iff, ne_eq, Bool.and_eq_true, decide_eq_true_eq] at g
                  omega)
              · conv => whnf
                have hge : i = l.length := by simp [cfgS, std] at g1; omega
                subst hge
                rw [boxV_yes (fun h => by
                  rcases h with h | h
                  · omega
                  · rw [h3] at h; cases h)]
                rfl
          · simp only [cA_lt, cA_le, cA_andB, cA_num, Bool.eq_false_iff, ne_eq, Bool.and_eq_true, decide_eq_true_eq] at h5
            omega
        · simp only [cA_lt, cA_le, cA_andB, cA_num, Bool.eq_false_iff, ne_eq, Bool.and_eq_true, decide_eq_true_eq] at h4
          omega
    · conv => whnf
      have : l.all rightS = false := by
        simp only [cA_eqB, cA_notB] at h3
        cases hq : l.all rightS with
        | true => rw [hq] at h3; cases h3
        | false => rfl
      rw [boxV_no (.inr this)]
      rfl
  · exact absurd hlen (by simpa using h2)
end Go.Aw
