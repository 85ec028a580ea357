/-
  Lengths. No condition.
-/
import Derived.Test.YtagdfcdnfdpocaaGreatSe14
set_option linter.unusedSimpArgs false
set_option linter.unusedVariables false
noncomputable section
namespace Go.Aw
set_option maxRecDepth 100000
def mx (a b : Int) : Int := if a < b then b else a
theorem cA_add (a b : Int) : cfgS.A.add a b = a + b := rfl
theorem cA_sub (a b : Int) : cfgS.A.sub a b = a - b := rfl
theorem cA_mul (a b : Int) : cfgS.A.mul a b = a * b := rfl
theorem cA_neg (a : Int) : cfgS.A.neg a = 0 - a := rfl
theorem cA_lt (a b : Int) : cfgS.A.lt a b = decide (a < b) := rfl
theorem cA_le (a b : Int) : cfgS.A.le a b = decide (a ≤ b) := rfl
theorem cA_eq (a b : Int) : cfgS.A.eq a b = decide (a = b) := rfl
theorem cA_fits (k : IntKind) (a : Int) : cfgS.A.fits k a = fitsK k a := rfl
theorem cA_num (a : Nat) : cfgS.A.num a = (a : Int) := rfl
theorem cA_max (a b : Int) : cfgS.A.max a b = mx a b := rfl
theorem cA_andB (a b : Bool) : cfgS.A.andB a b = (a && b) := rfl
theorem cA_notB (a : Bool) : cfgS.A.notB a = !a := rfl
theorem cA_eqB (a b : Bool) : cfgS.A.eqB a b = (a == b) := rfl
theorem mx_low {d : Int} (h1 : -10000 ≤ d) (h2 : d ≤ 10000) : 0 ≤ mx d (0 - d) ∧ mx d (0 - d) ≤ 10000 := by
  unfold mx
  split <;> omega
theorem right_low {p : Int × Int} (h : rightS p = true) : 0 ≤ p.1 ∧ p.1 ≤ 10000 ∧ 0 ≤ p.2 ∧ p.2 ≤ 10000 := by
  simp only [rightS, Bool.and_eq_true, decide_eq_true_eq] at h
  omega
def distS (a b : Int × Int) : Int := mx (b.1 - a.1) (0 - (b.1 - a.1)) + mx (b.2 - a.2) (0 - (b.2 - a.2))
def at2 (l : List (Int × Int)) (i : Nat) : Int × Int := l.getD i (0, 0)
theorem at2_eq {l : List (Int × Int)} {i : Nat} (h : i < l.length) : at2 l i = l[i] := by
  unfold at2
  rw [List.getD_eq_getElem?_getD, List.getElem?_eq_getElem h]
  rfl
def sumI (l : List (Int × Int)) : Nat → Int
  | 0 => 0
  | i + 1 => sumI l i + (if i = 0 then 0 else distS (at2 l (i - 1)) (at2 l i))
theorem dist_low {a b : Int × Int} (ha : rightS a = true) (hb : rightS b = true) : 0 ≤ distS a b ∧ distS a b ≤ 20000 := by
  simp only [rightS, Bool.and_eq_true, decide_eq_true_eq] at ha hb
  unfold distS mx
  split <;> split <;> omega
theorem pt_x' (l : List (Int × Int)) {i o : Nat} (hi : i < l.length) (ho : o = i * 2) : nth (flat elP.fl l) o = some (iv (at2 l i).1) := by rw [at2_eq hi]; exact pt_x l hi ho
theorem pt_y' (l : List (Int × Int)) {i o : Nat} (hi : i < l.length) (ho : o = i * 2 + 1) : nth (flat elP.fl l) o = some (iv (at2 l i).2) := by rw [at2_eq hi]; exact pt_y l hi ho
theorem all_at {l : List (Int × Int)} (h : l.all rightS = true) {i : Nat} (hi : i < l.length) : rightS (at2 l i) = true := by rw [at2_eq hi]; exact all_get h hi
def lenS (l : List (Int × Int)) : Int := if l.length ≤ 400 ∧ l.all rightS = true then sumI l l.length else 0
def SLen (l : List (Int × Int)) : List Value → Option (Bool × Value)
  | [] => some (decide (l.length ≤ 1000000000), iv (lenS l))
  | _ => none
theorem SLen_inv {l : List (Int × Int)} {r : List Value} {v : Value} (hs : SLen l r = some (true, v)) : r = [] ∧ l.length ≤ 1000000000 ∧ v = iv (lenS l) := by
  unfold SLen at hs
  split at hs
  · injection hs with hs; injection hs with h1 h2; exact ⟨rfl, by simpa using h1, h2.symm⟩
  · cases hs
theorem heap1 (l : List (Int × Int)) : ∀ p ∈ ([(0, AObj.cells false true 2 (flat elP.fl l))] : Heap), p.1 < 1 ∧ ∃ o', look [(0, AObj.cells false true 2 (flat elP.fl l))] p.1 = some o' ∧ ObjRen id 1 p.2 o' :=
  List.forall_mem_cons.2 ⟨⟨Nat.one_pos, _, rfl, ObjRen_g (flat_g elP l)⟩, fun _ h => nomatch h⟩
def X30 : Nat × XF := (30, lX elP SLen)
theorem x30 : XOK Go.Proofs.Tryz.prog X30.1 X30.2 := lX_ok elP (body_calls (xl := [X54]) (.cons x54 .nil)) fun l r v hs => by
  obtain ⟨rfl, hlen, rfl⟩ := SLen_inv hs
  refine ⟨rfl, rfl, fun c => ?_⟩
  conv => whnf
  refine bm (fun h1 => ?_) (fun h1 => ?_)
  · conv => whnf
    refine ⟨l, LsAt_own elP rfl, ?_⟩
    conv => whnf
    refine bm (fun h2 => ?_) (fun h2 => ?_)
    · conv => whnf
      refine bm (fun h3 => ?_) (fun h3 => ?_)
      · conv => whnf
        unfold lenS
        rw [if_neg (fun h => by rw [h.2] at h3; cases h3)]
        rfl
      · have h3 : l.all rightS = true := by
          simp only [cA_notB, Bool.not_eq_false'] at h3
          exact h3
        have h1 : l.length ≤ 400 := by
          simp only [cA_eqB, cA_lt, cA_num, beq_iff_eq, decide_eq_false_iff_not] at h1
          omega
        conv => whnf
        refine ⟨fun n e h nx => ∃ (i : Nat) (j s : Int), j = i ∧ 1 ≤ i ∧ (i ≤ l.length ∨ i = 1) ∧ n = 500 - i ∧ s = sumI l i ∧ 0 ≤ s ∧ s ≤ 20000 * i ∧
          e = [(0, .slice (some ⟨0, 0, none⟩) l.length c), (3, iv s), (4, iv j)] ∧ h = [(0, .cells false true 2 (flat elP.fl l))] ∧ nx = 1, ⟨499, ?_⟩, ?_⟩
        · refine Into_id (e0 := [(0, .slice (some ⟨0, 0, none⟩) l.length c), (3, iv 0), (4, iv 1)]) (h0 := [(0, .cells false true 2 (flat elP.fl l))]) (n0 := 1)
            ⟨1, 1, 0, rfl, Nat.le_refl _, .inr rfl, rfl, rfl, by omega, by omega, rfl, rfl, rfl⟩ ?_ (heap1 l) (Nat.le_refl _)
          exact List.forall_mem_cons.2 ⟨⟨rfl, Nat.one_pos, fun h => nomatch h⟩, List.forall_mem_cons.2 ⟨⟨rfl, scT_g rfl⟩, List.forall_mem_cons.2 ⟨⟨rfl, scT_g rfl⟩, fun _ h => nomatch h⟩⟩⟩
        · rintro n e h nx ⟨i, j, s, hj, hi1, hi, rfl, hs1, hs0, hs2, rfl, rfl, rfl⟩
          conv => whnf
          refine bm (fun g1 => ?_) (fun g1 => ?_)
          · have hlt : i < l.length := by simp [cfgS, std] at g1; omega
            have hlt1 : i - 1 < l.length := by omega
            have r1 := all_at h3 hlt
            have r2 := all_at h3 hlt1
            have hd := dist_low r2 r1
            have hsum : sumI l (i + 1) = sumI l i + distS (at2 l (i - 1)) (at2 l i) := by
              simp only [sumI]
              rw [if_neg (by omega)]
            repeat' first
              | (conv => whnf
                 refine bm (fun g => ?_) (fun g => ?_))
              | (conv => whnf
                 refine boV (pt_x' l hlt ?_) ?_
                 · simp [cfgS, std]; omega)
              | (conv => whnf
                 refine boV (pt_x' l hlt1 ?_) ?_
                 · simp [cfgS, std]; omega)
              | (conv => whnf
                 refine boV (pt_y' l hlt ?_) ?_
                 · simp [cfgS, std]; omega)
              | (conv => whnf
                 refine boV (pt_y' l hlt1 ?_) ?_
                 · simp [cfgS, std]; omega)
            · conv => whnf
              refine ⟨500 - (i + 1), by omega, ?_⟩
              refine Into_id (e0 := [(0, .slice (some ⟨0, 0, none⟩) l.length c), (3, iv (s + distS (at2 l (i - 1)) (at2 l i))), (4, iv (j + 1))]) (h0 := [(0, .cells false true 2 (flat elP.fl l))]) (n0 := 1)
                ⟨i + 1, j + 1, _, by omega, by omega, .inl (by omega), rfl, by omega, by omega, by omega, rfl, rfl, rfl⟩ ?_ (heap1 l) (Nat.le_refl _)
              exact List.forall_mem_cons.2 ⟨⟨rfl, Nat.one_pos, fun h => nomatch h⟩, List.forall_mem_cons.2 ⟨⟨rfl, scT_g rfl⟩, List.forall_mem_cons.2 ⟨⟨rfl, scT_g rfl⟩, fun _ h => nomatch h⟩⟩⟩
            all_goals (
              have q1 := right_low r1
              have q2 := right_low r2
              have m1 := mx_low (d := (at2 l i).1 - (at2 l (i - 1)).1) (by omega) (by omega)
              have m2 := mx_low (d := (at2 l i).2 - (at2 l (i - 1)).2) (by omega) (by omega)
              simp only [cA_add, cA_sub, cA_neg, cA_lt, cA_le, cA_fits, cA_num, cA_max, cA_andB, fitsK, Bool.eq_false_iff, ne_eq, Bool.and_eq_true, decide_eq_true_eq] at g
              omega)
          · conv => whnf
            have hge : l.length ≤ i := by simp [cfgS, std] at g1; omega
            unfold lenS
            rw [if_pos ⟨h1, h3⟩]
            rcases hi with hi | hi
            · rw [show l.length = i by omega, ← hs1]
            · subst hi
              have : sumI l 1 = 0 := by simp [sumI]
              have h0 : sumI l l.length = 0 := by
                rcases Nat.lt_or_ge l.length 1 with h | h
                · rw [show l.length = 0 by omega]; rfl
                · rw [show l.length = 1 by omega]; exact this
              rw [h0, ← this, ← hs1]
    · exact absurd hlen (by simpa using h2)
  · conv => whnf
    unfold lenS
    rw [if_neg]
    · rfl
    · simp only [cA_eqB, cA_lt, cA_num, beq_eq_false_iff_ne, ne_eq, decide_eq_false_iff_not, Decidable.not_not] at h1
      omega

def X31 : Nat × XF := (31, lX elP SLen)
theorem mx_flip (a b : Int) : mx (a - b) (b - a) = mx (a - b) (0 - (a - b)) := by
  unfold mx
  split <;> split <;> omega
theorem x31 : XOK Go.Proofs.Tryz.prog X31.1 X31.2 := lX_ok elP (body_calls (xl := [X80]) (.cons x80 .nil)) fun l r v hs => by
  obtain ⟨rfl, hlen, rfl⟩ := SLen_inv hs
  refine ⟨rfl, rfl, fun c => ?_⟩
  conv => whnf
  refine ⟨l, LsAt_own elP rfl, ?_⟩
  conv => whnf
  refine bm (fun h2 => ?_) (fun h2 => ?_)
  · conv => whnf
    refine bm (fun h3 => ?_) (fun h3 => ?_)
    · conv => whnf
      refine bm (fun h1 => ?_) (fun h1 => ?_)
      · conv => whnf
        unfold lenS
        rw [if_neg]
        · rfl
        · simp only [cA_lt, cA_num, decide_eq_true_eq] at h1
          omega
      · have h3 : l.all rightS = true := by
          simp only [cA_notB, cA_eqB, beq_iff_eq, Bool.not_eq_false'] at h3
          exact h3
        have h1 : l.length ≤ 400 := by
          simp only [cA_lt, cA_num, decide_eq_false_iff_not] at h1
          omega
        conv => whnf
        refine ⟨fun n e h nx => ∃ (i : Nat) (j s : Int), j = i ∧ 1 ≤ i ∧ (i ≤ l.length ∨ i = 1) ∧ n = 500 - i ∧ s = sumI l i ∧ 0 ≤ s ∧ s ≤ 20000 * i ∧
          e = [(0, .slice (some ⟨0, 0, none⟩) l.length c), (4, iv s), (5, iv j)] ∧ h = [(0, .cells false true 2 (flat elP.fl l))] ∧ nx = 1, ⟨499, ?_⟩, ?_⟩
        · refine Into_id (e0 := [(0, .slice (some ⟨0, 0, none⟩) l.length c), (4, iv 0), (5, iv 1)]) (h0 := [(0, .cells false true 2 (flat elP.fl l))]) (n0 := 1)
            ⟨1, 1, 0, rfl, Nat.le_refl _, .inr rfl, rfl, rfl, by omega, by omega, rfl, rfl, rfl⟩ ?_ (heap1 l) (Nat.le_refl _)
          exact List.forall_mem_cons.2 ⟨⟨rfl, Nat.one_pos, fun h => nomatch h⟩, List.forall_mem_cons.2 ⟨⟨rfl, scT_g rfl⟩, List.forall_mem_cons.2 ⟨⟨rfl, scT_g rfl⟩, fun _ h => nomatch h⟩⟩⟩
        · rintro n e h nx ⟨i, j, s, hj, hi1, hi, rfl, hs1, hs0, hs2, rfl, rfl, rfl⟩
          conv => whnf
          refine bm (fun g1 => ?_) (fun g1 => ?_)
          · have hlt : i < l.length := by simp [cfgS, std] at g1; omega
            have hlt1 : i - 1 < l.length := by omega
            have r1 := all_at h3 hlt
            have r2 := all_at h3 hlt1
            have hd := dist_low r2 r1
            have hsum : sumI l (i + 1) = sumI l i + distS (at2 l (i - 1)) (at2 l i) := by
              simp only [sumI]
              rw [if_neg (by omega)]
            repeat' first
              | (conv => whnf
                 refine bm (fun g => ?_) (fun g => ?_))
              | (conv => whnf
                 refine boV (pt_x' l hlt ?_) ?_
                 · simp [cfgS, std]; omega)
              | (conv => whnf
                 refine boV (pt_x' l hlt1 ?_) ?_
                 · simp [cfgS, std]; omega)
              | (conv => whnf
                 refine boV (pt_y' l hlt ?_) ?_
                 · simp [cfgS, std]; omega)
              | (conv => whnf
                 refine boV (pt_y' l hlt1 ?_) ?_
                 · simp [cfgS, std]; omega)
            have q1 := right_low r1
            have q2 := right_low r2
            have m1 := mx_low (d := (at2 l i).1 - (at2 l (i - 1)).1) (by omega) (by omega)
            have m2 := mx_low (d := (at2 l i).2 - (at2 l (i - 1)).2) (by omega) (by omega)
            have f1 := mx_flip (at2 l i).1 (at2 l (i - 1)).1
            have f2 := mx_flip (at2 l i).2 (at2 l (i - 1)).2
            · conv => whnf
              refine ⟨500 - (i + 1), by omega, ?_⟩
              refine Into_id (e0 := [(0, .slice (some ⟨0, 0, none⟩) l.length c), (4, iv (s + mx ((at2 l i).1 - (at2 l (i - 1)).1) ((at2 l (i - 1)).1 - (at2 l i).1) + mx ((at2 l i).2 - (at2 l (i - 1)).2) ((at2 l (i - 1)).2 - (at2 l i).2))), (5, iv (j + 1))]) (h0 := [(0, .cells false true 2 (flat elP.fl l))]) (n0 := 1)
                ⟨i + 1, j + 1, _, by omega, by omega, .inl (by omega), rfl, by rw [hsum, f1, f2, hs1]; unfold distS; omega, by omega, by omega, rfl, rfl, rfl⟩ ?_ (heap1 l) (Nat.le_refl _)
              exact List.forall_mem_cons.2 ⟨⟨rfl, Nat.one_pos, fun h => nomatch h⟩, List.forall_mem_cons.2 ⟨⟨rfl, scT_g rfl⟩, List.forall_mem_cons.2 ⟨⟨rfl, scT_g rfl⟩, fun _ h => nomatch h⟩⟩⟩
            all_goals (
              have q1 := right_low r1
              have q2 := right_low r2
              have m1 := mx_low (d := (at2 l i).1 - (at2 l (i - 1)).1) (by omega) (by omega)
              have m2 := mx_low (d := (at2 l i).2 - (at2 l (i - 1)).2) (by omega) (by omega)
              have f1 := mx_flip (at2 l i).1 (at2 l (i - 1)).1
              have f2 := mx_flip (at2 l i).2 (at2 l (i - 1)).2
              simp only [cA_add, cA_sub, cA_neg, cA_lt, cA_le, cA_fits, cA_num, cA_max, cA_andB, fitsK, Bool.eq_false_iff, ne_eq, Bool.and_eq_true, decide_eq_true_eq] at g
              omega)
          · conv => whnf
            have hge : l.length ≤ i := by simp [cfgS, std] at g1; omega
            unfold lenS
            rw [if_pos ⟨h1, h3⟩]
            rcases hi with hi | hi
            · rw [show l.length = i by omega, ← hs1]
            · subst hi
              have : sumI l 1 = 0 := by simp [sumI]
              have h0 : sumI l l.length = 0 := by
                rcases Nat.lt_or_ge l.length 1 with h | h
                · rw [show l.length = 0 by omega]; rfl
                · rw [show l.length = 1 by omega]; exact this
              rw [h0, ← this, ← hs1]
    · conv => whnf
      unfold lenS
      rw [if_neg (fun h => by simp only [cA_notB, cA_eqB, h.2] at h3; cases h3)]
      rfl
  · exact absurd hlen (by simpa using h2)
end Go.Aw
