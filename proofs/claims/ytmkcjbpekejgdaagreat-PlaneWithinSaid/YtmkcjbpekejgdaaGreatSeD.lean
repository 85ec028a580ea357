/-
  Parts of the proof, put together. No condition.
-/
import Derived.Test.YtmkcjbpekejgdaaGreatSeC
/-
  Lists of points: lengths. No condition.
-/
set_option linter.unusedSimpArgs false
set_option linter.unusedVariables false
noncomputable section
namespace Go.Aw
set_option maxRecDepth 100000
theorem nth_flat {α : Type} (E : El α) (l : List α) {i k o : Nat} {v : Value} (hi : i < l.length) (hk : (E.fl l[i])[k]? = some v) (hks : k < E.sz) (ho : o = i * E.sz + k) : nth (flat E.fl l) o = some v := by
  subst ho
  have h1 := flat_at E l i hi
  rw [nth_eq, ← hk, ← h1, List.getElem?_take_of_lt hks, List.getElem?_drop]
theorem pt_x (l : List (Int × Int)) {i o : Nat} (hi : i < l.length) (ho : o = i * 2) : nth (flat elP.fl l) o = some (iv l[i].1) :=
  nth_flat elP l (k := 0) hi rfl (by decide) (by simp [ho, elP])
theorem pt_y (l : List (Int × Int)) {i o : Nat} (hi : i < l.length) (ho : o = i * 2 + 1) : nth (flat elP.fl l) o = some (iv l[i].2) :=
  nth_flat elP l (k := 1) hi rfl (by decide) (by simp [ho, elP])
theorem all_get {l : List (Int × Int)} (h : l.all rightS = true) {i : Nat} (hi : i < l.length) : rightS l[i] = true := List.all_eq_true.1 h _ (List.getElem_mem hi)
/-- The reference's loop over all points. -/
def S80 (l : List (Int × Int)) : List Value → Option (Bool × Value)
  | [] => some (decide (l.length ≤ 1000000000), .bool (l.all rightS))
  | _ => none
def X80 : Nat × XF := (58, lX elP S80)
theorem x80 : XOK Go.Proofs.Tryz.prog X80.1 X80.2 := lX_ok elP (body_calls (xl := [X56]) (.cons x56 .nil)) fun l r v hs => by
  have : r = [] ∧ l.length ≤ 1000000000 ∧ v = .bool (l.all rightS) := by
    unfold S80 at hs
    split at hs
    · injection hs with hs; injection hs with h1 h2; exact ⟨rfl, by simpa using h1, h2.symm⟩
    · cases hs
  obtain ⟨rfl, hlen, rfl⟩ := this
  refine ⟨rfl, rfl, fun c => ?_⟩
  conv => whnf
  refine ⟨fun n e h nx => ∃ (i : Nat) (j : Int), j = i ∧ i ≤ l.length ∧ n = l.length - i ∧ l.all rightS = (l.drop i).all rightS ∧
    e = [(0, .slice (some ⟨0, 0, none⟩) l.length c), (3, iv j)] ∧ h = [(0, .cells false true 2 (flat elP.fl l))] ∧ nx = 1, ⟨l.length, ?_⟩, ?_⟩
  · refine Into_id (e0 := [(0, .slice (some ⟨0, 0, none⟩) l.length c), (3, iv 0)]) (h0 := [(0, .cells false true 2 (flat elP.fl l))]) (n0 := 1)
      ⟨0, 0, rfl, Nat.zero_le _, rfl, rfl, rfl, rfl, rfl⟩ ?_ ?_ (Nat.le_refl _)
    · exact List.forall_mem_cons.2 ⟨⟨rfl, Nat.one_pos, fun h => (by cases h)⟩, List.forall_mem_cons.2 ⟨⟨rfl, scT_g rfl⟩, fun _ h => (by cases h)⟩⟩
    · exact List.forall_mem_cons.2 ⟨⟨Nat.one_pos, _, rfl, ObjRen_g (flat_g elP l)⟩, fun _ h => (by cases h)⟩
  · rintro n e h nx ⟨i, j, hj, hi, rfl, hb, rfl, rfl, rfl⟩
    conv => whnf
    refine bm (fun h1 => ?_) (fun h1 => ?_)
    · have hlt : i < l.length := by simp [cfgS, std] at h1; omega
      conv => whnf
      refine bm (fun h2 => ?_) (fun h2 => ?_)
      · conv => whnf
        refine boL (flat_get elP l hlt ?ho) ?_
        case ho => simp [cfgS, std, elP, hj]
        have hd : l.drop i = l[i] :: l.drop (i + 1) := List.drop_eq_getElem_cons hlt
        rw [hd, List.all_cons] at hb
        generalize l[i] = p at hb
        obtain ⟨x, y⟩ := p
        conv => whnf
        refine bm (fun h3 => ?_) (fun h3 => ?_)
        · conv => whnf
          simp [cfgS, std] at h3
          rw [hb, h3]
          rfl
        · conv => whnf
          refine bm (fun h4 => ?_) (fun h4 => ?_)
          · conv => whnf
            simp [cfgS, std] at h3
            refine ⟨l.length - (i + 1), by omega, ?_⟩
            refine Into_id (e0 := [(0, .slice (some ⟨0, 0, none⟩) l.length c), (3, iv (j + 1))]) (h0 := [(0, .cells false true 2 (flat elP.fl l))]) (n0 := 1)
              ⟨i + 1, j + 1, by omega, hlt, rfl, ?_, rfl, rfl, rfl⟩ ?_ ?_ (Nat.le_refl _)
            · rw [hb, h3, Bool.true_and]
            · exact List.forall_mem_cons.2 ⟨⟨rfl, Nat.one_pos, fun h => (by cases h)⟩, List.forall_mem_cons.2 ⟨⟨rfl, scT_g rfl⟩, fun _ h => (by cases h)⟩⟩
            · exact List.forall_mem_cons.2 ⟨⟨Nat.one_pos, _, rfl, ObjRen_g (flat_g elP l)⟩, fun _ h => (by cases h)⟩
          · simp [cfgS, std, fitsK] at h4
            omega
      · simp [cfgS, std] at h2
        omega
    · have hlt : l.length ≤ i := by simp [cfgS, std] at h1; omega
      conv => whnf
      rw [hb, List.drop_eq_nil_of_le hlt]
      rfl
end Go.Aw
end

/-
  Lengths. No condition.
-/
set_option linter.unusedSimpArgs false
set_option linter.unusedVariables false
noncomputable section
namespace Go.Aw
set_option maxRecDepth 100000
def mx (a b : Int) : Int := if a < b then b else a
theorem cA_add (a b : Int) : cfgS.A.add a b = a + b := rfl
theorem cA_sub (a b : Int) : cfgS.A.sub a b = a - b := rfl
theorem cA_mul (a b : Int) : cfgS.A.mul a b = a * b := rfl
theorem cA_neg (a : Int) : cfgS.A.neg a = 0 - a := rfl
theorem cA_lt (a b : Int) : cfgS.A.lt a b = decide (a < b) := rfl
theorem cA_le (a b : Int) : cfgS.A.le a b = decide (a ≤ b) := rfl
theorem cA_eq (a b : Int) : cfgS.A.eq a b = decide (a = b) := rfl
theorem cA_fits (k : IntKind) (a : Int) : cfgS.A.fits k a = fitsK k a := rfl
theorem cA_num (a : Nat) : cfgS.A.num a = (a : Int) := rfl
theorem cA_max (a b : Int) : cfgS.A.max a b = mx a b := rfl
theorem cA_andB (a b : Bool) : cfgS.A.andB a b = (a && b) := rfl
theorem cA_notB (a : Bool) : cfgS.A.notB a = !a := rfl
theorem cA_eqB (a b : Bool) : cfgS.A.eqB a b = (a == b) := rfl
theorem mx_low {d : Int} (h1 : -10000 ≤ d) (h2 : d ≤ 10000) : 0 ≤ mx d (0 - d) ∧ mx d (0 - d) ≤ 10000 := by
  unfold mx
  split <;> omega
theorem right_low {p : Int × Int} (h : rightS p = true) : 0 ≤ p.1 ∧ p.1 ≤ 10000 ∧ 0 ≤ p.2 ∧ p.2 ≤ 10000 := by
  simp only [rightS, Bool.and_eq_true, decide_eq_true_eq] at h
  omega
def distS (a b : Int × Int) : Int := mx (b.1 - a.1) (0 - (b.1 - a.1)) + mx (b.2 - a.2) (0 - (b.2 - a.2))
def at2 (l : List (Int × Int)) (i : Nat) : Int × Int := l.getD i (0, 0)
theorem at2_eq {l : List (Int × Int)} {i : Nat} (h : i < l.length) : at2 l i = l[i] := by
  unfold at2
  rw [List.getD_eq_getElem?_getD, List.getElem?_eq_getElem h]
  rfl
def sumI (l : List (Int × Int)) : Nat → Int
  | 0 => 0
  | i + 1 => sumI l i + (if i = 0 then 0 else distS (at2 l (i - 1)) (at2 l i))
theorem dist_low {a b : Int × Int} (ha : rightS a = true) (hb : rightS b = true) : 0 ≤ distS a b ∧ distS a b ≤ 20000 := by
  simp only [rightS, Bool.and_eq_true, decide_eq_true_eq] at ha hb
  unfold distS mx
  split <;> split <;> omega
theorem pt_x' (l : List (Int × Int)) {i o : Nat} (hi : i < l.length) (ho : o = i * 2) : nth (flat elP.fl l) o = some (iv (at2 l i).1) := by rw [at2_eq hi]; exact pt_x l hi ho
theorem pt_y' (l : List (Int × Int)) {i o : Nat} (hi : i < l.length) (ho : o = i * 2 + 1) : nth (flat elP.fl l) o = some (iv (at2 l i).2) := by rw [at2_eq hi]; exact pt_y l hi ho
theorem all_at {l : List (Int × Int)} (h : l.all rightS = true) {i : Nat} (hi : i < l.length) : rightS (at2 l i) = true := by rw [at2_eq hi]; exact all_get h hi
def lenS (l : List (Int × Int)) : Int := if l.length ≤ 400 ∧ l.all rightS = true then sumI l l.length else 0
def SLen (l : List (Int × Int)) : List Value → Option (Bool × Value)
  | [] => some (decide (l.length ≤ 1000000000), iv (lenS l))
  | _ => none
theorem SLen_inv {l : List (Int × Int)} {r : List Value} {v : Value} (hs : SLen l r = some (true, v)) : r = [] ∧ l.length ≤ 1000000000 ∧ v = iv (lenS l) := by
  unfold SLen at hs
  split at hs
  · injection hs with hs; injection hs with h1 h2; exact ⟨rfl, by simpa using h1, h2.symm⟩
  · cases hs
theorem heap1 (l : List (Int × Int)) : ∀ p ∈ ([(0, AObj.cells false true 2 (flat elP.fl l))] : Heap), p.1 < 1 ∧ ∃ o', look [(0, AObj.cells false true 2 (flat elP.fl l))] p.1 = some o' ∧ ObjRen id 1 p.2 o' :=
  List.forall_mem_cons.2 ⟨⟨Nat.one_pos, _, rfl, ObjRen_g (flat_g elP l)⟩, fun _ h => (by cases h)⟩
def X30 : Nat × XF := (42, lX elP SLen)
theorem x30 : XOK Go.Proofs.Tryz.prog X30.1 X30.2 := lX_ok elP (body_calls (xl := [X54]) (.cons x54 .nil)) fun l r v hs => by
  obtain ⟨rfl, hlen, rfl⟩ := SLen_inv hs
  refine ⟨rfl, rfl, fun c => ?_⟩
  conv => whnf
  refine bm (fun h1 => ?_) (fun h1 => ?_)
  · conv => whnf
    refine ⟨l, LsAt_own elP rfl, ?_⟩
    conv => whnf
    refine bm (fun h2 => ?_) (fun h2 => ?_)
    · conv => whnf
      refine bm (fun h3 => ?_) (fun h3 => ?_)
      · conv => whnf
        unfold lenS
        rw [if_neg (fun h => by rw [h.2] at h3; cases h3)]
        rfl
      · have h3 : l.all rightS = true := by
          simp only [cA_notB, Bool.not_eq_false'] at h3
          exact h3
        have h1 : l.length ≤ 400 := by
          simp only [cA_eqB, cA_lt, cA_num, beq_iff_eq, decide_eq_false_iff_not] at h1
          omega
        conv => whnf
        refine ⟨fun n e h nx => ∃ (i : Nat) (j s : Int), j = i ∧ 1 ≤ i ∧ (i ≤ l.length ∨ i = 1) ∧ n = 500 - i ∧ s = sumI l i ∧ 0 ≤ s ∧ s ≤ 20000 * i ∧
          e = [(0, .slice (some ⟨0, 0, none⟩) l.length c), (3, iv s), (4, iv j)] ∧ h = [(0, .cells false true 2 (flat elP.fl l))] ∧ nx = 1, ⟨499, ?_⟩, ?_⟩
        · refine Into_id (e0 := [(0, .slice (some ⟨0, 0, none⟩) l.length c), (3, iv 0), (4, iv 1)]) (h0 := [(0, .cells false true 2 (flat elP.fl l))]) (n0 := 1)
            ⟨1, 1, 0, rfl, Nat.le_refl _, .inr rfl, rfl, rfl, by omega, by omega, rfl, rfl, rfl⟩ ?_ (heap1 l) (Nat.le_refl _)
          exact List.forall_mem_cons.2 ⟨⟨rfl, Nat.one_pos, fun h => (by cases h)⟩, List.forall_mem_cons.2 ⟨⟨rfl, scT_g rfl⟩, List.forall_mem_cons.2 ⟨⟨rfl, scT_g rfl⟩, fun _ h => (by cases h)⟩⟩⟩
        · rintro n e h nx ⟨i, j, s, hj, hi1, hi, rfl, hs1, hs0, hs2, rfl, rfl, rfl⟩
          conv => whnf
          refine bm (fun g1 => ?_) (fun g1 => ?_)
          · have hlt : i < l.length := by simp [cfgS, std] at g1; omega
            have hlt1 : i - 1 < l.length := by omega
            have r1 := all_at h3 hlt
            have r2 := all_at h3 hlt1
            have hd := dist_low r2 r1
            have hsum : sumI l (i + 1) = sumI l i + distS (at2 l (i - 1)) (at2 l i) := by
              simp only [sumI]
              rw [if_neg (by omega)]
            repeat' first
              | (conv => whnf
                 refine bm (fun g => ?_) (fun g => ?_))
              | (conv => whnf
                 refine boV (pt_x' l hlt ?_) ?_
                 · simp [cfgS, std]; omega)
              | (conv => whnf
                 refine boV (pt_x' l hlt1 ?_) ?_
                 · simp [cfgS, std]; omega)
              | (conv => whnf
                 refine boV (pt_y' l hlt ?_) ?_
                 · simp [cfgS, std]; omega)
              | (conv => whnf
                 refine boV (pt_y' l hlt1 ?_) ?_
                 · simp [cfgS, std]; omega)
            · conv => whnf
              refine ⟨500 - (i + 1), by omega, ?_⟩
              refine Into_id (e0 := [(0, .slice (some ⟨0, 0, none⟩) l.length c), (3, iv (s + distS (at2 l (i - 1)) (at2 l i))), (4, iv (j + 1))]) (h0 := [(0, .cells false true 2 (flat elP.fl l))]) (n0 := 1)
                ⟨i + 1, j + 1, _, by omega, by omega, .inl (by omega), rfl, by omega, by omega, by omega, rfl, rfl, rfl⟩ ?_ (heap1 l) (Nat.le_refl _)
              exact List.forall_mem_cons.2 ⟨⟨rfl, Nat.one_pos, fun h => (by cases h)⟩, List.forall_mem_cons.2 ⟨⟨rfl, scT_g rfl⟩, List.forall_mem_cons.2 ⟨⟨rfl, scT_g rfl⟩, fun _ h => (by cases h)⟩⟩⟩
            all_goals (
              have q1 := right_low r1
              have q2 := right_low r2
              have m1 := mx_low (d := (at2 l i).1 - (at2 l (i - 1)).1) (by omega) (by omega)
              have m2 := mx_low (d := (at2 l i).2 - (at2 l (i - 1)).2) (by omega) (by omega)
              simp only [cA_add, cA_sub, cA_neg, cA_lt, cA_le, cA_fits, cA_num, cA_max, cA_andB, fitsK, Bool.eq_false_iff, ne_eq, Bool.and_eq_true, decide_eq_true_eq] at g
              omega)
          · conv => whnf
            have hge : l.length ≤ i := by simp [cfgS, std] at g1; omega
            unfold lenS
            rw [if_pos ⟨h1, h3⟩]
            rcases hi with hi | hi
            · rw [show l.length = i by omega, ← hs1]
            · subst hi
              have : sumI l 1 = 0 := by simp [sumI]
              have h0 : sumI l l.length = 0 := by
                rcases Nat.lt_or_ge l.length 1 with h | h
                · rw [show l.length = 0 by omega]; rfl
                · rw [show l.length = 1 by omega]; exact this
              rw [h0, ← this, ← hs1]
    · exact absurd hlen (by simpa using h2)
  · conv => whnf
    unfold lenS
    rw [if_neg]
    · rfl
    · simp only [cA_eqB, cA_lt, cA_num, beq_eq_false_iff_ne, ne_eq, decide_eq_false_iff_not, Decidable.not_not] at h1
      omega

theorem mx_flip (a b : Int) : mx (a - b) (b - a) = mx (a - b) (0 - (a - b)) := by
  unfold mx
  split <;> split <;> omega
end Go.Aw
end

/-
  How two segments meet: the program's. No condition.
-/
set_option linter.unusedSimpArgs false
set_option linter.unusedVariables false
noncomputable section
namespace Go.Aw
set_option maxRecDepth 100000
def lowS (s t : Sg) : Int × Int := if ordS (endsS s).1 (endsS t).1 < 0 then (endsS t).1 else (endsS s).1
def highS (s t : Sg) : Int × Int := if ordS (endsS t).2 (endsS s).2 < 0 then (endsS t).2 else (endsS s).2
def tblS (o : Int) : Int := if o = -1 then 4 else if o = 0 then 1 else 0
def kindS (a b c d : Int) : Int :=
  if 0 < a * b ∨ 0 < c * d then 0
  else if (c = 0 ∨ d = 0) ∧ (a = 0 ∨ b = 0) then 1
  else if (c = 0 ∨ d = 0) ∨ (a = 0 ∨ b = 0) then 2
  else 3
def meetS (s t : Sg) : Int :=
  if turnS s.1 s.2 t.1 = 0 ∧ turnS s.1 s.2 t.2 = 0 then tblS (ordS (lowS s t) (highS s t))
  else kindS (turnS s.1 s.2 t.1) (turnS s.1 s.2 t.2) (turnS t.1 t.2 s.1) (turnS t.1 t.2 s.2)
def u8 (n : Int) : Value := .int .u8 n
theorem ordS_low (a b : Int × Int) : ordS a b = -1 ∨ ordS a b = 0 ∨ ordS a b = 1 := by
  unfold ordS orI cmpI
  split <;> split <;> (try split) <;> (try split) <;> omega
theorem nth_tbl {o : Int} (h : o = -1 ∨ o = 0 ∨ o = 1) {k : Nat} (hk : k = (o + 1).toNat) : nth [u8 4, u8 1, u8 0] k = some (u8 (tblS o)) := by
  subst hk
  rcases h with rfl | rfl | rfl <;> rfl
theorem fit_ord (a b : Int × Int) : cfgS.A.fits .i64 (cfgS.A.add (ordS a b) 1) = true := by
  rcases ordS_low a b with e | e | e <;> rw [e] <;> rfl
theorem ix_ord (a b : Int × Int) : cfgS.A.andB (cfgS.A.le 0 (cfgS.A.add (ordS a b) 1)) (cfgS.A.lt (cfgS.A.add (ordS a b) 1) (cfgS.A.num 3)) = true := by
  rcases ordS_low a b with e | e | e <;> rw [e] <;> rfl
def X68 : Nat × XF := (56, gX (s2 cS cS fun s t => (wideS s && wideS t, u8 (meetS s t))))
theorem x68 : XOK Go.Proofs.Tryz.prog X68.1 X68.2 := x2 cS cS (xl := [X55, X74, X106]) (.cons x55 (.cons x74 (.cons x106 .nil))) (fun _ _ => rfl) fun s t hp => by
  obtain ⟨⟨ax, ay⟩, ⟨bx, b2⟩⟩ := s
  obtain ⟨⟨cx, cy⟩, ⟨dx, dy⟩⟩ := t
  have l1 := turn_low (ax, ay) (bx, b2) (cx, cy)
  have l2 := turn_low (ax, ay) (bx, b2) (dx, dy)
  have l3 := turn_low (cx, cy) (dx, dy) (ax, ay)
  have l4 := turn_low (cx, cy) (dx, dy) (bx, b2)
  have m1 := mulB (A := 1) (B := 1) l1.1 l1.2 l2.1 l2.2
  have m2 := mulB (A := 1) (B := 1) l3.1 l3.2 l4.1 l4.2
  simp only [wideS, Bool.and_eq_true] at hp
  unfold Does1
  repeat' (conv => whnf
           refine bm (fun h => ?_) (fun h => ?_))
  all_goals (try (refine boV (nth_tbl (ordS_low _ _) (by show 0 + (_ + 1 : Int).toNat * 1 = _; rw [Nat.zero_add, Nat.mul_one])) ?_))
  all_goals (try (conv => whnf))
  all_goals (clear l3 l4)
  all_goals first
    | (show _ = _
       simp only [cA_add, cA_mul, cA_lt, cA_eq, cA_fits, cA_eqB, cA_andB, cA_notB, cA_le, cA_num, fitsK, pEta, Bool.and_eq_true, beq_iff_eq, beq_eq_false_iff_ne, ne_eq, decide_eq_true_eq, decide_eq_false_iff_not, not_and, Bool.not_eq_true', Bool.not_eq_false'] at *
       simp only [meetS, kindS, lowS, highS]
       simp_all [u8, iv]
       done)
    | (show _ = _
       simp only [cA_lt, cA_eq, cA_eqB, pEta, beq_iff_eq, decide_eq_true_eq, decide_eq_false_iff_not] at *
       simp only [meetS, lowS, highS, *, and_self, if_true, if_false]
       done)
    | (rw [fit_ord] at h; cases h)
    | (rw [ix_ord] at h; cases h)
    | (simp [hp] at h; done)
    | (simp only [cA_mul, cA_fits, fitsK, pEta, Bool.eq_false_iff, ne_eq, Bool.and_eq_true, decide_eq_true_eq] at h; omega)
    | skip
  trace_state
end Go.Aw
end

/-
  Box. No condition.
-/
set_option linter.unusedSimpArgs false
set_option linter.unusedVariables false
noncomputable section
namespace Go.Aw
set_option maxRecDepth 100000
def mn (a b : Int) : Int := if b < a then b else a
def mnP (a p : Int × Int) : Int × Int := (mn a.1 p.1, mn a.2 p.2)
def mxP (a p : Int × Int) : Int × Int := (mx a.1 p.1, mx a.2 p.2)
def boxI (l : List (Int × Int)) : Nat → (Int × Int) × (Int × Int)
  | 0 => (at2 l 0, at2 l 0)
  | i + 1 => (mnP (boxI l i).1 (at2 l i), mxP (boxI l i).2 (at2 l i))
def noBox (l : List (Int × Int)) : Prop := l.length = 0 ∨ l.all rightS = false
instance (l : List (Int × Int)) : Decidable (noBox l) := inferInstanceAs (Decidable (_ ∨ _))
def loB (l : List (Int × Int)) : Int × Int := if noBox l then (0, 0) else (boxI l l.length).1
def hiB (l : List (Int × Int)) : Int × Int := if noBox l then (0, 0) else (boxI l l.length).2
def okB (l : List (Int × Int)) : Bool := if noBox l then false else true
def boxV (l : List (Int × Int)) : Value := .tuple #[ptv (loB l), ptv (hiB l), .bool (okB l)]
theorem boxV_no {l : List (Int × Int)} (h : noBox l) : boxV l = .tuple #[ptv (0, 0), ptv (0, 0), .bool false] := by simp only [boxV, loB, hiB, okB, if_pos h]
theorem boxV_yes {l : List (Int × Int)} (h : ¬ noBox l) : boxV l = .tuple #[ptv (boxI l l.length).1, ptv (boxI l l.length).2, .bool true] := by simp only [boxV, loB, hiB, okB, if_neg h]
theorem boxV_g (l : List (Int × Int)) : gT (boxV l) = true := rfl
def SBox (l : List (Int × Int)) : List Value → Option (Bool × Value)
  | [] => some (decide (l.length ≤ 1000000000), boxV l)
  | _ => none
theorem SBox_inv {l : List (Int × Int)} {r : List Value} {v : Value} (hs : SBox l r = some (true, v)) : r = [] ∧ l.length ≤ 1000000000 ∧ v = boxV l := by
  unfold SBox at hs
  split at hs
  · injection hs with hs; injection hs with h1 h2; exact ⟨rfl, by simpa using h1, h2.symm⟩
  · cases hs
theorem getP (l : List (Int × Int)) {i o : Nat} (hi : i < l.length) (ho : o = i * 2) : getN (flat elP.fl l) o 2 = some [iv (at2 l i).1, iv (at2 l i).2] := by
  rw [at2_eq hi]
  exact flat_get elP l hi ho
theorem ObjRen_i {ρ : Nat → Nat} {n sz : Nat} {wr g : Bool} {cs cs' : List Value} (hg : allG cs = true) (e : cs' = cs) : ObjRen ρ n (.cells wr g sz cs) (.cells wr g sz cs') := by
  subst e
  exact ObjRen_g hg
def hp3 (l : List (Int × Int)) (a b : Int × Int) : Heap := [(0, .cells false true 2 (flat elP.fl l)), (1, .cells true false 1 [iv a.1, iv a.2]), (2, .cells true false 1 [iv b.1, iv b.2])]
def hp5 (l : List (Int × Int)) (a b : Int × Int) : Heap := [(0, .cells false true 2 (flat elP.fl l)), (1, .cells true false 1 [iv 0, iv 0]), (2, .cells true false 1 [iv 0, iv 0]), (3, .cells true false 1 [iv a.1, iv a.2]), (4, .cells true false 1 [iv b.1, iv b.2])]
end Go.Aw
end
