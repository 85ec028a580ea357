/-
  Parts of the proof, put together. No condition.
-/
import Derived.Test.YtmkcjbpekejgdaaGreatSeE
import Derived.Test.YtmkcjbpekejgdaaGreatSeF
/-
  Heights of segments: both. No condition.
-/
set_option linter.unusedSimpArgs false
set_option linter.unusedVariables false
noncomputable section
namespace Go.Aw
set_option maxRecDepth 100000
def X73 : Nat × XF := (125, gX (s1 cS fun s => (true, .bool (decide (s.1.1 = s.2.1)))))
theorem x73 : XOK Go.Proofs.Tryz.prog X73.1 X73.2 := x1 cS (xl := []) .nil (fun _ => rfl) fun s _ => by
  obtain ⟨⟨ax, ay⟩, ⟨bx, b2⟩⟩ := s
  unfold Does1
  (conv => whnf)
  rfl
def hOK (h : Int × Int) : Bool := decide (-10000000000 ≤ h.1) && decide (h.1 ≤ 10000000000) && decide (-1000000 ≤ h.2) && decide (h.2 ≤ 1000000)
theorem hOK_iff {h : Int × Int} (e : hOK h = true) : -10000000000 ≤ h.1 ∧ h.1 ≤ 10000000000 ∧ -1000000 ≤ h.2 ∧ h.2 ≤ 1000000 := by
  simp only [hOK, Bool.and_eq_true, decide_eq_true_eq] at e
  omega
def cmpH (h o : Int × Int) : Int := cmpI (h.1 * o.2) (o.1 * h.2)
def X76 : Nat × XF := (107, gX (s2 cP cP fun h o => (hOK h && hOK o, iv (cmpH h o))))
theorem x76 : XOK Go.Proofs.Tryz.prog X76.1 X76.2 := x2 cP cP (xl := [X101]) (.cons x101 .nil) (fun _ _ => rfl) fun h o hp => by
  obtain ⟨a, b⟩ := h
  obtain ⟨c, d⟩ := o
  simp only [Bool.and_eq_true] at hp
  obtain ⟨a1, a2, b1, b2⟩ := hOK_iff hp.1
  obtain ⟨c1, c2, d1, d2⟩ := hOK_iff hp.2
  have m1 := mulB (A := 10000000000) (B := 1000000) a1 a2 d1 d2
  have m2 := mulB (A := 10000000000) (B := 1000000) c1 c2 b1 b2
  unfold Does1
  repeat' ((conv => whnf); refine bm (fun g => ?_) (fun g => ?_))
  all_goals (conv => whnf)
  all_goals first
    | (rfl; done)
    | (simp only [cA_mul, cA_fits, fitsK, Bool.eq_false_iff, ne_eq, Bool.and_eq_true, decide_eq_true_eq] at g; simp only at m1 m2; omega)
theorem cmp_sgn (a b : Int) : sgn (a - b) = cmpI a b := by
  unfold sgn cmpI
  split <;> split <;> (try split) <;> (try split) <;> omega
def X78 : Nat × XF := (111, gX (s2 cP cP fun h o => (hOK h && hOK o, iv (cmpH h o))))
theorem x78 : XOK Go.Proofs.Tryz.prog X78.1 X78.2 := x2 cP cP (xl := [X103]) (.cons x103 .nil) (fun _ _ => rfl) fun h o hp => by
  obtain ⟨a, b⟩ := h
  obtain ⟨c, d⟩ := o
  simp only [Bool.and_eq_true] at hp
  obtain ⟨a1, a2, b1, b2⟩ := hOK_iff hp.1
  obtain ⟨c1, c2, d1, d2⟩ := hOK_iff hp.2
  have m1 := mulB (A := 10000000000) (B := 1000000) a1 a2 d1 d2
  have m2 := mulB (A := 10000000000) (B := 1000000) c1 c2 b1 b2
  unfold Does1
  repeat' ((conv => whnf); refine bm (fun g => ?_) (fun g => ?_))
  all_goals (conv => whnf)
  all_goals first
    | (rw [cmpH, ← cmp_sgn]; rfl; done)
    | (simp only [cA_mul, cA_sub, cA_fits, fitsK, Bool.eq_false_iff, ne_eq, Bool.and_eq_true, decide_eq_true_eq] at g; simp only at m1 m2; omega)
/-! ### the height over a place -/
def atH (a b : Int × Int) (x2 : Int) : Int × Int := (2 * a.2 * (b.1 - a.1) + (b.2 - a.2) * (x2 - 2 * a.1), 2 * (b.1 - a.1))
def heiS (s : Sg) (x2 : Int) : Int × Int := atH (endsS s).1 (endsS s).2 x2
def xOK (x2 : Int) : Bool := decide (0 ≤ x2) && decide (x2 ≤ 20000)
def rightW (s : Sg) : Bool := rightS s.1 && rightS s.2
theorem ends_right {s : Sg} (h : rightW s = true) : rightS (endsS s).1 = true ∧ rightS (endsS s).2 = true := by
  simp only [rightW, Bool.and_eq_true] at h
  unfold endsS
  split
  · exact ⟨h.2, h.1⟩
  · exact h
theorem atH_B {a b : Int × Int} (ha : rightS a = true) (hb : rightS b = true) {x2 : Int} (h1 : 0 ≤ x2) (h2 : x2 ≤ 20000) :
    -200000000 ≤ 2 * a.2 * (b.1 - a.1) ∧ 2 * a.2 * (b.1 - a.1) ≤ 200000000 ∧ -400000000 ≤ (b.2 - a.2) * (x2 - 2 * a.1) ∧ (b.2 - a.2) * (x2 - 2 * a.1) ≤ 400000000 := by
  obtain ⟨a1, a2, a3, a4⟩ := right_low ha
  obtain ⟨b1, b2, b3, b4⟩ := right_low hb
  have m1 := mulB (a := 2 * a.2) (b := b.1 - a.1) (A := 20000) (B := 10000) (by omega) (by omega) (by omega) (by omega)
  have m2 := mulB (a := b.2 - a.2) (b := x2 - 2 * a.1) (A := 10000) (B := 40000) (by omega) (by omega) (by omega) (by omega)
  omega
theorem hei_OK {s : Sg} (h : rightW s = true) {x2 : Int} (hx : xOK x2 = true) : hOK (heiS s x2) = true := by
  obtain ⟨ha, hb⟩ := ends_right h
  simp only [xOK, Bool.and_eq_true, decide_eq_true_eq] at hx
  have := atH_B ha hb hx.1 hx.2
  obtain ⟨a1, a2, a3, a4⟩ := right_low ha
  obtain ⟨b1, b2, b3, b4⟩ := right_low hb
  unfold hOK heiS atH
  simp only [Bool.and_eq_true, decide_eq_true_eq]
  omega
def X75 : Nat × XF := (104, gX (s2 cS cI fun s x2 => (rightW s && xOK x2, ptv (heiS s x2))))
theorem x75 : XOK Go.Proofs.Tryz.prog X75.1 X75.2 := x2 cS cI (xl := [X74]) (.cons x74 .nil) (fun _ _ => rfl) fun s x2 hp => by
  simp only [Bool.and_eq_true] at hp
  obtain ⟨ha, hb⟩ := ends_right hp.1
  have hx := hp.2
  simp only [xOK, Bool.and_eq_true, decide_eq_true_eq] at hx
  have hB := atH_B ha hb hx.1 hx.2
  have la := right_low ha
  have lb := right_low hb
  have he : heiS s x2 = atH (endsS s).1 (endsS s).2 x2 := rfl
  clear hp ha hb
  obtain ⟨⟨ax, ay⟩, ⟨bx, b2⟩⟩ := s
  unfold Does1
  repeat' ((conv => whnf); refine bm (fun g => ?_) (fun g => ?_))
  all_goals (conv => whnf)
  all_goals first
    | (rfl; done)
    | (simp only [cA_mul, cA_sub, cA_add, cA_fits, fitsK, pEta, Bool.eq_false_iff, ne_eq, Bool.and_eq_true, decide_eq_true_eq] at g; omega)
end Go.Aw
end

/-
  Meet does not depend on order and direction; the points at which segments meet. Plain arithmetic. No condition.
-/
set_option linter.unusedSimpArgs false
set_option linter.unusedVariables false
namespace Go.Aw
theorem sgn_neg (n : Int) : sgn (-n) = -sgn n := by
  unfold sgn
  split <;> split <;> (try split) <;> (try split) <;> omega
theorem kind_sym (a b c d : Int) : kindS a b c d = kindS c d a b := by
  unfold kindS
  simp only [Or.comm (a := 0 < c * d), And.comm (a := c = 0 ∨ d = 0), Or.comm (a := c = 0 ∨ d = 0)]
theorem kind_back (a b c d : Int) : kindS b a (-c) (-d) = kindS a b c d := by
  unfold kindS
  simp only [Int.neg_mul_neg, Int.mul_comm b a, Int.neg_eq_zero, Or.comm (a := b = 0)]
def back (t : Sg) : Sg := (t.2, t.1)
theorem turn_back (t : Sg) (p : Int × Int) : turnS t.2 t.1 p = -turnS t.1 t.2 p := by
  unfold turnS
  rw [← sgn_neg]
  congr 1
  have := cross_base t.2 t.1 p t.1 (.inr rfl)
  rw [this, crossI, show t.1.1 - t.2.1 = -(t.2.1 - t.1.1) by omega, show t.1.2 - t.2.2 = -(t.2.2 - t.1.2) by omega, Int.neg_mul, Int.neg_mul]
  omega
theorem ends_back (t : Sg) (ht : rightG t = true) : endsS (back t) = endsS t := by
  obtain ⟨r1, r2, ns⟩ := right_two ht
  have n12 : key t.1 ≠ key t.2 := (eqP_keyf r1 r2).1 ((eqP_f _ _).2 ns)
  unfold endsS back
  simp only [ord_key r1 r2, ord_key r2 r1, cmp_gt]
  by_cases h : key t.2 < key t.1
  · rw [if_pos h, if_neg (by omega)]
  · rw [if_neg h, if_pos (by omega)]
theorem meet_back (s t : Sg) (ht : rightG t = true) : meetS s (back t) = meetS s t := by
  unfold meetS lowS highS
  rw [ends_back t ht]
  simp only [back, turn_back, kind_back, And.comm (a := turnS s.1 s.2 t.2 = 0)]
theorem rightG_back {t : Sg} (ht : rightG t = true) : rightG (back t) = true := by
  simp only [rightG, back, Bool.and_eq_true, Bool.not_eq_true'] at *
  exact ⟨⟨ht.1.2, ht.1.1⟩, by rw [eqP_comm]; exact ht.2⟩
theorem ends_key (s : Sg) (hs : rightG s = true) : rightS (endsS s).1 = true ∧ rightS (endsS s).2 = true ∧ key (endsS s).1 < key (endsS s).2 := by
  obtain ⟨r1, r2, ns⟩ := right_two hs
  have n12 : key s.1 ≠ key s.2 := (eqP_keyf r1 r2).1 ((eqP_f _ _).2 ns)
  unfold endsS
  simp only [ord_key r1 r2, cmp_gt]
  by_cases h : key s.2 < key s.1
  · rw [if_pos h]; exact ⟨r2, r1, h⟩
  · rw [if_neg h]; exact ⟨r1, r2, by simp only; omega⟩
theorem low_key (s t : Sg) (hs : rightG s = true) (ht : rightG t = true) : rightS (lowS s t) = true ∧ key (lowS s t) = max (key (endsS s).1) (key (endsS t).1) := by
  obtain ⟨ra1, ra2, _⟩ := ends_key s hs
  obtain ⟨rb1, rb2, _⟩ := ends_key t ht
  unfold lowS
  simp only [ord_key ra1 rb1, cmp_lt]
  by_cases hk : key (endsS s).1 < key (endsS t).1
  · rw [if_pos hk]; exact ⟨rb1, by omega⟩
  · rw [if_neg hk]; exact ⟨ra1, by omega⟩
theorem high_key (s t : Sg) (hs : rightG s = true) (ht : rightG t = true) : rightS (highS s t) = true ∧ key (highS s t) = min (key (endsS s).2) (key (endsS t).2) := by
  obtain ⟨ra1, ra2, _⟩ := ends_key s hs
  obtain ⟨rb1, rb2, _⟩ := ends_key t ht
  unfold highS
  simp only [ord_key rb2 ra2, cmp_lt]
  by_cases hk : key (endsS t).2 < key (endsS s).2
  · rw [if_pos hk]; exact ⟨rb2, by omega⟩
  · rw [if_neg hk]; exact ⟨ra2, by omega⟩
theorem meet_sym (s t : Sg) (hs : rightG s = true) (ht : rightG t = true) : meetS t s = meetS s t := by
  have ns := (right_two hs).2.2
  have nt := (right_two ht).2.2
  unfold meetS
  by_cases h : turnS s.1 s.2 t.1 = 0 ∧ turnS s.1 s.2 t.2 = 0
  · rw [if_pos h, if_pos (same_line t s ns h), ord_key (low_key t s ht hs).1 (high_key t s ht hs).1, ord_key (low_key s t hs ht).1 (high_key s t hs ht).1, (low_key t s ht hs).2, (high_key t s ht hs).2, (low_key s t hs ht).2, (high_key s t hs ht).2, Int.max_comm, Int.min_comm]
  · rw [if_neg h, if_neg fun h' => h (same_line s t nt h'), kind_sym]
/-- segments that meet in one point, the same from both sides -/
theorem ends_one (s t : Sg) (hs : rightG s = true) (ht : rightG t = true) (h : meetS s t = 1 ∨ meetS s t = 2) : ∃ p, endsL s t = [p] := by
  rw [meet_eq s t hs ht] at h
  unfold meetR at h
  split at h
  · split at h <;> omega
  · exact ⟨_, by assumption⟩
  · omega
theorem addE_mem {s t : Sg} {out : List (Int × Int)} {p x : Int × Int} : x ∈ addE s t out p ↔ x ∈ out ∨ (x = p ∧ onR p s = true ∧ onR p t = true) := by
  have hk : ∀ l, knownS p l = true ↔ p ∈ l := by
    intro l
    induction l with
    | nil => simp [knownS]
    | cons a r ih =>
      simp only [knownS, Bool.or_eq_true, ih, List.mem_cons, eqP_iff]
      constructor
      · rintro (h | h)
        · exact .inl h.symm
        · exact .inr h
      · rintro (h | h)
        · exact .inl h.symm
        · exact .inr h
  unfold addE
  split
  · rename_i h
    simp only [List.mem_append, List.mem_singleton]
    constructor
    · rintro (h1 | h1)
      · exact .inl h1
      · exact .inr ⟨h1, h.1, h.2.1⟩
    · rintro (h1 | h1)
      · exact .inl h1
      · exact .inr h1.1
  · rename_i h
    constructor
    · exact .inl
    · rintro (h1 | h1)
      · exact h1
      · have : knownS p out = true := by
          cases hq : knownS p out with
          | true => rfl
          | false => exact absurd ⟨h1.2.1, h1.2.2, hq⟩ h
        rw [h1.1]
        exact (hk out).1 this
theorem ends_mem {s t : Sg} {x : Int × Int} : x ∈ endsL s t ↔ (x = s.1 ∨ x = s.2 ∨ x = t.1 ∨ x = t.2) ∧ onR x s = true ∧ onR x t = true := by
  unfold endsL
  simp only [addE_mem, List.not_mem_nil, false_or]
  constructor
  · rintro (((⟨rfl, h⟩ | ⟨rfl, h⟩) | ⟨rfl, h⟩) | ⟨rfl, h⟩)
    · exact ⟨.inl rfl, h⟩
    · exact ⟨.inr (.inl rfl), h⟩
    · exact ⟨.inr (.inr (.inl rfl)), h⟩
    · exact ⟨.inr (.inr (.inr rfl)), h⟩
  · rintro ⟨rfl | rfl | rfl | rfl, h⟩
    · exact .inl (.inl (.inl ⟨rfl, h⟩))
    · exact .inl (.inl (.inr ⟨rfl, h⟩))
    · exact .inl (.inr ⟨rfl, h⟩)
    · exact .inr ⟨rfl, h⟩
end Go.Aw

/-
  Edges of polygons: both. No condition.
-/
set_option linter.unusedSimpArgs false
set_option linter.unusedVariables false
noncomputable section
namespace Go.Aw
set_option maxRecDepth 100000
def edgeS (l : List (Int × Int)) (i : Nat) : Sg := (at2 l i, at2 l ((i + 1) % l.length))
def SEdge (l : List (Int × Int)) : List Value → Option (Bool × Value)
  | [.int .i64 j] => some (decide (0 ≤ j) && decide (j < l.length) && decide (l.length ≤ 1000000000), sgv (edgeS l j.toNat))
  | _ => none
theorem SEdge_inv {l : List (Int × Int)} {r : List Value} {v : Value} (hs : SEdge l r = some (true, v)) : ∃ (i : Nat) (j : Int), j = i ∧ r = [iv j] ∧ i < l.length ∧ l.length ≤ 1000000000 ∧ v = sgv (edgeS l i) := by
  unfold SEdge at hs
  split at hs
  · rename_i j
    injection hs with hs; injection hs with h1 h2
    simp only [Bool.and_eq_true, decide_eq_true_eq] at h1
    refine ⟨j.toNat, j, by omega, rfl, by omega, h1.2, h2.symm⟩
  · cases hs
theorem cA_rem (a b : Int) : cfgS.A.rem a b = a.tmod b := rfl
theorem tmod_nat {i n : Nat} : ((i : Int) + 1).tmod (n : Int) = ((i + 1) % n : Nat) := by
  rw [show (i : Int) + 1 = ((i + 1 : Nat) : Int) from rfl]
  exact (Int.ofNat_tmod (i + 1) n).symm
def X81 : Nat × XF := (57, lX elP SEdge)
theorem x81 : XOK Go.Proofs.Tryz.prog X81.1 X81.2 := lX_ok elP (body_calls (xl := []) .nil) fun l r v hs => by
  obtain ⟨i, j, hj, rfl, hlt, hlen, rfl⟩ := SEdge_inv hs
  refine ⟨rfl, rfl, fun c => ?_⟩
  have h0 : 0 < l.length := by omega
  have hm : (i + 1) % l.length < l.length := Nat.mod_lt _ h0
  have ht : (j + 1).tmod (l.length : Int) = ((i + 1) % l.length : Nat) := by rw [hj]; exact tmod_nat
  unfold edgeS
  ((conv => whnf); refine bm (fun g => ?_) (fun g => ?_))
  · (conv => whnf)
    refine boL (getP l hlt ?_) ?_
    · simp [cfgS, std]; omega
    ((conv => whnf); refine bm (fun g1 => ?_) (fun g1 => ?_))
    · ((conv => whnf); refine bm (fun g2 => ?_) (fun g2 => ?_))
      · ((conv => whnf); refine bm (fun g3 => ?_) (fun g3 => ?_))
        · (conv => whnf)
          refine boL (getP l hm ?_) ?_
          · show 0 + ((j + 1).tmod (l.length : Int)).toNat * 2 = _
            rw [ht, Int.toNat_natCast, Nat.zero_add]
          (conv => whnf)
          rfl
        · simp only [cA_rem, cA_lt, cA_le, cA_andB, cA_num, cA_add, Bool.eq_false_iff, ne_eq, Bool.and_eq_true, decide_eq_true_eq] at g3; omega
      · simp only [cA_notB, cA_eq, cA_num, Bool.not_eq_false', decide_eq_true_eq] at g2; omega
    · simp only [cA_add, cA_fits, fitsK, Bool.eq_false_iff, ne_eq, Bool.and_eq_true, decide_eq_true_eq] at g1; omega
  · simp only [cA_lt, cA_le, cA_andB, cA_num, Bool.eq_false_iff, ne_eq, Bool.and_eq_true, decide_eq_true_eq] at g; omega
def X84 : Nat × XF := (61, lX elP SEdge)
theorem x84 : XOK Go.Proofs.Tryz.prog X84.1 X84.2 := lX_ok elP (body_calls (xl := []) .nil) fun l r v hs => by
  obtain ⟨i, j, hj, rfl, hlt, hlen, rfl⟩ := SEdge_inv hs
  refine ⟨rfl, rfl, fun c => ?_⟩
  have h0 : 0 < l.length := by omega
  have hm : (i + 1) % l.length < l.length := Nat.mod_lt _ h0
  have ht : (j + 1).tmod (l.length : Int) = ((i + 1) % l.length : Nat) := by rw [hj]; exact tmod_nat
  unfold edgeS
  ((conv => whnf); refine bm (fun g => ?_) (fun g => ?_))
  · (conv => whnf)
    refine boL (getP l hlt ?_) ?_
    · simp [cfgS, std]; omega
    ((conv => whnf); refine bm (fun g1 => ?_) (fun g1 => ?_))
    · ((conv => whnf); refine bm (fun g2 => ?_) (fun g2 => ?_))
      · ((conv => whnf); refine bm (fun g3 => ?_) (fun g3 => ?_))
        · (conv => whnf)
          refine boL (getP l hm ?_) ?_
          · show 0 + ((j + 1).tmod (l.length : Int)).toNat * 2 = _
            rw [ht, Int.toNat_natCast, Nat.zero_add]
          (conv => whnf)
          rfl
        · simp only [cA_rem, cA_lt, cA_le, cA_andB, cA_num, cA_add, Bool.eq_false_iff, ne_eq, Bool.and_eq_true, decide_eq_true_eq] at g3; omega
      · simp only [cA_notB, cA_eq, cA_num, Bool.not_eq_false', decide_eq_true_eq] at g2; omega
    · simp only [cA_add, cA_fits, fitsK, Bool.eq_false_iff, ne_eq, Bool.and_eq_true, decide_eq_true_eq] at g1; omega
  · simp only [cA_lt, cA_le, cA_andB, cA_num, Bool.eq_false_iff, ne_eq, Bool.and_eq_true, decide_eq_true_eq] at g; omega
end Go.Aw
end

/-
  Simple polygons: what both checks ask; the reference's 'simple'. No condition.
-/
set_option linter.unusedSimpArgs false
set_option linter.unusedVariables false
noncomputable section
namespace Go.Aw
set_option maxRecDepth 100000
theorem sEta (s : Sg) : (s.1, s.2) = s := rfl
def wantS (i k n : Nat) : Int := if k = i + 1 ∨ (i = 0 ∧ k = n - 1) then 1 else 0
def okE (l : List (Int × Int)) (i k : Nat) : Prop := meetS (edgeS l i) (edgeS l k) = wantS i k l.length
def simpleP (l : List (Int × Int)) : Prop := ∀ i k, i < k → k < l.length → okE l i k
open Classical in
def simpleB (l : List (Int × Int)) : Bool := decide (simpleP l)
def goodP (l : List (Int × Int)) : Prop := 3 ≤ l.length ∧ l.length ≤ 200 ∧ l.all rightS = true ∧ l.Nodup
open Classical in
def goodL (l : List (Int × Int)) : Bool := decide (goodP l)
theorem goodL_iff {l : List (Int × Int)} : goodL l = true ↔ goodP l := by simp [goodL]
theorem simpleB_iff {l : List (Int × Int)} : simpleB l = true ↔ simpleP l := by simp [simpleB]
theorem simpleB_f {l : List (Int × Int)} (h : ¬ simpleP l) : simpleB l = false := by simp [simpleB, h]
theorem next_lt {l : List (Int × Int)} (h : 0 < l.length) (i : Nat) : (i + 1) % l.length < l.length := Nat.mod_lt _ h
theorem next_ne {n i : Nat} (hn : 2 ≤ n) (hi : i < n) : i ≠ (i + 1) % n := by
  by_cases h : i + 1 = n
  · rw [h, Nat.mod_self]; omega
  · rw [Nat.mod_eq_of_lt (by omega)]; omega
theorem nodup_get {l : List (Int × Int)} (h : l.Nodup) {i k : Nat} (hi : i < l.length) (hk : k < l.length) (e : l[i] = l[k]) : i = k := by
  have hp := List.pairwise_iff_getElem.1 h
  by_cases h1 : i < k
  · exact absurd e (hp i k hi hk h1)
  · by_cases h2 : k < i
    · exact absurd e.symm (hp k i hk hi h2)
    · omega
theorem nodup_at {l : List (Int × Int)} (h : l.Nodup) {i k : Nat} (hi : i < l.length) (hk : k < l.length) (e : at2 l i = at2 l k) : i = k := by
  rw [at2_eq hi, at2_eq hk] at e
  exact nodup_get h hi hk e
theorem edge_right {l : List (Int × Int)} (h : goodP l) {i : Nat} (hi : i < l.length) : rightG (edgeS l i) = true := by
  obtain ⟨h3, h200, hr, hnd⟩ := h
  have hn := next_lt (l := l) (by omega) i
  have ra := all_at hr hi
  have rb := all_at hr hn
  simp only [rightG, edgeS, Bool.and_eq_true, Bool.not_eq_true']
  refine ⟨⟨ra, rb⟩, (eqP_f _ _).2 fun e => ?_⟩
  exact next_ne (n := l.length) (by omega) hi (nodup_at hnd hi hn e)
def S82 (l : List (Int × Int)) : List Value → Option (Bool × Value)
  | [] => some (goodL l, .bool (simpleB l))
  | _ => none
theorem S82_inv {l : List (Int × Int)} {r : List Value} {v : Value} (hs : S82 l r = some (true, v)) : r = [] ∧ goodP l ∧ v = .bool (simpleB l) := by
  unfold S82 at hs
  split at hs
  · injection hs with hs; injection hs with h1 h2; exact ⟨rfl, goodL_iff.1 h1, h2.symm⟩
  · cases hs
def hP (l : List (Int × Int)) : Heap := [(0, .cells false true 2 (flat elP.fl l))]
def eO82 (l : List (Int × Int)) (c : Nat) (j : Int) : List (Nat × Value) := [(0, .slice (some ⟨0, 0, none⟩) l.length c), (3, iv l.length), (4, iv j)]
def eI82 (l : List (Int × Int)) (c : Nat) (j m : Int) : List (Nat × Value) := [(0, .slice (some ⟨0, 0, none⟩) l.length c), (3, iv l.length), (4, iv j), (5, iv m)]
def X82 : Nat × XF := (59, lX elP S82)
attribute [local irreducible] meetS edgeS in
theorem x82 : XOK Go.Proofs.Tryz.prog X82.1 X82.2 := lX_ok elP (body_calls (xl := [X84, X72']) (.cons x84 (.cons x72' .nil))) fun l r v hs => by
  obtain ⟨rfl, hgood, rfl⟩ := S82_inv hs
  refine ⟨rfl, rfl, fun c => ?_⟩
  have h3 := hgood.1
  have h200 := hgood.2.1
  (conv => whnf)
  refine ⟨fun n e h nx => ∃ (i : Nat) (j : Int), j = i ∧ i ≤ l.length ∧ n = l.length - i ∧ (∀ i' k, i' < i → i' < k → k < l.length → okE l i' k) ∧ e = eO82 l c j ∧ h = hP l ∧ nx = 1, ⟨l.length, ?_⟩, ?_⟩
  · refine Into_id (e0 := eO82 l c 0) (h0 := hP l) (n0 := 1) ⟨0, 0, rfl, Nat.zero_le _, rfl, fun _ _ h => absurd h (Nat.not_lt_zero _), rfl, rfl, rfl⟩ ?_ ?_ (Nat.le_refl _)
    · unfold eO82
      ((repeat' (refine List.forall_mem_cons.2 ⟨⟨rfl, ?_⟩, ?_⟩; (first | exact scT_g rfl | exact ⟨by decide, rfl⟩ | exact ⟨by decide, fun h => (by cases h)⟩))); exact fun _ h => (by cases h))
    · unfold hP
      ((repeat' (refine List.forall_mem_cons.2 ⟨⟨Nat.le_of_ble_eq_true rfl, _, rfl, ?_⟩, ?_⟩; (first | exact ObjRen_g (flat_g _ _) | exact ObjRen_j rfl rfl))); exact fun _ h => (by cases h))
  · rintro n e h nx ⟨i, j, hj, hi, rfl, hb, rfl, rfl, rfl⟩
    unfold eO82 hP
    ((conv => whnf); refine bm (fun g1 => ?_) (fun g1 => ?_))
    · have hlt : i < l.length := by simp [cfgS, std] at g1; omega
      ((conv => whnf); refine bm (fun g2 => ?_) (fun g2 => ?_))
      · (conv => whnf)
        refine ⟨fun n e h nx => ∃ (k : Nat) (m : Int), m = k ∧ i < k ∧ k ≤ l.length ∧ n = l.length - k ∧ (∀ k', i < k' → k' < k → okE l i k') ∧ e = eI82 l c j m ∧ h = hP l ∧ nx = 1, ⟨l.length - (i + 1), ?_⟩, ?_⟩
        · refine Into_id (e0 := eI82 l c j (j + 1)) (h0 := hP l) (n0 := 1) ⟨i + 1, j + 1, by omega, Nat.lt_succ_self _, hlt, rfl, fun k' h1 h2 => by omega, rfl, rfl, rfl⟩ ?_ ?_ (Nat.le_refl _)
          · unfold eI82
            ((repeat' (refine List.forall_mem_cons.2 ⟨⟨rfl, ?_⟩, ?_⟩; (first | exact scT_g rfl | exact ⟨by decide, rfl⟩ | exact ⟨by decide, fun h => (by cases h)⟩))); exact fun _ h => (by cases h))
          · unfold hP
            ((repeat' (refine List.forall_mem_cons.2 ⟨⟨Nat.le_of_ble_eq_true rfl, _, rfl, ?_⟩, ?_⟩; (first | exact ObjRen_g (flat_g _ _) | exact ObjRen_j rfl rfl))); exact fun _ h => (by cases h))
        · rintro n e h nx ⟨k, m, hm, hik, hk, rfl, hbk, rfl, rfl, rfl⟩
          unfold eI82 hP
          ((conv => whnf); refine bm (fun f1 => ?_) (fun f1 => ?_))
          · have hltk : k < l.length := by simp [cfgS, std] at f1; omega
            have ra := edge_right hgood hlt
            have rb := edge_right hgood hltk
            have hji : j.toNat = i := by omega
            have hmk : m.toNat = k := by omega
            (conv => whnf)
            refine ⟨l, LsAt_own elP rfl, ?_⟩
            ((conv => whnf); refine bm (fun g3 => ?_) (fun g3 => ?_))
            · (conv => whnf)
              refine ⟨l, LsAt_own elP rfl, ?_⟩
              ((conv => whnf); refine bm (fun g4 => ?_) (fun g4 => ?_))
              · ((conv => whnf); refine bm (fun g5 => ?_) (fun g5 => ?_))
                · repeat' ((conv => whnf); refine bm (fun g => ?_) (fun g => ?_))
                  all_goals (conv => whnf)
                  all_goals (simp only [cA_eq, cA_eqB, cA_notB, cA_add, cA_sub, cA_fits, cA_num, fitsK, Bool.not_eq_true', Bool.not_eq_false', beq_iff_eq, beq_eq_false_iff_ne, ne_eq, decide_eq_true_eq, decide_eq_false_iff_not, pEta, sEta, hji, hmk] at *)
                  all_goals first
                    | (refine congrArg Value.bool (simpleB_f fun hh => ?_).symm
                       have hh := hh i k hik hltk
                       unfold okE wantS at hh
                       split at hh <;> omega)
                    | (refine ⟨l.length - (k + 1), by omega, ?_⟩
                       refine Into_id (e0 := eI82 l c j (m + 1)) (h0 := hP l) (n0 := 1) ⟨k + 1, m + 1, by omega, by omega, hltk, rfl, fun k' h1 h2 => ?_, rfl, rfl, rfl⟩ ?_ ?_ (Nat.le_refl _)
                       · by_cases hkk : k' = k
                         · subst hkk
                           unfold okE wantS
                           split <;> omega
                         · exact hbk k' h1 (by omega)
                       · unfold eI82
                         ((repeat' (refine List.forall_mem_cons.2 ⟨⟨rfl, ?_⟩, ?_⟩; (first | exact scT_g rfl | exact ⟨by decide, rfl⟩ | exact ⟨by decide, fun h => (by cases h)⟩))); exact fun _ h => (by cases h))
                       · unfold hP
                         ((repeat' (refine List.forall_mem_cons.2 ⟨⟨Nat.le_of_ble_eq_true rfl, _, rfl, ?_⟩, ?_⟩; (first | exact ObjRen_g (flat_g _ _) | exact ObjRen_j rfl rfl))); exact fun _ h => (by cases h)))
                    | (exfalso; simp only [Bool.and_eq_false_iff, decide_eq_false_iff_not] at *; omega)
                    | trace_state
                · exfalso; simp only [pEta, sEta, hji, hmk, rightT, ra, rb] at g5; cases g5
              · exfalso; simp only [Bool.and_eq_false_iff, decide_eq_false_iff_not] at g4; omega
            · exfalso; simp only [Bool.and_eq_false_iff, decide_eq_false_iff_not] at g3; omega
          · have hge : k = l.length := by simp [cfgS, std] at f1; omega
            ((conv => whnf); refine bm (fun g => ?_) (fun g => ?_))
            · (conv => whnf)
              refine ⟨l.length - (i + 1), by omega, ?_⟩
              refine Into_id (e0 := eO82 l c (j + 1)) (h0 := hP l) (n0 := 1) ⟨i + 1, j + 1, by omega, hlt, rfl, fun i' k' h1 h2 h3 => ?_, rfl, rfl, rfl⟩ ?_ ?_ (Nat.le_refl _)
              · by_cases hii : i' = i
                · subst hii
                  exact hbk k' h2 (by omega)
                · exact hb i' k' (by omega) h2 h3
              · unfold eO82
                ((repeat' (refine List.forall_mem_cons.2 ⟨⟨rfl, ?_⟩, ?_⟩; (first | exact scT_g rfl | exact ⟨by decide, rfl⟩ | exact ⟨by decide, fun h => (by cases h)⟩))); exact fun _ h => (by cases h))
              · unfold hP
                ((repeat' (refine List.forall_mem_cons.2 ⟨⟨Nat.le_of_ble_eq_true rfl, _, rfl, ?_⟩, ?_⟩; (first | exact ObjRen_g (flat_g _ _) | exact ObjRen_j rfl rfl))); exact fun _ h => (by cases h))
            · exfalso; simp only [cA_add, cA_fits, fitsK, Bool.eq_false_iff, ne_eq, Bool.and_eq_true, decide_eq_true_eq] at g; omega
      · exfalso; simp only [cA_add, cA_fits, fitsK, Bool.eq_false_iff, ne_eq, Bool.and_eq_true, decide_eq_true_eq] at g2; omega
    · have hge : i = l.length := by simp [cfgS, std] at g1; omega
      subst hge
      (conv => whnf)
      rw [show simpleB l = true from simpleB_iff.2 fun i' k h1 h2 => hb i' k (by omega) h1 h2]
end Go.Aw
end
