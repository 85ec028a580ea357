/-
  Parts of the proof, put together. No condition.
-/
import Derived.Test.YtmkcjbpekejgdaaGreatSe75
/-
  The normal form of a simple polygon has three corners at least. Plain. No condition.
-/
set_option linter.unusedSimpArgs false
set_option linter.unusedVariables false
noncomputable section
namespace Go.Aw
theorem cross_sw (a b c : Int × Int) : crossI b a c = -crossI a b c := by
  unfold crossI
  obtain ⟨a1, a2⟩ := a
  obtain ⟨b1, b2⟩ := b
  obtain ⟨c1, c2⟩ := c
  simp only [Int.sub_mul, Int.mul_sub]
  have e1 := Int.mul_comm a1 b2
  have e2 := Int.mul_comm a1 c2
  have e3 := Int.mul_comm b1 a2
  have e4 := Int.mul_comm b1 c2
  have e5 := Int.mul_comm c1 a2
  have e6 := Int.mul_comm c1 b2
  have e7 := Int.mul_comm a1 a2
  have e8 := Int.mul_comm b1 b2
  omega
theorem cross_sw0 {a b c : Int × Int} (h : crossI a b c = 0) : crossI b a c = 0 := by rw [cross_sw, h]; rfl
theorem cross_rev0 {a b c : Int × Int} (h : crossI a b c = 0) : crossI c b a = 0 := by rw [cross_rev, h]; rfl
/-- F, Q, P on one line and F, P, R too: F, Q, R. -/
theorem coll2 {F Q P R : Int × Int} (hne : F ≠ P) (h1 : crossI F Q P = 0) (h2 : crossI F P R = 0) : crossI F Q R = 0 :=
  cross_sw0 (coll_trans (p := Q) (a := P) (b := F) (c := R) (fun e => hne e.symm) (cross_rev0 (cross_sw0 (cross_rev0 (cross_sw0 h1)))) (cross_sw0 h2))
theorem cyc_far {o : List (Int × Int)} (hnd : o.Nodup) (f k : Nat) (h1 : 0 < k) (h2 : k < o.length) : cyc o f ≠ cyc o (f + k) := by
  intro e
  have h0 : 0 < o.length := by omega
  have := nodup_at hnd (Nat.mod_lt f h0) (Nat.mod_lt (f + k) h0) e
  have e2 : (f + k) % o.length = (f % o.length + k) % o.length := by rw [Nat.mod_add_mod]
  have hf := Nat.mod_lt f h0
  rw [e2] at this
  generalize f % o.length = a at this hf
  by_cases hc : a + k < o.length
  · have e4 := Nat.mod_eq_of_lt hc
    omega
  · have e4 : (a + k) % o.length = (a + k - o.length) % o.length := Nat.mod_eq_sub_mod (by omega)
    have e5 : (a + k - o.length) % o.length = a + k - o.length := Nat.mod_eq_of_lt (by omega)
    omega
theorem segI_run {o : List (Int × Int)} {f : Nat} (hf : keptO o f = true) : ∀ k, (∀ j, 0 < j → j ≤ k → keptO o (f + j) = false) → segI o f (k + 1) = [cyc o f]
  | 0, _ => by
    rw [segI_succ, Nat.add_zero, if_pos hf]
    rfl
  | k + 1, h => by
    rw [segI_succ, segI_run hf k (fun j h1 h2 => h j h1 (by omega)), if_neg (by rw [h (k + 1) (by omega) (Nat.le_refl _)]; decide), List.append_nil]
theorem run_line {o : List (Int × Int)} (hnd : o.Nodup) (h2 : 2 ≤ o.length) {f : Nat} (hf : keptO o f = true) {k : Nat} (h : ∀ j, 0 < j → j ≤ k → keptO o (f + j) = false) : crossI (cyc o f) (cyc o (f + k)) (cyc o (f + k + 1)) = 0 := by
  have hc := (chain hnd h2 hf k).2.2.2
  rw [segI_run hf k h] at hc
  exact hc
/-- Straight corners behind a kept one lie on one line with it. -/
theorem run_all {o : List (Int × Int)} (hnd : o.Nodup) (h2 : 2 ≤ o.length) {f : Nat} (hf : keptO o f = true) : ∀ k, k + 1 < o.length → (∀ j, 0 < j → j ≤ k → keptO o (f + j) = false) → crossI (cyc o f) (cyc o (f + 1)) (cyc o (f + (k + 1))) = 0
  | 0, _, _ => by
    unfold crossI
    have := Int.mul_comm ((cyc o (f + 1)).1 - (cyc o f).1) ((cyc o (f + 1)).2 - (cyc o f).2)
    simp only [Nat.zero_add] at *
    omega
  | k + 1, hk, h => coll2 (cyc_far hnd f (k + 1) (by omega) (by omega)) (run_all hnd h2 hf k (by omega) (fun j h1 h2 => h j h1 (by omega))) (run_line hnd h2 hf h)
theorem kept_turn {o : List (Int × Int)} {f : Nat} (h : 0 < o.length) (hf : keptO o f = true) : crossI (cyc o f) (cyc o (f + 1)) (cyc o (f + (o.length - 1))) ≠ 0 := by
  intro e
  rw [keptO_cyc, show f + o.length - 1 = f + (o.length - 1) by omega] at hf
  have e3 : crossI (cyc o (f + (o.length - 1))) (cyc o f) (cyc o (f + 1)) = 0 := cross_rev0 (cross_sw0 e)
  rw [(turn_zero _ _ _).2 e3] at hf
  cases hf
theorem least_of {p : Nat → Bool} : ∀ n, (∀ j, 0 < j → j < n → p j = false) ∨ ∃ m, 0 < m ∧ m < n ∧ p m = true ∧ ∀ j, 0 < j → j < m → p j = false
  | 0 => .inl fun j _ h => absurd h (Nat.not_lt_zero j)
  | n + 1 => by
    rcases least_of (p := p) n with h | ⟨m, h1, h2, h3, h4⟩
    · cases hn : (decide (0 < n) && p n) with
      | true =>
        simp only [Bool.and_eq_true, decide_eq_true_eq] at hn
        exact .inr ⟨n, hn.1, by omega, hn.2, h⟩
      | false =>
        refine .inl fun j h0 hj => ?_
        by_cases e : j = n
        · subst e
          simpa [h0] using hn
        · exact h j h0 (by omega)
    · exact .inr ⟨m, h1, by omega, h3, h4⟩
theorem seg_one {o : List (Int × Int)} {f d : Nat} (hf : keptO o f = true) : 1 ≤ (segI o f (1 + d)).length := by
  rw [segI_one, if_pos hf, List.length_append]
  simp
theorem seg_three {o : List (Int × Int)} (hnd : o.Nodup) (h3 : 3 ≤ o.length) {f : Nat} (hf : keptO o f = true) : 3 ≤ (segI o f o.length).length := by
  have hkt := kept_turn (by omega) hf
  rcases least_of (p := fun j => keptO o (f + j)) o.length with h | ⟨m, m0, m1, m2, m3⟩
  · exfalso
    have hr := run_all hnd (by omega) hf (o.length - 2) (by omega) (fun j h1 h2 => h j h1 (by omega))
    rw [show o.length - 2 + 1 = o.length - 1 by omega] at hr
    exact hkt hr
  · have hm1 : crossI (cyc o f) (cyc o (f + 1)) (cyc o (f + m)) = 0 := by
      have hr := run_all hnd (by omega) hf (m - 1) (by omega) (fun j h1 h2 => m3 j h1 (by omega))
      rwa [show m - 1 + 1 = m by omega] at hr
    rcases least_of (p := fun j => keptO o (f + m + j)) (o.length - m) with h | ⟨q, q0, q1, q2, q3⟩
    · exfalso
      have hr := run_line hnd (by omega) (f := f + m) m2 (k := o.length - m - 1) (fun j h1 h2 => h j h1 (by omega))
      rw [show f + m + (o.length - m - 1) = f + (o.length - 1) by omega, show f + (o.length - 1) + 1 = f + o.length by omega, cyc_add] at hr
      exact hkt (coll2 (cyc_far hnd f m m0 m1) hm1 (cross_rev0 (cross_sw0 hr)))
    · have e : o.length = (1 + (m - 1)) + ((1 + (q - 1)) + (1 + (o.length - m - q - 1))) := by omega
      rw [e, segI_add o f (1 + (m - 1)), segI_add o (f + (1 + (m - 1))) (1 + (q - 1)), List.length_append, List.length_append]
      have l1 := seg_one (o := o) (f := f) (d := m - 1) hf
      have l2 := seg_one (o := o) (f := f + (1 + (m - 1))) (d := q - 1) (by rw [show f + (1 + (m - 1)) = f + m by omega]; exact m2)
      have l3 := seg_one (o := o) (f := f + (1 + (m - 1)) + (1 + (q - 1))) (d := o.length - m - q - 1) (by rw [show f + (1 + (m - 1)) + (1 + (q - 1)) = f + m + q by omega]; exact q2)
      omega
theorem norR_three {l : List (Int × Int)} (h : goodP l) (hs : simpleP l) : 3 ≤ (norR l).length := by
  have hnd : (dirI l).Nodup := by
    unfold dirI
    split
    · exact nodup_rev h.2.2.2
    · exact h.2.2.2
  have hl := dirI_len l
  have hp := norR_pos h hs
  have h3 := h.1
  unfold norR at hp ⊢
  rw [← hl] at hp ⊢
  have hk : keptO (dirI l) (leastI (dirI l) (dirI l).length) = true := by
    have hr : (dirI l).all rightS = true := by
      unfold dirI
      split
      · rw [List.all_reverse]; exact h.2.2.1
      · exact h.2.2.1
    obtain ⟨f, hf, hk, hm⟩ := simple_rawpos h hs
    have ho : ∃ f', f' < (dirI l).length ∧ keptO (dirI l) f' = true ∧ ∀ k, k < (dirI l).length → k ≠ f' → key (at2 (dirI l) f') < key (at2 (dirI l) k) := by
      unfold dirI
      by_cases hn : areaI l l.length < 0
      · rw [if_pos hn]
        refine ⟨l.length - 1 - f, by rw [List.length_reverse]; omega, ?_, ?_⟩
        · rw [keptO_rev (by omega), show l.length - 1 - (l.length - 1 - f) = f by omega]
          exact hk
        · intro k hk' hne
          rw [List.length_reverse] at hk'
          rw [at2_rev l (by omega), at2_rev l hk', show l.length - 1 - (l.length - 1 - f) = f by omega]
          exact hm _ (by omega) (by omega)
      · rw [if_neg hn]
        exact ⟨f, hf, hk, hm⟩
    obtain ⟨f', hf', hk', hm'⟩ := ho
    have hlt : leastI (dirI l) (dirI l).length < (dirI l).length := by have := leastI_lt (dirI l) (dirI l).length; omega
    have hfe : f' = leastI (dirI l) (dirI l).length := by
      apply Classical.byContradiction
      intro hne
      have h1 := least_strict hr hnd (by omega) hf' hne
      have h2 := hm' _ hlt (fun e => hne e.symm)
      omega
    rw [← hfe]
    exact hk'
  exact seg_three hnd (by rw [hl]; exact h3) hk
end Go.Aw
end

/-
  Triangles: a point in one; ears. No condition.
-/
set_option linter.unusedSimpArgs false
set_option linter.unusedVariables false
noncomputable section
namespace Go.Aw
set_option maxRecDepth 100000
section
variable {α β γ δ : Type} (a : Cd α) (b : Cd β) (c : Cd γ) (d : Cd δ)
def s4 (F : α → β → γ → δ → Bool × Value) : List Value → Option (Bool × Value)
  | [u, v, w, x] => (match a.dec u with | some u => (match b.dec v with | some v => (match c.dec w with | some w => (match d.dec x with | some x => some (F u v w x) | none => none) | none => none) | none => none) | none => none)
  | _ => none
theorem s4_inv {F : α → β → γ → δ → Bool × Value} {args : List Value} {r : Bool × Value} (h : s4 a b c d F args = some r) : ∃ x y z t, args = [a.enc x, b.enc y, c.enc z, d.enc t] ∧ F x y z t = r := by
  unfold s4 at h
  split at h
  · split at h
    · rename_i x e
      split at h
      · rename_i y e2
        split at h
        · rename_i z e3
          split at h
          · rename_i t e4
            injection h with h
            exact ⟨x, y, z, t, by rw [a.ok _ _ e, b.ok _ _ e2, c.ok _ _ e3, d.ok _ _ e4], h⟩
          · cases h
        · cases h
      · cases h
    · cases h
  · cases h
theorem x4 {xl : List (Nat × XF)} (hx : XLOK xl) {f : Nat} {F : α → β → γ → δ → Bool × Value} (hg : ∀ x y z t, gT (F x y z t).2 = true) (h : ∀ x y z t, (F x y z t).1 = true → Does1 xl f [a.enc x, b.enc y, c.enc z, d.enc t] (F x y z t).2) : XOK Go.Proofs.Tryz.prog f (gX (s4 a b c d F)) :=
  gX_ok (body_calls hx) fun args v hs => by
    obtain ⟨x, y, z, t, rfl, e⟩ := s4_inv a b c d hs
    have h1 : (F x y z t).1 = true := by rw [e]
    have h2 : (F x y z t).2 = v := by rw [e]
    subst h2
    exact ⟨by simp [allGA, a.gr, b.gr, c.gr, d.gr], hg x y z t, h x y z t h1⟩
end
abbrev Tg := (Int × Int) × (Int × Int) × (Int × Int)
def trv (t : Tg) : Value := .agg #[iv t.1.1, iv t.1.2, iv t.2.1.1, iv t.2.1.2, iv t.2.2.1, iv t.2.2.2]
def decT : Value → Option Tg
  | .agg ⟨[.int .i64 a, .int .i64 b, .int .i64 c, .int .i64 d, .int .i64 e, .int .i64 f]⟩ => some ((a, b), (c, d), (e, f))
  | _ => none
theorem decT_eq {v : Value} {t : Tg} (h : decT v = some t) : v = trv t := by
  unfold decT at h
  split at h
  · injection h with h; subst h; rfl
  · cases h
def cT : Cd Tg := ⟨decT, trv, fun _ _ h => decT_eq h, fun _ => rfl⟩
def elT : El Tg := ⟨fun t => [iv t.1.1, iv t.1.2, iv t.2.1.1, iv t.2.1.2, iv t.2.2.1, iv t.2.2.2], 6, fun _ => rfl, fun _ => rfl, by decide⟩
def holdB (a b c p : Int × Int) : Bool := decide (0 ≤ turnS a b p) && decide (0 ≤ turnS b c p) && decide (0 ≤ turnS c a p)
def D66 : Nat × XF := (66, gX (s4 cP cP cP cP fun a b c p => (wide a && wide b && wide c && wide p, .bool (holdB a b c p))))
theorem d66 : XOK Go.Proofs.Tryz.prog D66.1 D66.2 := x4 cP cP cP cP (xl := [X55]) (.cons x55 .nil) (fun _ _ _ _ => rfl) fun a b c p hp => by
  simp only [Bool.and_eq_true] at hp
  obtain ⟨⟨⟨w1, w2⟩, w3⟩, w4⟩ := hp
  obtain ⟨ax, ay⟩ := a
  obtain ⟨bx, b_y⟩ := b
  obtain ⟨cx, cy⟩ := c
  obtain ⟨px, py⟩ := p
  unfold Does1
  repeat' ((conv => whnf); refine bm (fun g => ?_) (fun g => ?_))
  all_goals (conv => whnf)
  all_goals first
    | (exfalso
       have hg : (wide (ax, ay) && wide (bx, b_y) && wide (px, py)) = false := g
       rw [w1, w2, w4] at hg
       cases hg)
    | (exfalso
       have hg : (wide (bx, b_y) && wide (cx, cy) && wide (px, py)) = false := g
       rw [w2, w3, w4] at hg
       cases hg)
    | (exfalso
       have hg : (wide (cx, cy) && wide (ax, ay) && wide (px, py)) = false := g
       rw [w3, w1, w4] at hg
       cases hg)
    | (show Value.bool _ = .bool (holdB (ax, ay) (bx, b_y) (cx, cy) (px, py))
       unfold holdB
       simp only [cA_le, cA_eqB] at *
       generalize decide (0 ≤ turnS (ax, ay) (bx, b_y) (px, py)) = u1 at *
       generalize decide (0 ≤ turnS (bx, b_y) (cx, cy) (px, py)) = u2 at *
       generalize decide (0 ≤ turnS (cx, cy) (ax, ay) (px, py)) = u3 at *
       cases u1 <;> cases u2 <;> cases u3 <;> simp_all
       done)
    | trace_state
def D135 : Nat × XF := (135, gX (s2 cT cP fun t p => (wide t.1 && wide t.2.1 && wide t.2.2 && wide p, .bool (holdB t.1 t.2.1 t.2.2 p))))
theorem d135 : XOK Go.Proofs.Tryz.prog D135.1 D135.2 := x2 cT cP (xl := [X57]) (.cons x57 .nil) (fun _ _ => rfl) fun t p hp => by
  simp only [Bool.and_eq_true] at hp
  obtain ⟨⟨ax, ay⟩, ⟨bx, b_y⟩, ⟨cx, cy⟩⟩ := t
  obtain ⟨px, py⟩ := p
  obtain ⟨⟨⟨w1, w2⟩, w3⟩, w4⟩ := hp
  unfold Does1
  repeat' ((conv => whnf); refine bm (fun g => ?_) (fun g => ?_))
  all_goals (conv => whnf)
  all_goals first
    | (exfalso
       have hg : (wide (ax, ay) && wide (bx, b_y) && wide (px, py)) = false := g
       rw [show wide (ax, ay) = true from w1, show wide (bx, b_y) = true from w2, w4] at hg
       cases hg)
    | (exfalso
       have hg : (wide (bx, b_y) && wide (cx, cy) && wide (px, py)) = false := g
       rw [show wide (bx, b_y) = true from w2, show wide (cx, cy) = true from w3, w4] at hg
       cases hg)
    | (exfalso
       have hg : (wide (cx, cy) && wide (ax, ay) && wide (px, py)) = false := g
       rw [show wide (ax, ay) = true from w1, show wide (cx, cy) = true from w3, w4] at hg
       cases hg)
    | (show Value.bool _ = .bool (holdB (ax, ay) (bx, b_y) (cx, cy) (px, py))
       unfold holdB
       simp only [cA_le, cA_eqB] at *
       generalize decide (0 ≤ turnS (ax, ay) (bx, b_y) (px, py)) = u1 at *
       generalize decide (0 ≤ turnS (bx, b_y) (cx, cy) (px, py)) = u2 at *
       generalize decide (0 ≤ turnS (cx, cy) (ax, ay) (px, py)) = u3 at *
       cases u1 <;> cases u2 <;> cases u3 <;> simp_all
       done)
    | trace_state
/-- A corner is an ear: it turns left, and no other corner is in its triangle. -/
def clearB (a b c p : Int × Int) : Bool := eqP p a || eqP p b || eqP p c || !(holdB a b c p)
def earB (l : List (Int × Int)) (i : Nat) : Bool := decide (0 < turnS (prv l i) (at2 l i) (nxt l i)) && l.all (fun p => clearB (prv l i) (at2 l i) (nxt l i) p)
theorem earB_no {l : List (Int × Int)} {i : Nat} (h : turnS (prv l i) (at2 l i) (nxt l i) ≤ 0) : earB l i = false := by
  unfold earB
  rw [decide_eq_false (by omega), Bool.false_and]
theorem earB_not {l : List (Int × Int)} {i k : Nat} (hk : k < l.length) (h : clearB (prv l i) (at2 l i) (nxt l i) (at2 l k) = false) : earB l i = false := by
  unfold earB
  have : l.all (fun p => clearB (prv l i) (at2 l i) (nxt l i) p) = false := by
    rw [Bool.eq_false_iff]
    intro e
    have := List.all_eq_true.1 e (at2 l k) (by rw [at2_eq hk]; exact List.getElem_mem hk)
    rw [h] at this
    cases this
  rw [this, Bool.and_false]
theorem earB_yes {l : List (Int × Int)} {i : Nat} (h : 0 < turnS (prv l i) (at2 l i) (nxt l i)) (h2 : ∀ k, k < l.length → clearB (prv l i) (at2 l i) (nxt l i) (at2 l k) = true) : earB l i = true := by
  unfold earB
  rw [decide_eq_true h, Bool.true_and]
  refine List.all_eq_true.2 fun p hp => ?_
  obtain ⟨k, hk, rfl⟩ := List.mem_iff_getElem.1 hp
  rw [← at2_eq hk]
  exact h2 k hk
def SEar (l : List (Int × Int)) : List Value → Option (Bool × Value)
  | [.int .i64 j] => some (decide (0 ≤ j) && decide (j < l.length) && decide (l.length ≤ 1000000) && l.all rightS, .bool (earB l j.toNat))
  | _ => none
theorem SEar_inv {l : List (Int × Int)} {r : List Value} {v : Value} (h : SEar l r = some (true, v)) : ∃ i : Nat, r = [iv i] ∧ i < l.length ∧ l.length ≤ 1000000 ∧ l.all rightS = true ∧ v = .bool (earB l i) := by
  unfold SEar at h
  split at h
  · rename_i j
    injection h with h; injection h with h1 h2
    simp only [Bool.and_eq_true, decide_eq_true_eq] at h1
    obtain ⟨n, rfl⟩ : ∃ n : Nat, j = n := ⟨j.toNat, by omega⟩
    exact ⟨n, rfl, by omega, h1.1.2, h1.2, by rw [← h2]; rfl⟩
  · cases h
end Go.Aw
end

/-
  Ears: the reference's. No condition.
-/
set_option linter.unusedSimpArgs false
set_option linter.unusedVariables false
noncomputable section
namespace Go.Aw
set_option maxRecDepth 100000
def e68 (l : List (Int × Int)) (c : Nat) (k : Int) : List (Nat × Value) := [(0, .slice (some ⟨0, 0, none⟩) l.length c), (5, iv l.length), (6, .pointer (some ⟨1, 0, none⟩)), (7, iv k)]
def h68 (l : List (Int × Int)) (a b c : Int × Int) : Heap := [(0, .cells false true 2 (flat elP.fl l)), (1, .cells true false 1 [iv a.1, iv a.2, iv b.1, iv b.2, iv c.1, iv c.2])]
def D68 : Nat × XF := (68, lX elP SEar)
attribute [local irreducible] turnS prv nxt at2 holdB earB in
theorem d68 : XOK Go.Proofs.Tryz.prog D68.1 D68.2 := lX_ok elP (body_calls (xl := [X57, D135]) (.cons x57 (.cons d135 .nil))) fun l r v hs => by
  obtain ⟨i, rfl, hi, hlen, hall, rfl⟩ := SEar_inv hs
  refine ⟨rfl, rfl, fun c => ?_⟩
  clear hs
  have hn : (i + 1) % l.length < l.length := Nat.mod_lt _ (by omega)
  have hp : (i + l.length - 1) % l.length < l.length := Nat.mod_lt _ (by omega)
  have tn : ((i : Int) + 1).tmod (l.length : Int) = ((i + 1) % l.length : Nat) := tmod_nat
  have tp : ((i : Int) + (l.length : Int) - 1).tmod (l.length : Int) = ((i + l.length - 1) % l.length : Nat) := tmod_prev (by omega)
  have ep : at2 l ((i + l.length - 1) % l.length) = prv l i := by unfold prv; rfl
  have en : at2 l ((i + 1) % l.length) = nxt l i := by unfold nxt; rfl
  have w1 : wide (at2 l i) = true := rightS_wide (all_at hall hi)
  have w2 : wide (nxt l i) = true := by rw [← en]; exact rightS_wide (all_at hall hn)
  have w3 : wide (prv l i) = true := by rw [← ep]; exact rightS_wide (all_at hall hp)
  obtain ⟨j, hj⟩ : ∃ j : Int, j = i := ⟨_, rfl⟩
  rw [← hj] at tn tp ⊢
  repeat' first
    | (((conv => whnf); refine bm (fun g => ?_) (fun g => ?_)))
    | ((conv => whnf)
       refine boL (getP l hi ?_) ?_
       · simp [cfgS, std]; omega)
    | ((conv => whnf)
       refine boL (getP l hn ?_) ?_
       · show 0 + ((j + 1).tmod (l.length : Int)).toNat * 2 = _
         rw [tn, Int.toNat_natCast, Nat.zero_add])
    | ((conv => whnf)
       refine boL (getP l hp ?_) ?_
       · show 0 + ((j + (l.length : Int) - 1).tmod (l.length : Int)).toNat * 2 = _
         rw [tp, Int.toNat_natCast, Nat.zero_add])
  all_goals (conv => whnf)
  all_goals try
    (exfalso
     first
      | (simp only [cA_add, cA_sub, cA_fits, cA_lt, cA_le, cA_eq, cA_notB, cA_andB, cA_num, fitsK, Bool.and_eq_false_iff, Bool.not_eq_false', decide_eq_true_eq, decide_eq_false_iff_not] at g; omega)
      | (simp only [cA_rem, cA_add, cA_sub, cA_lt, cA_le, cA_andB, cA_num, Bool.and_eq_false_iff, decide_eq_false_iff_not] at g
         rw [tn] at g
         omega)
      | (simp only [cA_rem, cA_add, cA_sub, cA_lt, cA_le, cA_andB, cA_num, Bool.and_eq_false_iff, decide_eq_false_iff_not] at g
         rw [tp] at g
         omega)
      | (have hg : (wide (at2 l ((i + l.length - 1) % l.length)) && wide (at2 l i) && wide (at2 l ((i + 1) % l.length))) = false := g
         rw [ep, en, w1, w2, w3] at hg
         cases hg))
  · have hg : decide (turnS (at2 l ((i + l.length - 1) % l.length)) (at2 l i) (at2 l ((i + 1) % l.length)) ≤ 0) = true := g
    rw [ep, en] at hg
    rw [earB_no (of_decide_eq_true hg)]
  · have hg : decide (turnS (at2 l ((i + l.length - 1) % l.length)) (at2 l i) (at2 l ((i + 1) % l.length)) ≤ 0) = false := g
    rw [ep, en] at hg
    have hpos : 0 < turnS (prv l i) (at2 l i) (nxt l i) := by
      have := of_decide_eq_false hg
      omega
    rw [ep, en]
    clear hg
    refine ⟨fun n e h nx => ∃ (k : Nat) (m : Int), m = k ∧ k ≤ l.length ∧ n = l.length - k ∧ (∀ q, q < k → clearB (prv l i) (at2 l i) (nxt l i) (at2 l q) = true) ∧ e = e68 l c m ∧ h = h68 l (prv l i) (at2 l i) (nxt l i) ∧ nx = 2, ⟨l.length, ?_⟩, ?_⟩
    · refine Into_id (e0 := e68 l c 0) (h0 := h68 l (prv l i) (at2 l i) (nxt l i)) (n0 := 2) ⟨0, 0, rfl, Nat.zero_le _, rfl, fun q h => absurd h (Nat.not_lt_zero q), rfl, rfl, rfl⟩ ?_ ?_ (by decide)
      · unfold e68
        ((repeat' (refine List.forall_mem_cons.2 ⟨⟨rfl, ?_⟩, ?_⟩; (first | exact scT_g rfl | exact ⟨by decide, rfl⟩ | exact ⟨by decide, fun h => (by cases h)⟩))); exact fun _ h => (by cases h))
      · unfold h68
        ((repeat' (refine List.forall_mem_cons.2 ⟨⟨Nat.le_of_ble_eq_true rfl, _, rfl, ?_⟩, ?_⟩; (first | exact ObjRen_g (flat_g _ _) | exact ObjRen_j rfl rfl))); exact fun _ h => (by cases h))
    · rintro n e h nx ⟨k, m, hm, hk, rfl, hb, rfl, rfl, rfl⟩
      unfold e68 h68
      ((conv => whnf); refine bm (fun g1 => ?_) (fun g1 => ?_))
      · have hlt : k < l.length := by simp [cfgS, std] at g1; omega
        have w4 := rightS_wide (all_at hall hlt)
        have wAll : (wide (prv l i) && wide (at2 l i) && wide (nxt l i) && wide (at2 l k)) = true := by rw [w1, w2, w3, w4]; rfl
        have hno := earB_not (i := i) hlt
        generalize prv l i = A at *
        generalize at2 l i = B at *
        generalize nxt l i = C at *
        repeat' first
          | (((conv => whnf); refine bm (fun g => ?_) (fun g => ?_)))
          | ((conv => whnf)
             refine boL (getP l hlt ?_) ?_
             · simp [cfgS, std]; omega)
        all_goals (conv => whnf)
        all_goals try
          (exfalso
           first
            | (simp only [cA_add, cA_fits, cA_lt, cA_le, cA_andB, cA_num, fitsK, Bool.and_eq_false_iff, decide_eq_false_iff_not] at g
               omega)
            | (have hg : (wide A && wide B && wide C && wide (at2 l k)) = false := g
               rw [wAll] at hg
               cases hg))
        all_goals generalize hpk : at2 l k = p at *
        all_goals first
          | (show Value.bool false = .bool (earB l i)
             rw [hno ?_]
             clear hno hb hpk hall tn tp hn hp ep en w1 w2 w3 w4 wAll hpos
             unfold clearB eqP
             simp only [cA_eq, cA_andB, cA_notB, cA_eqB, Bool.and_true] at *
             generalize (decide (p.1 = A.1) && decide (p.2 = A.2)) = x1 at *
             generalize (decide (p.1 = B.1) && decide (p.2 = B.2)) = x2 at *
             generalize (decide (p.1 = C.1) && decide (p.2 = C.2)) = x3 at *
             generalize holdB A B C p = x4 at *
             cases x1 <;> cases x2 <;> cases x3 <;> cases x4 <;> simp_all)
          | (have hcl : clearB A B C p = true := by
               clear hno hb hpk hall tn tp hn hp ep en w1 w2 w3 w4 wAll hpos
               unfold clearB eqP
               simp only [cA_eq, cA_andB, cA_notB, cA_eqB, Bool.and_true] at *
               generalize (decide (p.1 = A.1) && decide (p.2 = A.2)) = x1 at *
               generalize (decide (p.1 = B.1) && decide (p.2 = B.2)) = x2 at *
               generalize (decide (p.1 = C.1) && decide (p.2 = C.2)) = x3 at *
               generalize holdB A B C p = x4 at *
               cases x1 <;> cases x2 <;> cases x3 <;> cases x4 <;> simp_all
             refine ⟨l.length - (k + 1), by omega, ?_⟩
             refine Into_id (e0 := e68 l c (m + 1)) (h0 := h68 l A B C) (n0 := 2) ⟨k + 1, m + 1, by omega, hlt, rfl, fun q hq => ?_, rfl, rfl, rfl⟩ ?_ ?_ (by decide)
             · by_cases hqk : q = k
               · subst hqk
                 rw [hpk]
                 exact hcl
               · exact hb q (by omega)
             · unfold e68
               ((repeat' (refine List.forall_mem_cons.2 ⟨⟨rfl, ?_⟩, ?_⟩; (first | exact scT_g rfl | exact ⟨by decide, rfl⟩ | exact ⟨by decide, fun h => (by cases h)⟩))); exact fun _ h => (by cases h))
             · unfold h68
               ((repeat' (refine List.forall_mem_cons.2 ⟨⟨Nat.le_of_ble_eq_true rfl, _, rfl, ?_⟩, ?_⟩; (first | exact ObjRen_g (flat_g _ _) | exact ObjRen_j rfl rfl))); exact fun _ h => (by cases h)))
          | trace_state
      · have hge : k = l.length := by simp only [cA_lt, cA_num, decide_eq_false_iff_not] at g1; omega
        subst hge
        (conv => whnf)
        rw [earB_yes hpos hb]
end Go.Aw
end

/-
  Triangles: what both yield. No condition.
-/
set_option linter.unusedSimpArgs false
set_option linter.unusedVariables false
noncomputable section
namespace Go.Aw
def delI (l : List (Int × Int)) (i : Nat) : List (Int × Int) := l.take i ++ l.drop (i + 1)
def triE (l : List (Int × Int)) (i : Nat) : Tg := (prv l i, at2 l i, nxt l i)
/-- The first ear among the last k corners. -/
def fE (l : List (Int × Int)) : Nat → Int
  | 0 => -1
  | k + 1 => if earB l (l.length - 1 - k) = true then ((l.length - 1 - k : Nat) : Int) else fE l k
def triL : Nat → List (Int × Int) → List Tg → List Tg
  | 0, _, out => out
  | f + 1, rest, out => if 3 < rest.length then (if fE rest rest.length < 0 then out else triL f (delI rest (fE rest rest.length).toNat) (out ++ [triE rest (fE rest rest.length).toNat]))
    else out ++ [(at2 rest 0, at2 rest 1, at2 rest 2)]
def triN (N : List (Int × Int)) : List Tg := triL N.length N []
def triO (l : List (Int × Int)) : List Tg := if polyE l = 0 then triN (norR l) else []
theorem fE_yes {l : List (Int × Int)} {k : Nat} (h : earB l (l.length - 1 - k) = true) : fE l (k + 1) = ((l.length - 1 - k : Nat) : Int) := by
  unfold fE
  rw [if_pos h]
theorem fE_not {l : List (Int × Int)} {k : Nat} (h : ¬ earB l (l.length - 1 - k) = true) : fE l (k + 1) = fE l k := by
  conv => lhs; unfold fE
  rw [if_neg h]
theorem fE_B (l : List (Int × Int)) (h : 0 < l.length) : ∀ k, -1 ≤ fE l k ∧ fE l k < l.length
  | 0 => by unfold fE; omega
  | k + 1 => by
    have := fE_B l h k
    unfold fE
    split <;> omega
theorem fE_at {l : List (Int × Int)} {i : Nat} (hi : i < l.length) (he : earB l i = true) : fE l (l.length - i) = i := by
  rw [show l.length - i = (l.length - i - 1) + 1 by omega]
  unfold fE
  rw [show l.length - 1 - (l.length - i - 1) = i by omega, if_pos he]
theorem fE_up {l : List (Int × Int)} {i : Nat} (hi : i ≤ l.length) (hno : ∀ j, j < i → earB l j = false) : ∀ d, d ≤ i → fE l (l.length - i + d) = fE l (l.length - i)
  | 0, _ => rfl
  | d + 1, hd => by
    rw [← Nat.add_assoc]
    conv => lhs; unfold fE
    rw [show l.length - 1 - (l.length - i + d) = i - 1 - d by omega, if_neg (by rw [hno _ (by omega)]; decide), fE_up hi hno d (by omega)]
theorem fE_is {l : List (Int × Int)} {i : Nat} (hi : i < l.length) (he : earB l i = true) (hno : ∀ j, j < i → earB l j = false) : fE l l.length = i := by
  have := fE_up (by omega) hno i (Nat.le_refl _)
  rw [show l.length - i + i = l.length by omega, fE_at hi he] at this
  exact this
theorem fE_none {l : List (Int × Int)} (hno : ∀ j, j < l.length → earB l j = false) : fE l l.length = -1 := by
  have := fE_up (Nat.le_refl l.length) hno l.length (Nat.le_refl _)
  rw [show l.length - l.length + l.length = l.length by omega, show l.length - l.length = 0 by omega] at this
  rw [this]
  rfl
theorem delI_len {l : List (Int × Int)} {i : Nat} (h : i < l.length) : (delI l i).length = l.length - 1 := by
  unfold delI
  rw [List.length_append, List.length_take, List.length_drop]
  omega
theorem delI_right {l : List (Int × Int)} (h : l.all rightS = true) (i : Nat) : (delI l i).all rightS = true := by
  refine List.all_eq_true.2 fun p hp => ?_
  unfold delI at hp
  rcases List.mem_append.1 hp with hp | hp
  · exact List.all_eq_true.1 h p (List.mem_of_mem_take hp)
  · exact List.all_eq_true.1 h p (List.mem_of_mem_drop hp)
theorem triL_stop {N : Nat} {rest : List (Int × Int)} {out : List Tg} (h3 : 3 < rest.length) (hN : N = rest.length) (h : fE rest rest.length < 0) : triL N rest out = out := by
  obtain ⟨f, hf⟩ : ∃ f, N = f + 1 := ⟨N - 1, by omega⟩
  subst hf
  unfold triL
  rw [if_pos h3, if_pos h]
theorem triL_step {N : Nat} {rest : List (Int × Int)} {out : List Tg} {i : Nat} (h3 : 3 < rest.length) (hN : N = rest.length) (h : fE rest rest.length = i) : triL N rest out = triL (N - 1) (delI rest i) (out ++ [triE rest i]) := by
  obtain ⟨f, hf⟩ : ∃ f, N = f + 1 := ⟨N - 1, by omega⟩
  subst hf
  conv => lhs; unfold triL
  rw [if_pos h3, if_neg (by omega), h]
  rfl
theorem triL_end {N : Nat} {rest : List (Int × Int)} {out : List Tg} (h3 : rest.length = 3) (hN : N = rest.length) : triL N rest out = out ++ [(at2 rest 0, at2 rest 1, at2 rest 2)] := by
  obtain ⟨f, hf⟩ : ∃ f, N = f + 1 := ⟨N - 1, by omega⟩
  subst hf
  unfold triL
  rw [if_neg (by omega)]
def S51 (l : List (Int × Int)) : List Value → Option (Bool × List Tg × Option Int)
  | [] => some (decide (l.length ≤ 1000000000), triO l, some (polyE l))
  | _ => none
theorem S51_inv {l : List (Int × Int)} {out : List Tg} {r : List Value} {e : Option Int} (hs : S51 l r = some (true, out, e)) : r = [] ∧ l.length ≤ 1000000000 ∧ out = triO l ∧ e = some (polyE l) := by
  unfold S51 at hs
  split at hs
  · injection hs with hs; injection hs with h1 h2; injection h2 with h2 h3
    exact ⟨rfl, by simpa using h1, h2.symm, h3.symm⟩
  · cases hs
/-- Names moved, two of them. -/
def mv2 (q1 q2 : Nat) : Nat → Nat := fun k => match Nat.beq k 1 with | true => q1 | false => (match Nat.beq k 2 with | true => q2 | false => k)
theorem Into_mv2 {n0 nx : Nat} {I : KS} {e0 e : List (Nat × Value)} {o0 o1 o2 : AObj} {h : Heap} (q1 q2 : Nat) (hq : q1 ≠ q2 ∧ q1 ≠ 0 ∧ q2 ≠ 0) (hn : 3 ≤ n0) (hI : I e0 [(0, o0), (1, o1), (2, o2)] n0) (he : ∀ p ∈ e0, look e p.1 = some (ren (mv2 q1 q2) p.2) ∧ nmT n0 p.2)
    (hh : ∀ p ∈ ([(0, o0), (1, o1), (2, o2)] : Heap), p.1 < n0 ∧ ∃ o', look h (mv2 q1 q2 p.1) = some o' ∧ ObjRen (mv2 q1 q2) n0 p.2 o') : Into 1 I e h nx := by
  refine ⟨e0, _, n0, mv2 q1 q2, hI, fun t v hv => he (t, v) (look_mem hv), fun k o hk => hh (k, o) (look_mem hk), fun k k' o o' hk hk' e => ?_, fun k hk => ?_, by omega⟩
  · have k1 := look_mem hk
    have k2 := look_mem hk'
    simp only [List.mem_cons, Prod.mk.injEq, List.not_mem_nil, or_false] at k1 k2
    obtain ⟨a1, a2, a3⟩ := hq
    rcases k1 with ⟨rfl, _⟩ | ⟨rfl, _⟩ | ⟨rfl, _⟩ <;> rcases k2 with ⟨rfl, _⟩ | ⟨rfl, _⟩ | ⟨rfl, _⟩ <;> first | rfl | (exfalso; simp [mv2] at e; omega)
  · have : k = 0 := by omega
    subst this
    rfl
theorem ble_t {a b : Nat} : (Nat.ble a b = true) ↔ a ≤ b := ⟨Nat.le_of_ble_eq_true, Nat.ble_eq_true_of_le⟩
theorem ble_f {a b : Nat} : (Nat.ble a b = false) ↔ b < a := by
  constructor
  · intro h
    apply Classical.byContradiction
    intro hn
    rw [Nat.ble_eq_true_of_le (by omega)] at h
    cases h
  · intro h
    cases e : Nat.ble a b with
    | false => rfl
    | true => exact absurd (Nat.le_of_ble_eq_true e) (by omega)
theorem beq_t {a b : Nat} : (Nat.beq a b = true) ↔ a = b := ⟨beq_true, fun h => by subst h; exact Nat.beq_refl a⟩
theorem beq_f {a b : Nat} : (Nat.beq a b = false) ↔ a ≠ b := by
  constructor
  · exact beq_false
  · intro h
    cases e : Nat.beq a b with
    | false => rfl
    | true => exact absurd (beq_true e) h
theorem flatT (l : List Tg) : (flat elT.fl l).length = l.length * 6 := flat_len elT l
theorem cA_ix (o : Nat) (i : Int) (s : Nat) : cfgS.A.ix o i s = o + i.toNat * s := rfl
theorem len_ab (a b : Value) : [a, b].length = 2 := rfl
theorem delA {rest : List (Int × Int)} {q a b c d : Nat} {X : List Value} (h0 : q = 0) (ha : a = 0) (hb : b = (rest.length - 1) * 2) (hc : c = 2) : List.take a (List.drop d X) ++ List.take b (List.drop c (flat elP.fl rest)) = flat elP.fl (delI rest q) := by
  subst h0 ha hb hc
  rw [List.take_zero, List.nil_append]
  unfold delI
  rw [List.take_zero, List.nil_append]
  by_cases h : 1 ≤ rest.length
  · have e := flat_drop rest 1 h
    rw [show 1 * 2 = 2 from rfl] at e
    rw [e, List.take_of_length_le (by rw [flat2, List.length_drop]; exact Nat.le_refl _)]
  · have : rest = [] := List.length_eq_zero_iff.1 (by omega)
    subst this
    rfl
theorem delF {rest : List (Int × Int)} {q a d z z' : Nat} {X : List Value} (hq : q < rest.length) (ha : a = q * 2) (hz : z = 0) (hd : d = 0) : List.take z (List.drop z' X) ++ List.take a (List.drop d (flat elP.fl rest)) = flat elP.fl (rest.take q) := by
  subst ha hz hd
  rw [List.take_zero, List.nil_append, List.drop_zero, flat_take rest q (by omega)]
theorem delB {rest : List (Int × Int)} {q a a' b c d d' z z' : Nat} {X : List Value} (hq : q < rest.length) (ha : a = q * 2) (ha' : a' = q * 2) (hz : z = 0) (hd : d = 0) (hd' : d' = 0) (hb : b = (rest.length - q - 1) * 2) (hc : c = (q + 1) * 2) :
    List.take a (List.drop d (List.take z (List.drop z' X) ++ List.take a' (List.drop d' (flat elP.fl rest)))) ++ List.take b (List.drop c (flat elP.fl rest)) = flat elP.fl (delI rest q) := by
  rw [delF hq ha' hz hd']
  subst ha hd hb hc
  unfold delI
  have e1 : List.take (q * 2) (flat elP.fl (rest.take q)) = flat elP.fl (rest.take q) := List.take_of_length_le (by rw [flat2, List.length_take]; omega)
  have e2 : List.take ((rest.length - q - 1) * 2) (flat elP.fl (rest.drop (q + 1))) = flat elP.fl (rest.drop (q + 1)) := List.take_of_length_le (by rw [flat2, List.length_drop]; omega)
  rw [flat_append, List.drop_zero, e1, flat_drop rest (q + 1) (by omega), e2]
theorem delC {rest : List (Int × Int)} {q a' d' z z' o : Nat} {X : List Value} (hq : q + 1 = rest.length) (ha' : a' = q * 2) (hz : z = 0) (hd' : d' = 0) (ho : o = q * 2) :
    putN (List.take z (List.drop z' X) ++ List.take a' (List.drop d' (flat elP.fl rest))) o [] = flat elP.fl (delI rest q) := by
  rw [delF (by omega) ha' hz hd']
  subst ho
  unfold putN delI
  rw [List.append_nil, List.length_nil, Nat.add_zero, List.take_append_drop, List.drop_eq_nil_of_le (by omega), List.append_nil]
theorem flatT_grow {out : List Tg} {t : Tg} {a d : Nat} {X : List Value} (ha : a = out.length * 6) (hd : d = 0) (hX : X = elT.fl t) : List.take a (List.drop d (flat elT.fl out)) ++ X = flat elT.fl (out ++ [t]) := by
  subst ha hd hX
  rw [flat_append, List.drop_zero, List.take_of_length_le (by rw [flatT]; exact Nat.le_refl _)]
  simp [flat]
theorem Yields_atT {l : List Tg} {e : Int} {h : Heap} {nx q n c : Nat} (hl : 0 < l.length) (hn : n = l.length) (hc : c = l.length) (hq : ∃ cs, look h q = some (.cells true false 6 cs) ∧ cs = flat elT.fl l) : Yields elT l (some e) (.tuple #[.slice (some ⟨q, 0, none⟩) n c, .int .i64 e]) h nx := by
  obtain ⟨cs, hq, hcs⟩ := hq
  subst hn hc hcs
  exact Yields_own (e := some e) elT hl hq
end Go.Aw
end
