/-
  Triangles: a point in one; ears. No condition.
-/
import Derived.Test.YtmkcjbpekejgdaaGreatSe82
set_option linter.unusedSimpArgs false
set_option linter.unusedVariables false
noncomputable section
namespace Go.Aw
set_option maxRecDepth 100000
section
variable {α β γ δ : Type} (a : Cd α) (b : Cd β) (c : Cd γ) (d : Cd δ)
def s4 (F : α → β → γ → δ → Bool × Value) : List Value → Option (Bool × Value)
  | [u, v, w, x] => (match a.dec u with | some u => (match b.dec v with | some v => (match c.dec w with | some w => (match d.dec x with | some x => some (F u v w x) | none => none) | none => none) | none => none) | none => none)
  | _ => none
theorem s4_inv {F : α → β → γ → δ → Bool × Value} {args : List Value} {r : Bool × Value} (h : s4 a b c d F args = some r) : ∃ x y z t, args = [a.enc x, b.enc y, c.enc z, d.enc t] ∧ F x y z t = r := by
  unfold s4 at h
  split at h
  · split at h
    · rename_i x e
      split at h
      · rename_i y e2
        split at h
        · rename_i z e3
          split at h
          · rename_i t e4
            injection h with h
            exact ⟨x, y, z, t, by rw [a.ok _ _ e, b.ok _ _ e2, c.ok _ _ e3, d.ok _ _ e4], h⟩
          · cases h
        · cases h
      · cases h
    · cases h
  · cases h
theorem x4 {xl : List (Nat × XF)} (hx : XLOK xl) {f : Nat} {F : α → β → γ → δ → Bool × Value} (hg : ∀ x y z t, gT (F x y z t).2 = true) (h : ∀ x y z t, (F x y z t).1 = true → Does1 xl f [a.enc x, b.enc y, c.enc z, d.enc t] (F x y z t).2) : XOK Go.Proofs.Tryz.prog f (gX (s4 a b c d F)) :=
  gX_ok (body_calls hx) fun args v hs => by
    obtain ⟨x, y, z, t, rfl, e⟩ := s4_inv a b c d hs
    have h1 : (F x y z t).1 = true := by rw [e]
    have h2 : (F x y z t).2 = v := by rw [e]
    subst h2
    exact ⟨by simp [allGA, a.gr, b.gr, c.gr, d.gr], hg x y z t, h x y z t h1⟩
end
abbrev Tg := (Int × Int) × (Int × Int) × (Int × Int)
def trv (t : Tg) : Value := .agg #[iv t.1.1, iv t.1.2, iv t.2.1.1, iv t.2.1.2, iv t.2.2.1, iv t.2.2.2]
def decT : Value → Option Tg
  | .agg ⟨[.int .i64 a, .int .i64 b, .int .i64 c, .int .i64 d, .int .i64 e, .int .i64 f]⟩ => some ((a, b), (c, d), (e, f))
  | _ => none
theorem decT_eq {v : Value} {t : Tg} (h : decT v = some t) : v = trv t := by
  unfold decT at h
  split at h
  · injection h with h; subst h; rfl
  · cases h
def cT : Cd Tg := ⟨decT, trv, fun _ _ h => decT_eq h, fun _ => rfl⟩
def elT : El Tg := ⟨fun t => [iv t.1.1, iv t.1.2, iv t.2.1.1, iv t.2.1.2, iv t.2.2.1, iv t.2.2.2], 6, fun _ => rfl, fun _ => rfl⟩
def holdB (a b c p : Int × Int) : Bool := decide (0 ≤ turnS a b p) && decide (0 ≤ turnS b c p) && decide (0 ≤ turnS c a p)
def D66 : Nat × XF := (66, gX (s4 cP cP cP cP fun a b c p => (wide a && wide b && wide c && wide p, .bool (holdB a b c p))))
theorem d66 : XOK Go.Proofs.Tryz.prog D66.1 D66.2 := x4 cP cP cP cP (xl := [X55]) (.cons x55 .nil) (fun _ _ _ _ => rfl) fun a b c p hp => by
  simp only [Bool.and_eq_true] at hp
  obtain ⟨⟨⟨w1, w2⟩, w3⟩, w4⟩ := hp
  obtain ⟨ax, ay⟩ := a
  obtain ⟨bx, b_y⟩ := b
  obtain ⟨cx, cy⟩ := c
  obtain ⟨px, py⟩ := p
  unfold Does1
  repeat' ((conv => whnf); refine bm (fun g => ?_) (fun g => ?_))
  all_goals (conv => whnf)
  all_goals first
    | (exfalso
       have hg : (wide (ax, ay) && wide (bx, b_y) && wide (px, py)) = false := g
       rw [w1, w2, w4] at hg
       cases hg)
    | (exfalso
       have hg : (wide (bx, b_y) && wide (cx, cy) && wide (px, py)) = false := g
       rw [w2, w3, w4] at hg
       cases hg)
    | (exfalso
       have hg : (wide (cx, cy) && wide (ax, ay) && wide (px, py)) = false := g
       rw [w3, w1, w4] at hg
       cases hg)
    | (show Value.bool _ = .bool (holdB (ax, ay) (bx, b_y) (cx, cy) (px, py))
       unfold holdB
       simp only [cA_le, cA_eqB] at *
       generalize decide (0 ≤ turnS (ax, ay) (bx, b_y) (px, py)) = u1 at *
       generalize decide (0 ≤ turnS (bx, b_y) (cx, cy) (px, py)) = u2 at *
       generalize decide (0 ≤ turnS (cx, cy) (ax, ay) (px, py)) = u3 at *
       cases u1 <;> cases u2 <;> cases u3 <;> simp_all
       done)
    | trace_state
def D135 : Nat × XF := (135, gX (s2 cT cP fun t p => (wide t.1 && wide t.2.1 && wide t.2.2 && wide p, .bool (holdB t.1 t.2.1 t.2.2 p))))
theorem d135 : XOK Go.Proofs.Tryz.prog D135.1 D135.2 := x2 cT cP (xl := [X57]) (.cons x57 .nil) (fun _ _ => rfl) fun t p hp => by
  simp only [Bool.and_eq_true] at hp
  obtain ⟨⟨ax, ay⟩, ⟨bx, b_y⟩, ⟨cx, cy⟩⟩ := t
  obtain ⟨px, py⟩ := p
  obtain ⟨⟨⟨w1, w2⟩, w3⟩, w4⟩ := hp
  unfold Does1
  repeat' ((conv => whnf); refine bm (fun g => ?_) (fun g => ?_))
  all_goals (conv => whnf)
  all_goals first
    | (exfalso
       have hg : (wide (ax, ay) && wide (bx, b_y) && wide (px, py)) = false := g
       rw [show wide (ax, ay) = true from w1, show wide (bx, b_y) = true from w2, w4] at hg
       cases hg)
    | (exfalso
       have hg : (wide (bx, b_y) && wide (cx, cy) && wide (px, py)) = false := g
       rw [show wide (bx, b_y) = true from w2, show wide (cx, cy) = true from w3, w4] at hg
       cases hg)
    | (exfalso
       have hg : (wide (cx, cy) && wide (ax, ay) && wide (px, py)) = false := g
       rw [show wide (ax, ay) = true from w1, show wide (cx, cy) = true from w3, w4] at hg
       cases hg)
    | (show Value.bool _ = .bool (holdB (ax, ay) (bx, b_y) (cx, cy) (px, py))
       unfold holdB
       simp only [cA_le, cA_eqB] at *
       generalize decide (0 ≤ turnS (ax, ay) (bx, b_y) (px, py)) = u1 at *
       generalize decide (0 ≤ turnS (bx, b_y) (cx, cy) (px, py)) = u2 at *
       generalize decide (0 ≤ turnS (cx, cy) (ax, ay) (px, py)) = u3 at *
       cases u1 <;> cases u2 <;> cases u3 <;> simp_all
       done)
    | trace_state
/-- A corner is an ear: it turns left, and no other corner is in its triangle. -/
def clearB (a b c p : Int × Int) : Bool := eqP p a || eqP p b || eqP p c || !(holdB a b c p)
def earB (l : List (Int × Int)) (i : Nat) : Bool := decide (0 < turnS (prv l i) (at2 l i) (nxt l i)) && l.all (fun p => clearB (prv l i) (at2 l i) (nxt l i) p)
theorem earB_no {l : List (Int × Int)} {i : Nat} (h : turnS (prv l i) (at2 l i) (nxt l i) ≤ 0) : earB l i = false := by
  unfold earB
  rw [decide_eq_false (by omega), Bool.false_and]
theorem earB_not {l : List (Int × Int)} {i k : Nat} (hk : k < l.length) (h : clearB (prv l i) (at2 l i) (nxt l i) (at2 l k) = false) : earB l i = false := by
  unfold earB
  have : l.all (fun p => clearB (prv l i) (at2 l i) (nxt l i) p) = false := by
    rw [Bool.eq_false_iff]
    intro e
    have := List.all_eq_true.1 e (at2 l k) (by rw [at2_eq hk]; exact List.getElem_mem hk)
    rw [h] at this
    cases this
  rw [this, Bool.and_false]
theorem earB_yes {l : List (Int × Int)} {i : Nat} (h : 0 < turnS (prv l i) (at2 l i) (nxt l i)) (h2 : ∀ k, k < l.length → clearB (prv l i) (at2 l i) (nxt l i) (at2 l k) = true) : earB l i = true := by
  unfold earB
  rw [decide_eq_true h, Bool.true_and]
  refine List.all_eq_true.2 fun p hp => ?_
  obtain ⟨k, hk, rfl⟩ := List.mem_iff_getElem.1 hp
  rw [← at2_eq hk]
  exact h2 k hk
def SEar (l : List (Int × Int)) : List Value → Option (Bool × Value)
  | [.int .i64 j] => some (decide (0 ≤ j) && decide (j < l.length) && decide (l.length ≤ 1000000) && l.all rightS, .bool (earB l j.toNat))
  | _ => none
theorem SEar_inv {l : List (Int × Int)} {r : List Value} {v : Value} (h : SEar l r = some (true, v)) : ∃ i : Nat, r = [iv i] ∧ i < l.length ∧ l.length ≤ 1000000 ∧ l.all rightS = true ∧ v = .bool (earB l i) := by
  unfold SEar at h
  split at h
  · rename_i j
    injection h with h; injection h with h1 h2
    simp only [Bool.and_eq_true, decide_eq_true_eq] at h1
    obtain ⟨n, rfl⟩ : ∃ n : Nat, j = n := ⟨j.toNat, by omega⟩
    exact ⟨n, rfl, by omega, h1.1.2, h1.2, by rw [← h2]; rfl⟩
  · cases h
end Go.Aw
