/-
  On: the reference's, and that they agree. No condition.
-/
import Derived.Test.YtagdfcdnfdpocaaGreatSe10
set_option linter.unusedSimpArgs false
set_option linter.unusedVariables false
noncomputable section
namespace Go.Aw
set_option maxRecDepth 100000
def btw (n a b : Int) : Bool := decide ((if b < a then b else a) ≤ n) && decide (n ≤ (if a < b then b else a))
def X120 : Nat × XF := (120, gX (s3 cI cI cI fun n a b => (true, .bool (btw n a b))))
theorem x120 : XOK Go.Proofs.Tryz.prog X120.1 X120.2 := x3 cI cI cI (xl := []) .nil (fun _ _ _ => rfl) fun n a b _ => by
  unfold Does1
  repeat' (conv => whnf
           refine bm (fun h => ?_) (fun h => ?_))
  all_goals (conv => whnf)
  all_goals (simp only [cfgS, std] at *; (try simp at h); (try simp); simp_all [btw] <;> omega)
def onR (p : Int × Int) (s : Sg) : Bool := btw p.1 s.1.1 s.2.1 && btw p.2 s.1.2 s.2.2 && decide (turnS s.1 s.2 p = 0)
def X67 : Nat × XF := (67, gX (s2 cP cS fun p s => (wide p && wideS s, .bool (onR p s))))
theorem x67 : XOK Go.Proofs.Tryz.prog X67.1 X67.2 := x2 cP cS (xl := [X120, X57]) (.cons x120 (.cons x57 .nil)) (fun _ _ => rfl) fun p s hp => by
  obtain ⟨px, py⟩ := p
  obtain ⟨⟨ax, ay⟩, ⟨bx, «by»⟩⟩ := s
  simp only [wideS, Bool.and_eq_true] at hp
  unfold Does1
  repeat' (conv => whnf
           refine bm (fun h => ?_) (fun h => ?_))
  all_goals (conv => whnf)
  all_goals (simp only [cfgS, std, pEta] at *; (try simp at h); (try simp); (try simp_all [onR]))
def X66 : Nat × XF := (66, gX (s1 cS fun s => (true, .bool (rightG s))))
theorem x66 : XOK Go.Proofs.Tryz.prog X66.1 X66.2 := x1 cS (xl := [X56]) (.cons x56 .nil) (fun _ => rfl) fun s _ => by
  obtain ⟨⟨ax, ay⟩, ⟨bx, «by»⟩⟩ := s
  unfold Does1
  repeat' (conv => whnf
           refine bm (fun h => ?_) (fun h => ?_))
  all_goals (conv => whnf)
  all_goals (simp [cfgS, std, eqP] at *; simp [rightG, eqP, *])
def OnR (p : Int × Int) (s : Sg) : Bool := rightS p && rightG s && onR p s
def X21 : Nat × XF := (21, gX (s2 cP cS fun p s => (true, .bool (OnR p s))))
theorem x21 : XOK Go.Proofs.Tryz.prog X21.1 X21.2 := x2 cP cS (xl := [X56, X66, X67]) (.cons x56 (.cons x66 (.cons x67 .nil))) (fun _ _ => rfl) fun p s hp => by
  obtain ⟨px, py⟩ := p
  obtain ⟨⟨ax, ay⟩, ⟨bx, «by»⟩⟩ := s
  unfold Does1
  repeat' (conv => whnf
           refine bm (fun h => ?_) (fun h => ?_))
  all_goals (conv => whnf)
  all_goals (simp [cfgS, std] at *)
  all_goals first | (simp [OnR, *]; done) | (simp_all [OnR, rightS_wide, rightG_wide]; done)

theorem ordS_le (a b : Int × Int) : ordS a b ≤ 0 ↔ a.1 < b.1 ∨ (a.1 = b.1 ∧ a.2 ≤ b.2) := by
  unfold ordS orI cmpI
  split <;> split <;> (try split) <;> (try split) <;> omega
theorem turn0 (a b c : Int × Int) : turnS a b c = 0 ↔ crossI a b c = 0 := by
  unfold turnS sgn
  split <;> (try split) <;> omega
theorem on_eq (p : Int × Int) (s : Sg) (h : rightG s = true) : onS p s = onR p s := by
  obtain ⟨px, py⟩ := p
  obtain ⟨⟨ax, ay⟩, ⟨bx, b2⟩⟩ := s
  have hne : ¬ (ax = bx ∧ ay = b2) := by
    simp only [rightG, eqP, Bool.and_eq_true, Bool.not_eq_true', Bool.and_true, Bool.and_eq_false_imp, decide_eq_true_eq, decide_eq_false_iff_not] at h
    intro ⟨e1, e2⟩
    exact h.2 e1 e2
  clear h
  unfold onS onR betS
  by_cases hc : turnS (ax, ay) (bx, b2) (px, py) = 0
  · have hcr := (turn0 _ _ _).1 hc
    simp only [crossI] at hcr
    rw [decide_eq_true hc, Bool.true_and, Bool.and_true, Bool.eq_iff_iff]
    simp only [btw, Bool.and_eq_true, decide_eq_true_eq, ordS_le]
    by_cases h1 : ax < bx
    · have he : endsS ((ax, ay), (bx, b2)) = ((ax, ay), (bx, b2)) := by
        unfold endsS
        rw [if_neg]
        have := (ordS_le (ax, ay) (bx, b2)).2 (.inl h1)
        simp only at *
        omega
      rw [he]
      have hb := lex_box (ax := ax) (ay := ay) (bx := bx) (b2 := b2) (px := px) (py := py) (by omega) h1
      simp only at *
      rw [hb]
      omega
    · by_cases h2 : bx < ax
      · have he : endsS ((ax, ay), (bx, b2)) = ((bx, b2), (ax, ay)) := by
          unfold endsS
          rw [if_pos]
          have := (ordS_le (ax, ay) (bx, b2))
          simp only at *
          omega
        rw [he]
        have hsw := cross_swap (ax, ay) (bx, b2) (px, py)
        simp only [crossI] at hsw
        have hb := lex_box (ax := bx) (ay := b2) (bx := ax) (b2 := ay) (px := px) (py := py) (by omega) h2
        simp only at *
        rw [hb]
        omega
      · have hx : ax = bx := by omega
        subst hx
        have hE : b2 - ay ≠ 0 := by omega
        rw [Int.sub_self, Int.zero_mul] at hcr
        have ht : px - ax = 0 := coll0 (D := b2 - ay) (by omega) hE
        have hpx : px = ax := by omega
        subst hpx
        by_cases h3 : ay < b2
        · have he : endsS ((px, ay), (px, b2)) = ((px, ay), (px, b2)) := by
            unfold endsS
            rw [if_neg]
            have := (ordS_le (px, ay) (px, b2)).2 (.inr ⟨rfl, by omega⟩)
            simp only at *
            omega
          rw [he]
          have h4 : ¬ (b2 < ay) := by omega
          simp only [Int.lt_irrefl, if_false, h3, h4, if_true]
          simp
        · have he : endsS ((px, ay), (px, b2)) = ((px, b2), (px, ay)) := by
            unfold endsS
            rw [if_pos]
            have := (ordS_le (px, ay) (px, b2))
            simp only at *
            omega
          rw [he]
          have h4 : b2 < ay := by omega
          simp only [Int.lt_irrefl, if_false, h3, h4, if_true]
          simp
  · simp [hc]
theorem On_eq (p : Int × Int) (s : Sg) : OnS p s = OnR p s := by
  unfold OnS OnR
  cases h : rightG s with
  | true => rw [on_eq p s h]
  | false => simp
theorem law4 (p : Int × Int) (s : Sg) : Does1 [X19, X20, X21] 4 [ptv p, sgv s] (.bool true) := by
  have e1 := On_eq p s
  obtain ⟨px, py⟩ := p
  obtain ⟨⟨ax, ay⟩, ⟨bx, «by»⟩⟩ := s
  unfold Does1
  repeat' (conv => whnf
           refine bm (fun h => ?_) (fun h => ?_))
  all_goals (conv => whnf)
  all_goals (simp only [cfgS, std, pEta] at *; simp at *)
  all_goals (try simp [e1])
end Go.Aw
