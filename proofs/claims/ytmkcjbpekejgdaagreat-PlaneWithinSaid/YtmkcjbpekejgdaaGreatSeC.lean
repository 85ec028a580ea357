/-
  Parts of the proof, put together. No condition.
-/
import Derived.Test.YtmkcjbpekejgdaaGreatSeB
import Derived.Test.YtmkcjbpekejgdaaGreatAwE
/-
  Contracts: segments, order, on. No condition.
-/
set_option linter.unusedSimpArgs false
set_option linter.unusedVariables false
noncomputable section
namespace Go.Aw
set_option maxRecDepth 100000
/-! ### decoders -/
structure Cd (α : Type) where
  dec : Value → Option α
  enc : α → Value
  ok : ∀ v a, dec v = some a → v = enc a
  gr : ∀ a, gA (enc a) = true
def cI : Cd Int := ⟨decI, iv, fun _ _ h => decI_eq h, fun _ => rfl⟩
def cP : Cd (Int × Int) := ⟨decP, ptv, fun _ _ h => decP_eq h, fun _ => rfl⟩
abbrev Sg := (Int × Int) × (Int × Int)
def sgv (s : Sg) : Value := .agg #[iv s.1.1, iv s.1.2, iv s.2.1, iv s.2.2]
def decS : Value → Option Sg
  | .agg ⟨[.int .i64 a, .int .i64 b, .int .i64 c, .int .i64 d]⟩ => some ((a, b), (c, d))
  | _ => none
theorem decS_eq {v : Value} {s : Sg} (h : decS v = some s) : v = sgv s := by
  unfold decS at h
  split at h
  · injection h with h; subst h; rfl
  · cases h
def cS : Cd Sg := ⟨decS, sgv, fun _ _ h => decS_eq h, fun _ => rfl⟩
section
variable {α β γ : Type} (a : Cd α) (b : Cd β) (c : Cd γ)
def s1 (F : α → Bool × Value) : List Value → Option (Bool × Value)
  | [u] => (match a.dec u with | some x => some (F x) | none => none)
  | _ => none
def s2 (F : α → β → Bool × Value) : List Value → Option (Bool × Value)
  | [u, v] => (match a.dec u with | some x => (match b.dec v with | some y => some (F x y) | none => none) | none => none)
  | _ => none
def s3 (F : α → β → γ → Bool × Value) : List Value → Option (Bool × Value)
  | [u, v, w] => (match a.dec u with | some x => (match b.dec v with | some y => (match c.dec w with | some z => some (F x y z) | none => none) | none => none) | none => none)
  | _ => none
theorem s1_inv {F : α → Bool × Value} {args : List Value} {r : Bool × Value} (h : s1 a F args = some r) : ∃ x, args = [a.enc x] ∧ F x = r := by
  unfold s1 at h
  split at h
  · split at h
    · rename_i x e
      injection h with h
      exact ⟨x, by rw [a.ok _ _ e], h⟩
    · cases h
  · cases h
theorem s2_inv {F : α → β → Bool × Value} {args : List Value} {r : Bool × Value} (h : s2 a b F args = some r) : ∃ x y, args = [a.enc x, b.enc y] ∧ F x y = r := by
  unfold s2 at h
  split at h
  · split at h
    · rename_i x e
      split at h
      · rename_i y e2
        injection h with h
        exact ⟨x, y, by rw [a.ok _ _ e, b.ok _ _ e2], h⟩
      · cases h
    · cases h
  · cases h
theorem s3_inv {F : α → β → γ → Bool × Value} {args : List Value} {r : Bool × Value} (h : s3 a b c F args = some r) : ∃ x y z, args = [a.enc x, b.enc y, c.enc z] ∧ F x y z = r := by
  unfold s3 at h
  split at h
  · split at h
    · rename_i x e
      split at h
      · rename_i y e2
        split at h
        · rename_i z e3
          injection h with h
          exact ⟨x, y, z, by rw [a.ok _ _ e, b.ok _ _ e2, c.ok _ _ e3], h⟩
        · cases h
      · cases h
    · cases h
  · cases h
theorem x1 {xl : List (Nat × XF)} (hx : XLOK xl) {f : Nat} {F : α → Bool × Value} (hg : ∀ x, gT (F x).2 = true) (h : ∀ x, (F x).1 = true → Does1 xl f [a.enc x] (F x).2) : XOK Go.Proofs.Tryz.prog f (gX (s1 a F)) :=
  gX_ok (body_calls hx) fun args v hs => by
    obtain ⟨x, rfl, e⟩ := s1_inv a hs
    have h1 : (F x).1 = true := by rw [e]
    have h2 : (F x).2 = v := by rw [e]
    subst h2
    exact ⟨by simp [allGA, a.gr], hg x, h x h1⟩
theorem x2 {xl : List (Nat × XF)} (hx : XLOK xl) {f : Nat} {F : α → β → Bool × Value} (hg : ∀ x y, gT (F x y).2 = true) (h : ∀ x y, (F x y).1 = true → Does1 xl f [a.enc x, b.enc y] (F x y).2) : XOK Go.Proofs.Tryz.prog f (gX (s2 a b F)) :=
  gX_ok (body_calls hx) fun args v hs => by
    obtain ⟨x, y, rfl, e⟩ := s2_inv a b hs
    have h1 : (F x y).1 = true := by rw [e]
    have h2 : (F x y).2 = v := by rw [e]
    subst h2
    exact ⟨by simp [allGA, a.gr, b.gr], hg x y, h x y h1⟩
theorem x3 {xl : List (Nat × XF)} (hx : XLOK xl) {f : Nat} {F : α → β → γ → Bool × Value} (hg : ∀ x y z, gT (F x y z).2 = true) (h : ∀ x y z, (F x y z).1 = true → Does1 xl f [a.enc x, b.enc y, c.enc z] (F x y z).2) : XOK Go.Proofs.Tryz.prog f (gX (s3 a b c F)) :=
  gX_ok (body_calls hx) fun args v hs => by
    obtain ⟨x, y, z, rfl, e⟩ := s3_inv a b c hs
    have h1 : (F x y z).1 = true := by rw [e]
    have h2 : (F x y z).2 = v := by rw [e]
    subst h2
    exact ⟨by simp [allGA, a.gr, b.gr, c.gr], hg x y z, h x y z h1⟩
end

/-! ### a body whose loops are short -/
def bodyF (xl : List (Nat × XF)) (n : Nat) : VC := vbody cfgS (some n) (CX (look xl)) noY
theorem bodyF_calls {xl : List (Nat × XF)} (h : XLOK xl) (n : Nat) : CallsOK Go.Proofs.Tryz.prog (bodyF xl n) := vbody_ok cfgS_ok (CX_ok h.look) noY_ok (CX_det h.look) noY_det (some n)
def elI : El Int := ⟨fun n => [iv n], 1, fun _ => rfl, fun _ => rfl, by decide⟩
def orI (a b : Int) : Int := if a = 0 then b else a
def S114 : List Int → List Value → Option (Bool × Value)
  | [a, b], [] => some (true, iv (orI a b))
  | _, _ => none
def X114 : Nat × XF := (97, lX elI S114)
theorem x114 : XOK Go.Proofs.Tryz.prog X114.1 X114.2 := lX_ok elI (bodyF_calls (xl := []) .nil 4) fun l r v hs => by
  have : ∃ a b, l = [a, b] ∧ r = [] ∧ v = iv (orI a b) := by
    unfold S114 at hs
    split at hs
    · injection hs with hs; injection hs with _ h2; exact ⟨_, _, rfl, rfl, h2.symm⟩
    · cases hs
  obtain ⟨a, b, rfl, rfl, rfl⟩ := this
  refine ⟨rfl, rfl, fun c => ?_⟩
  repeat' (conv => whnf
           refine bm (fun h => ?_) (fun h => ?_))
  all_goals (conv => whnf)
  all_goals (simp only [cfgS, std, iv, orI] at *; simp at *)
  all_goals (try simp_all)
theorem pEta (p : Int × Int) : (p.1, p.2) = p := rfl
def ordS (a b : Int × Int) : Int := orI (cmpI a.1 b.1) (cmpI a.2 b.2)
def X106 : Nat × XF := (78, gX (s2 cP cP fun a b => (true, iv (ordS a b))))
theorem x106 : XOK Go.Proofs.Tryz.prog X106.1 X106.2 := x2 cP cP (xl := [X101, X114]) (.cons x101 (.cons x114 .nil)) (fun _ _ => rfl) fun a b _ => by
  obtain ⟨ax, ay⟩ := a
  obtain ⟨bx, b_y⟩ := b
  unfold Does1
  conv => whnf
  refine ⟨[cmpI ax bx, cmpI ay b_y], ⟨rfl, _, _, _, _, rfl, rfl⟩, ?_⟩
  conv => whnf
  rfl
def endsS (s : Sg) : (Int × Int) × (Int × Int) := if 0 < ordS s.1 s.2 then (s.2, s.1) else (s.1, s.2)
def X74 : Nat × XF := (94, gX (s1 cS fun s => (true, .tuple #[ptv (endsS s).1, ptv (endsS s).2])))
theorem x74 : XOK Go.Proofs.Tryz.prog X74.1 X74.2 := x1 cS (xl := [X106]) (.cons x106 .nil) (fun _ => rfl) fun s _ => by
  obtain ⟨⟨ax, ay⟩, ⟨bx, b_y⟩⟩ := s
  unfold Does1
  repeat' (conv => whnf
           refine bm (fun h => ?_) (fun h => ?_))
  all_goals (conv => whnf)
  all_goals (simp only [cfgS, std, decide_eq_true_eq, decide_eq_false_iff_not] at h)
  · simp [endsS, h, ptv, iv]
  · simp [endsS, h, ptv, iv]
def betS (p : Int × Int) (s : Sg) : Bool := decide (ordS (endsS s).1 p ≤ 0) && decide (ordS p (endsS s).2 ≤ 0)
def X119 : Nat × XF := (147, gX (s2 cP cS fun p s => (true, .bool (betS p s))))
theorem x119 : XOK Go.Proofs.Tryz.prog X119.1 X119.2 := x2 cP cS (xl := [X106, X74]) (.cons x106 (.cons x74 .nil)) (fun _ _ => rfl) fun p s _ => by
  obtain ⟨px, py⟩ := p
  obtain ⟨⟨ax, ay⟩, ⟨bx, b_y⟩⟩ := s
  unfold Does1
  repeat' (conv => whnf
           refine bm (fun h => ?_) (fun h => ?_))
  all_goals (conv => whnf)
  all_goals (simp only [cfgS, std, pEta] at *; simp at h ⊢; simp [betS, *] <;> omega)
def wideS (s : Sg) : Bool := wide s.1 && wide s.2
def onS (p : Int × Int) (s : Sg) : Bool := decide (turnS s.1 s.2 p = 0) && betS p s
def X65 : Nat × XF := (102, gX (s2 cP cS fun p s => (wide p && wideS s, .bool (onS p s))))
theorem x65 : XOK Go.Proofs.Tryz.prog X65.1 X65.2 := x2 cP cS (xl := [X55, X119]) (.cons x55 (.cons x119 .nil)) (fun _ _ => rfl) fun p s hp => by
  obtain ⟨px, py⟩ := p
  obtain ⟨⟨ax, ay⟩, ⟨bx, b_y⟩⟩ := s
  simp only [wideS, Bool.and_eq_true] at hp
  unfold Does1
  repeat' (conv => whnf
           refine bm (fun h => ?_) (fun h => ?_))
  all_goals (conv => whnf)
  all_goals (simp only [cfgS, std, pEta] at *; (try simp at h); (try simp); (try simp_all [onS]))
def eqP (a b : Int × Int) : Bool := decide (a.1 = b.1) && (decide (a.2 = b.2) && true)
def rightG (s : Sg) : Bool := rightS s.1 && rightS s.2 && !(eqP s.1 s.2)
def X64 : Nat × XF := (69, gX (s1 cS fun s => (true, .bool (rightG s))))
theorem x64 : XOK Go.Proofs.Tryz.prog X64.1 X64.2 := x1 cS (xl := [X58]) (.cons x58 .nil) (fun _ => rfl) fun s _ => by
  obtain ⟨⟨ax, ay⟩, ⟨bx, b_y⟩⟩ := s
  unfold Does1
  repeat' (conv => whnf
           refine bm (fun h => ?_) (fun h => ?_))
  all_goals (conv => whnf)
  all_goals (simp [cfgS, std, eqP] at *; simp [rightG, eqP, *])
def OnS (p : Int × Int) (s : Sg) : Bool := rightS p && rightG s && onS p s
theorem rightG_wide {s : Sg} (h : rightG s = true) : wideS s = true := by
  simp only [rightG, wideS, Bool.and_eq_true] at *
  exact ⟨rightS_wide h.1.1, rightS_wide h.1.2⟩
def X20 : Nat × XF := (43, gX (s2 cP cS fun p s => (true, .bool (OnS p s))))
theorem x20 : XOK Go.Proofs.Tryz.prog X20.1 X20.2 := x2 cP cS (xl := [X58, X64, X65]) (.cons x58 (.cons x64 (.cons x65 .nil))) (fun _ _ => rfl) fun p s hp => by
  obtain ⟨px, py⟩ := p
  obtain ⟨⟨ax, ay⟩, ⟨bx, b_y⟩⟩ := s
  unfold Does1
  repeat' (conv => whnf
           refine bm (fun h => ?_) (fun h => ?_))
  all_goals (conv => whnf)
  all_goals (simp [cfgS, std] at *)
  all_goals first | (simp [OnS, *]; done) | (simp_all [OnS, rightS_wide, rightG_wide]; done)
end Go.Aw
end

/-
  On: the reference's, and that they agree. No condition.
-/
set_option linter.unusedSimpArgs false
set_option linter.unusedVariables false
noncomputable section
namespace Go.Aw
set_option maxRecDepth 100000
def btw (n a b : Int) : Bool := decide ((if b < a then b else a) ≤ n) && decide (n ≤ (if a < b then b else a))
def X120 : Nat × XF := (144, gX (s3 cI cI cI fun n a b => (true, .bool (btw n a b))))
theorem x120 : XOK Go.Proofs.Tryz.prog X120.1 X120.2 := x3 cI cI cI (xl := []) .nil (fun _ _ _ => rfl) fun n a b _ => by
  unfold Does1
  repeat' (conv => whnf
           refine bm (fun h => ?_) (fun h => ?_))
  all_goals (conv => whnf)
  all_goals (simp only [cfgS, std] at *; (try simp at h); (try simp); simp_all [btw] <;> omega)
def onR (p : Int × Int) (s : Sg) : Bool := btw p.1 s.1.1 s.2.1 && btw p.2 s.1.2 s.2.2 && decide (turnS s.1 s.2 p = 0)
def X67 : Nat × XF := (141, gX (s2 cP cS fun p s => (wide p && wideS s, .bool (onR p s))))
theorem x67 : XOK Go.Proofs.Tryz.prog X67.1 X67.2 := x2 cP cS (xl := [X120, X57]) (.cons x120 (.cons x57 .nil)) (fun _ _ => rfl) fun p s hp => by
  obtain ⟨px, py⟩ := p
  obtain ⟨⟨ax, ay⟩, ⟨bx, b_y⟩⟩ := s
  simp only [wideS, Bool.and_eq_true] at hp
  unfold Does1
  repeat' (conv => whnf
           refine bm (fun h => ?_) (fun h => ?_))
  all_goals (conv => whnf)
  all_goals (simp only [cfgS, std, pEta] at *; (try simp at h); (try simp); (try simp_all [onR]))
def X66 : Nat × XF := (88, gX (s1 cS fun s => (true, .bool (rightG s))))
theorem x66 : XOK Go.Proofs.Tryz.prog X66.1 X66.2 := x1 cS (xl := [X56]) (.cons x56 .nil) (fun _ => rfl) fun s _ => by
  obtain ⟨⟨ax, ay⟩, ⟨bx, b_y⟩⟩ := s
  unfold Does1
  repeat' (conv => whnf
           refine bm (fun h => ?_) (fun h => ?_))
  all_goals (conv => whnf)
  all_goals (simp [cfgS, std, eqP] at *; simp [rightG, eqP, *])
def OnR (p : Int × Int) (s : Sg) : Bool := rightS p && rightG s && onR p s
theorem ordS_le (a b : Int × Int) : ordS a b ≤ 0 ↔ a.1 < b.1 ∨ (a.1 = b.1 ∧ a.2 ≤ b.2) := by
  unfold ordS orI cmpI
  split <;> split <;> (try split) <;> (try split) <;> omega
theorem turn0 (a b c : Int × Int) : turnS a b c = 0 ↔ crossI a b c = 0 := by
  unfold turnS sgn
  split <;> (try split) <;> omega
theorem on_eq (p : Int × Int) (s : Sg) (h : rightG s = true) : onS p s = onR p s := by
  obtain ⟨px, py⟩ := p
  obtain ⟨⟨ax, ay⟩, ⟨bx, b2⟩⟩ := s
  have hne : ¬ (ax = bx ∧ ay = b2) := by
    simp only [rightG, eqP, Bool.and_eq_true, Bool.not_eq_true', Bool.and_true, Bool.and_eq_false_imp, decide_eq_true_eq, decide_eq_false_iff_not] at h
    intro ⟨e1, e2⟩
    exact h.2 e1 e2
  clear h
  unfold onS onR betS
  by_cases hc : turnS (ax, ay) (bx, b2) (px, py) = 0
  · have hcr := (turn0 _ _ _).1 hc
    simp only [crossI] at hcr
    rw [decide_eq_true hc, Bool.true_and, Bool.and_true, Bool.eq_iff_iff]
    simp only [btw, Bool.and_eq_true, decide_eq_true_eq, ordS_le]
    by_cases h1 : ax < bx
    · have he : endsS ((ax, ay), (bx, b2)) = ((ax, ay), (bx, b2)) := by
        unfold endsS
        rw [if_neg]
        have := (ordS_le (ax, ay) (bx, b2)).2 (.inl h1)
        simp only at *
        omega
      rw [he]
      have hb := lex_box (ax := ax) (ay := ay) (bx := bx) (b2 := b2) (px := px) (py := py) (by omega) h1
      simp only at *
      rw [hb]
      omega
    · by_cases h2 : bx < ax
      · have he : endsS ((ax, ay), (bx, b2)) = ((bx, b2), (ax, ay)) := by
          unfold endsS
          rw [if_pos]
          have := (ordS_le (ax, ay) (bx, b2))
          simp only at *
          omega
        rw [he]
        have hsw := cross_swap (ax, ay) (bx, b2) (px, py)
        simp only [crossI] at hsw
        have hb := lex_box (ax := bx) (ay := b2) (bx := ax) (b2 := ay) (px := px) (py := py) (by omega) h2
        simp only at *
        rw [hb]
        omega
      · have hx : ax = bx := by omega
        subst hx
        have hE : b2 - ay ≠ 0 := by omega
        rw [Int.sub_self, Int.zero_mul] at hcr
        have ht : px - ax = 0 := coll0 (D := b2 - ay) (by omega) hE
        have hpx : px = ax := by omega
        subst hpx
        by_cases h3 : ay < b2
        · have he : endsS ((px, ay), (px, b2)) = ((px, ay), (px, b2)) := by
            unfold endsS
            rw [if_neg]
            have := (ordS_le (px, ay) (px, b2)).2 (.inr ⟨rfl, by omega⟩)
            simp only at *
            omega
          rw [he]
          have h4 : ¬ (b2 < ay) := by omega
          simp only [Int.lt_irrefl, if_false, h3, h4, if_true]
          simp
        · have he : endsS ((px, ay), (px, b2)) = ((px, b2), (px, ay)) := by
            unfold endsS
            rw [if_pos]
            have := (ordS_le (px, ay) (px, b2))
            simp only at *
            omega
          rw [he]
          have h4 : b2 < ay := by omega
          simp only [Int.lt_irrefl, if_false, h3, h4, if_true]
          simp
  · simp [hc]
theorem On_eq (p : Int × Int) (s : Sg) : OnS p s = OnR p s := by
  unfold OnS OnR
  cases h : rightG s with
  | true => rw [on_eq p s h]
  | false => simp
end Go.Aw
end
