/-
  Contracts of the small functions: points, turns. No condition.
-/
import Derived.Test.YtagdfcdnfdpocaaGreatSe3
import Derived.Test.YtagdfcdnfdpocaaGreatAw40
set_option linter.unusedSimpArgs false
set_option linter.unusedVariables false
noncomputable section
namespace Go.Aw
def cfgS : Cfg := { A := std, T := tyT, FT := look ftL, PL := plF, PR := fun _ => false, X := fun _ => none, M := 0 }
theorem cfgS_ok : CfgOK Go.Proofs.Tryz.prog cfgS where
  ar := rfl
  tab := tabB_ok tyT_ok
  mixed := by decide +kernel
  funcs := ft_funcs
  xs := fun _ _ h => by cases h
/-- A function's body, its callees by their contracts. -/
def body (xl : List (Nat × XF)) : VC := vbody cfgS none (CX (look xl)) noY
def XLOK (xl : List (Nat × XF)) : Prop := ∀ p ∈ xl, XOK Go.Proofs.Tryz.prog p.1 p.2
theorem XLOK.nil : XLOK [] := fun _ h => by cases h
theorem XLOK.cons {f : Nat} {x : XF} {l : List (Nat × XF)} (h : XOK Go.Proofs.Tryz.prog f x) (hl : XLOK l) : XLOK ((f, x) :: l) := List.forall_mem_cons.2 ⟨h, hl⟩
theorem XLOK.look {xl : List (Nat × XF)} (h : XLOK xl) (f : Nat) (x : XF) (hx : look xl f = some x) : XOK Go.Proofs.Tryz.prog f x := h (f, x) (look_mem hx)
theorem body_calls {xl : List (Nat × XF)} (h : XLOK xl) : CallsOK Go.Proofs.Tryz.prog (body xl) := vbody_ok cfgS_ok (CX_ok h.look) noY_ok (CX_det h.look) noY_det none

/-! ### arguments -/
def ptv (p : Int × Int) : Value := .agg #[iv p.1, iv p.2]
def decI : Value → Option Int
  | .int .i64 n => some n
  | _ => none
def decP : Value → Option (Int × Int)
  | .agg ⟨[.int .i64 x, .int .i64 y]⟩ => some (x, y)
  | _ => none
theorem decI_eq {v : Value} {n : Int} (h : decI v = some n) : v = iv n := by
  unfold decI at h
  split at h
  · injection h with h; subst h; rfl
  · cases h
theorem decP_eq {v : Value} {p : Int × Int} (h : decP v = some p) : v = ptv p := by
  unfold decP at h
  split at h
  · injection h with h; subst h; rfl
  · cases h
def s1P (F : Int × Int → Bool × Value) : List Value → Option (Bool × Value)
  | [a] => (match decP a with | some p => some (F p) | none => none)
  | _ => none
theorem s1P_inv {F : Int × Int → Bool × Value} {args : List Value} {r : Bool × Value} (h : s1P F args = some r) : ∃ p, args = [ptv p] ∧ F p = r := by
  unfold s1P at h
  split at h
  · split at h
    · rename_i p e
      injection h with h
      exact ⟨p, by rw [decP_eq e], h⟩
    · cases h
  · cases h
def s3P (F : Int × Int → Int × Int → Int × Int → Bool × Value) : List Value → Option (Bool × Value)
  | [a, b, c] => (match decP a with | some p => (match decP b with | some q => (match decP c with | some r => some (F p q r) | none => none) | none => none) | none => none)
  | _ => none
theorem s3P_inv {F : Int × Int → Int × Int → Int × Int → Bool × Value} {args : List Value} {r : Bool × Value} (h : s3P F args = some r) : ∃ p q s, args = [ptv p, ptv q, ptv s] ∧ F p q s = r := by
  unfold s3P at h
  split at h
  · split at h
    · rename_i p e
      split at h
      · rename_i q e2
        split at h
        · rename_i s e3
          injection h with h
          exact ⟨p, q, s, by rw [decP_eq e, decP_eq e2, decP_eq e3], h⟩
        · cases h
      · cases h
    · cases h
  · cases h
def s1I (F : Int → Bool × Value) : List Value → Option (Bool × Value)
  | [a] => (match decI a with | some p => some (F p) | none => none)
  | _ => none
theorem s1I_inv {F : Int → Bool × Value} {args : List Value} {r : Bool × Value} (h : s1I F args = some r) : ∃ p, args = [iv p] ∧ F p = r := by
  unfold s1I at h
  split at h
  · split at h
    · rename_i p e
      injection h with h
      exact ⟨p, by rw [decI_eq e], h⟩
    · cases h
  · cases h
def s2I (F : Int → Int → Bool × Value) : List Value → Option (Bool × Value)
  | [a, b] => (match decI a with | some p => (match decI b with | some q => some (F p q) | none => none) | none => none)
  | _ => none
theorem s2I_inv {F : Int → Int → Bool × Value} {args : List Value} {r : Bool × Value} (h : s2I F args = some r) : ∃ p q, args = [iv p, iv q] ∧ F p q = r := by
  unfold s2I at h
  split at h
  · split at h
    · rename_i p e
      split at h
      · rename_i q e2
        injection h with h
        exact ⟨p, q, by rw [decI_eq e, decI_eq e2], h⟩
      · cases h
    · cases h
  · cases h
def Does1 (xl : List (Nat × XF)) (f : Nat) (args : List Value) (v : Value) : Prop := body xl f args [] 0 (fun u _ _ => u = v)
theorem x1P {xl : List (Nat × XF)} (hx : XLOK xl) {f : Nat} {F : Int × Int → Bool × Value} (hg : ∀ p, gT (F p).2 = true) (h : ∀ p, (F p).1 = true → Does1 xl f [ptv p] (F p).2) : XOK Go.Proofs.Tryz.prog f (gX (s1P F)) :=
  gX_ok (body_calls hx) fun args v hs => by
    obtain ⟨p, rfl, e⟩ := s1P_inv hs
    have h1 : (F p).1 = true := by rw [e]
    have h2 : (F p).2 = v := by rw [e]
    subst h2
    exact ⟨rfl, hg p, h p h1⟩
theorem x3P {xl : List (Nat × XF)} (hx : XLOK xl) {f : Nat} {F : Int × Int → Int × Int → Int × Int → Bool × Value} (hg : ∀ p q r, gT (F p q r).2 = true) (h : ∀ p q r, (F p q r).1 = true → Does1 xl f [ptv p, ptv q, ptv r] (F p q r).2) : XOK Go.Proofs.Tryz.prog f (gX (s3P F)) :=
  gX_ok (body_calls hx) fun args v hs => by
    obtain ⟨p, q, r, rfl, e⟩ := s3P_inv hs
    have h1 : (F p q r).1 = true := by rw [e]
    have h2 : (F p q r).2 = v := by rw [e]
    subst h2
    exact ⟨rfl, hg p q r, h p q r h1⟩
theorem x1I {xl : List (Nat × XF)} (hx : XLOK xl) {f : Nat} {F : Int → Bool × Value} (hg : ∀ p, gT (F p).2 = true) (h : ∀ p, (F p).1 = true → Does1 xl f [iv p] (F p).2) : XOK Go.Proofs.Tryz.prog f (gX (s1I F)) :=
  gX_ok (body_calls hx) fun args v hs => by
    obtain ⟨p, rfl, e⟩ := s1I_inv hs
    have h1 : (F p).1 = true := by rw [e]
    have h2 : (F p).2 = v := by rw [e]
    subst h2
    exact ⟨rfl, hg p, h p h1⟩
theorem x2I {xl : List (Nat × XF)} (hx : XLOK xl) {f : Nat} {F : Int → Int → Bool × Value} (hg : ∀ p q, gT (F p q).2 = true) (h : ∀ p q, (F p q).1 = true → Does1 xl f [iv p, iv q] (F p q).2) : XOK Go.Proofs.Tryz.prog f (gX (s2I F)) :=
  gX_ok (body_calls hx) fun args v hs => by
    obtain ⟨p, q, rfl, e⟩ := s2I_inv hs
    have h1 : (F p q).1 = true := by rw [e]
    have h2 : (F p q).2 = v := by rw [e]
    subst h2
    exact ⟨rfl, hg p q, h p q h1⟩
def elP : El (Int × Int) := ⟨fun p => [iv p.1, iv p.2], 2, fun _ => rfl, fun _ => rfl⟩

/-! ### what they yield -/
def rightS (p : Int × Int) : Bool := decide (0 ≤ p.1) && decide (p.1 ≤ 10000) && decide (0 ≤ p.2) && decide (p.2 ≤ 10000)
def wide (p : Int × Int) : Bool := decide (-1000000 ≤ p.1) && decide (p.1 ≤ 1000000) && decide (-1000000 ≤ p.2) && decide (p.2 ≤ 1000000)
def crossI (a b c : Int × Int) : Int := (b.1 - a.1) * (c.2 - a.2) - (b.2 - a.2) * (c.1 - a.1)
def sgn (n : Int) : Int := if n < 0 then -1 else if 0 < n then 1 else 0
def cmpI (a b : Int) : Int := if a < b then -1 else if b < a then 1 else 0
def turnS (a b c : Int × Int) : Int := sgn (crossI a b c)

set_option maxRecDepth 100000
def X58 : Nat × XF := (58, gX (s1P fun p => (true, .bool (rightS p))))
theorem x58 : XOK Go.Proofs.Tryz.prog X58.1 X58.2 := x1P .nil (fun _ => rfl) fun p _ => by
  obtain ⟨x, y⟩ := p
  unfold Does1
  repeat' (conv => whnf
           refine bm (fun h => ?_) (fun h => ?_))
  all_goals (conv => whnf)
  all_goals (simp [cfgS, std] at *; simp [rightS, *] <;> omega)
end Go.Aw
