/-
  Parts of the proof, put together. No condition.
-/
import Derived.Test.YtmkcjbpekejgdaaGreatSeA
import Derived.Test.YtmkcjbpekejgdaaGreatAwE
/-
  Contracts of the small functions: points, turns. No condition.
-/
set_option linter.unusedSimpArgs false
set_option linter.unusedVariables false
noncomputable section
namespace Go.Aw
def cfgS : Cfg := { A := std, T := tyT, FT := look ftL, PL := plF, PR := fun _ => false, X := fun _ => none, M := 0 }
theorem cfgS_ok : CfgOK Go.Proofs.Tryz.prog cfgS where
  ar := rfl
  tab := tabB_ok tyT_ok
  mixed := by decide +kernel
  funcs := ft_funcs
  xs := fun _ _ h => by cases h
/-- A function's body, its callees by their contracts. -/
def body (xl : List (Nat × XF)) : VC := vbody cfgS none (CX (look xl)) noY
def XLOK (xl : List (Nat × XF)) : Prop := ∀ p ∈ xl, XOK Go.Proofs.Tryz.prog p.1 p.2
theorem XLOK.nil : XLOK [] := fun _ h => by cases h
theorem XLOK.cons {f : Nat} {x : XF} {l : List (Nat × XF)} (h : XOK Go.Proofs.Tryz.prog f x) (hl : XLOK l) : XLOK ((f, x) :: l) := List.forall_mem_cons.2 ⟨h, hl⟩
theorem XLOK.look {xl : List (Nat × XF)} (h : XLOK xl) (f : Nat) (x : XF) (hx : look xl f = some x) : XOK Go.Proofs.Tryz.prog f x := h (f, x) (look_mem hx)
theorem body_calls {xl : List (Nat × XF)} (h : XLOK xl) : CallsOK Go.Proofs.Tryz.prog (body xl) := vbody_ok cfgS_ok (CX_ok h.look) noY_ok (CX_det h.look) noY_det none

/-! ### arguments -/
def ptv (p : Int × Int) : Value := .agg #[iv p.1, iv p.2]
def decI : Value → Option Int
  | .int .i64 n => some n
  | _ => none
def decP : Value → Option (Int × Int)
  | .agg ⟨[.int .i64 x, .int .i64 y]⟩ => some (x, y)
  | _ => none
theorem decI_eq {v : Value} {n : Int} (h : decI v = some n) : v = iv n := by
  unfold decI at h
  split at h
  · injection h with h; subst h; rfl
  · cases h
theorem decP_eq {v : Value} {p : Int × Int} (h : decP v = some p) : v = ptv p := by
  unfold decP at h
  split at h
  · injection h with h; subst h; rfl
  · cases h
def s1P (F : Int × Int → Bool × Value) : List Value → Option (Bool × Value)
  | [a] => (match decP a with | some p => some (F p) | none => none)
  | _ => none
theorem s1P_inv {F : Int × Int → Bool × Value} {args : List Value} {r : Bool × Value} (h : s1P F args = some r) : ∃ p, args = [ptv p] ∧ F p = r := by
  unfold s1P at h
  split at h
  · split at h
    · rename_i p e
      injection h with h
      exact ⟨p, by rw [decP_eq e], h⟩
    · cases h
  · cases h
def s3P (F : Int × Int → Int × Int → Int × Int → Bool × Value) : List Value → Option (Bool × Value)
  | [a, b, c] => (match decP a with | some p => (match decP b with | some q => (match decP c with | some r => some (F p q r) | none => none) | none => none) | none => none)
  | _ => none
theorem s3P_inv {F : Int × Int → Int × Int → Int × Int → Bool × Value} {args : List Value} {r : Bool × Value} (h : s3P F args = some r) : ∃ p q s, args = [ptv p, ptv q, ptv s] ∧ F p q s = r := by
  unfold s3P at h
  split at h
  · split at h
    · rename_i p e
      split at h
      · rename_i q e2
        split at h
        · rename_i s e3
          injection h with h
          exact ⟨p, q, s, by rw [decP_eq e, decP_eq e2, decP_eq e3], h⟩
        · cases h
      · cases h
    · cases h
  · cases h
def s1I (F : Int → Bool × Value) : List Value → Option (Bool × Value)
  | [a] => (match decI a with | some p => some (F p) | none => none)
  | _ => none
theorem s1I_inv {F : Int → Bool × Value} {args : List Value} {r : Bool × Value} (h : s1I F args = some r) : ∃ p, args = [iv p] ∧ F p = r := by
  unfold s1I at h
  split at h
  · split at h
    · rename_i p e
      injection h with h
      exact ⟨p, by rw [decI_eq e], h⟩
    · cases h
  · cases h
def s2I (F : Int → Int → Bool × Value) : List Value → Option (Bool × Value)
  | [a, b] => (match decI a with | some p => (match decI b with | some q => some (F p q) | none => none) | none => none)
  | _ => none
theorem s2I_inv {F : Int → Int → Bool × Value} {args : List Value} {r : Bool × Value} (h : s2I F args = some r) : ∃ p q, args = [iv p, iv q] ∧ F p q = r := by
  unfold s2I at h
  split at h
  · split at h
    · rename_i p e
      split at h
      · rename_i q e2
        injection h with h
        exact ⟨p, q, by rw [decI_eq e, decI_eq e2], h⟩
      · cases h
    · cases h
  · cases h
def Does1 (xl : List (Nat × XF)) (f : Nat) (args : List Value) (v : Value) : Prop := body xl f args [] 0 (fun u _ _ => u = v)
theorem x1P {xl : List (Nat × XF)} (hx : XLOK xl) {f : Nat} {F : Int × Int → Bool × Value} (hg : ∀ p, gT (F p).2 = true) (h : ∀ p, (F p).1 = true → Does1 xl f [ptv p] (F p).2) : XOK Go.Proofs.Tryz.prog f (gX (s1P F)) :=
  gX_ok (body_calls hx) fun args v hs => by
    obtain ⟨p, rfl, e⟩ := s1P_inv hs
    have h1 : (F p).1 = true := by rw [e]
    have h2 : (F p).2 = v := by rw [e]
    subst h2
    exact ⟨rfl, hg p, h p h1⟩
theorem x3P {xl : List (Nat × XF)} (hx : XLOK xl) {f : Nat} {F : Int × Int → Int × Int → Int × Int → Bool × Value} (hg : ∀ p q r, gT (F p q r).2 = true) (h : ∀ p q r, (F p q r).1 = true → Does1 xl f [ptv p, ptv q, ptv r] (F p q r).2) : XOK Go.Proofs.Tryz.prog f (gX (s3P F)) :=
  gX_ok (body_calls hx) fun args v hs => by
    obtain ⟨p, q, r, rfl, e⟩ := s3P_inv hs
    have h1 : (F p q r).1 = true := by rw [e]
    have h2 : (F p q r).2 = v := by rw [e]
    subst h2
    exact ⟨rfl, hg p q r, h p q r h1⟩
theorem x1I {xl : List (Nat × XF)} (hx : XLOK xl) {f : Nat} {F : Int → Bool × Value} (hg : ∀ p, gT (F p).2 = true) (h : ∀ p, (F p).1 = true → Does1 xl f [iv p] (F p).2) : XOK Go.Proofs.Tryz.prog f (gX (s1I F)) :=
  gX_ok (body_calls hx) fun args v hs => by
    obtain ⟨p, rfl, e⟩ := s1I_inv hs
    have h1 : (F p).1 = true := by rw [e]
    have h2 : (F p).2 = v := by rw [e]
    subst h2
    exact ⟨rfl, hg p, h p h1⟩
theorem x2I {xl : List (Nat × XF)} (hx : XLOK xl) {f : Nat} {F : Int → Int → Bool × Value} (hg : ∀ p q, gT (F p q).2 = true) (h : ∀ p q, (F p q).1 = true → Does1 xl f [iv p, iv q] (F p q).2) : XOK Go.Proofs.Tryz.prog f (gX (s2I F)) :=
  gX_ok (body_calls hx) fun args v hs => by
    obtain ⟨p, q, rfl, e⟩ := s2I_inv hs
    have h1 : (F p q).1 = true := by rw [e]
    have h2 : (F p q).2 = v := by rw [e]
    subst h2
    exact ⟨rfl, hg p q, h p q h1⟩
def elP : El (Int × Int) := ⟨fun p => [iv p.1, iv p.2], 2, fun _ => rfl, fun _ => rfl, by decide⟩

/-! ### what they yield -/
def rightS (p : Int × Int) : Bool := decide (0 ≤ p.1) && decide (p.1 ≤ 10000) && decide (0 ≤ p.2) && decide (p.2 ≤ 10000)
def wide (p : Int × Int) : Bool := decide (-1000000 ≤ p.1) && decide (p.1 ≤ 1000000) && decide (-1000000 ≤ p.2) && decide (p.2 ≤ 1000000)
def crossI (a b c : Int × Int) : Int := (b.1 - a.1) * (c.2 - a.2) - (b.2 - a.2) * (c.1 - a.1)
def sgn (n : Int) : Int := if n < 0 then -1 else if 0 < n then 1 else 0
def cmpI (a b : Int) : Int := if a < b then -1 else if b < a then 1 else 0
def turnS (a b c : Int × Int) : Int := sgn (crossI a b c)

set_option maxRecDepth 100000
def X58 : Nat × XF := (70, gX (s1P fun p => (true, .bool (rightS p))))
theorem x58 : XOK Go.Proofs.Tryz.prog X58.1 X58.2 := x1P .nil (fun _ => rfl) fun p _ => by
  obtain ⟨x, y⟩ := p
  unfold Does1
  repeat' (conv => whnf
           refine bm (fun h => ?_) (fun h => ?_))
  all_goals (conv => whnf)
  all_goals (simp [cfgS, std] at *; simp [rightS, *] <;> omega)
end Go.Aw
end

/-
  Contracts: turns. No condition.
-/
set_option linter.unusedSimpArgs false
set_option linter.unusedVariables false
noncomputable section
namespace Go.Aw
theorem mulB {a b A B : Int} (h1 : -A ≤ a) (h2 : a ≤ A) (h3 : -B ≤ b) (h4 : b ≤ B) : -(A * B) ≤ a * b ∧ a * b ≤ A * B := by
  have e1 := Int.mul_nonneg (show 0 ≤ A - a by omega) (show 0 ≤ B + b by omega)
  have e2 := Int.mul_nonneg (show 0 ≤ A + a by omega) (show 0 ≤ B - b by omega)
  have e3 := Int.mul_nonneg (show 0 ≤ A - a by omega) (show 0 ≤ B - b by omega)
  have e4 := Int.mul_nonneg (show 0 ≤ A + a by omega) (show 0 ≤ B + b by omega)
  simp only [Int.sub_mul, Int.mul_sub, Int.add_mul, Int.mul_add] at e1 e2 e3 e4
  omega
set_option maxRecDepth 100000
def X56 : Nat × XF := (128, gX (s1P fun p => (true, .bool (rightS p))))
theorem x56 : XOK Go.Proofs.Tryz.prog X56.1 X56.2 := x1P .nil (fun _ => rfl) fun p _ => by
  obtain ⟨x, y⟩ := p
  unfold Does1
  repeat' (conv => whnf
           refine bm (fun h => ?_) (fun h => ?_))
  all_goals (conv => whnf)
  all_goals (simp [cfgS, std] at *; simp [rightS, *] <;> omega)
def X133 : Nat × XF := (160, gX (s1I fun p => (true, .bool false)))
theorem x133 : XOK Go.Proofs.Tryz.prog X133.1 X133.2 := x1I .nil (fun _ => rfl) fun p _ => by
  unfold Does1
  repeat' (conv => whnf
           refine bm (fun h => ?_) (fun h => ?_))
  all_goals (conv => whnf)
  all_goals (simp [cfgS, std] at *)
def X101 : Nat × XF := (132, gX (s2I fun p q => (true, iv (cmpI p q))))
theorem x101 : XOK Go.Proofs.Tryz.prog X101.1 X101.2 := x2I (xl := [X133]) (.cons x133 .nil) (fun _ _ => rfl) fun p q _ => by
  unfold Does1
  repeat' (conv => whnf
           refine bm (fun h => ?_) (fun h => ?_))
  all_goals (conv => whnf)
  all_goals (simp [cfgS, std] at *; simp [cmpI, iv] <;> omega)
def X103 : Nat × XF := (134, gX (s1I fun p => (true, iv (sgn p))))
theorem x103 : XOK Go.Proofs.Tryz.prog X103.1 X103.2 := x1I .nil (fun _ => rfl) fun p _ => by
  unfold Does1
  repeat' (conv => whnf
           refine bm (fun h => ?_) (fun h => ?_))
  all_goals (conv => whnf)
  all_goals (simp [cfgS, std] at *; simp [sgn, iv] <;> omega)
def X102 : Nat × XF := (133, gX (s3P fun a b c => (wide a && wide b && wide c, iv (crossI a b c))))
theorem x102 : XOK Go.Proofs.Tryz.prog X102.1 X102.2 := x3P .nil (fun _ _ _ => rfl) fun a b c hp => by
  obtain ⟨ax, ay⟩ := a
  obtain ⟨bx, b_y⟩ := b
  obtain ⟨cx, cy⟩ := c
  simp only [wide, Bool.and_eq_true, decide_eq_true_eq] at hp
  have m1 := mulB (a := bx - ax) (b := cy - ay) (A := 2000000) (B := 2000000) (by omega) (by omega) (by omega) (by omega)
  have m2 := mulB (a := b_y - ay) (b := cx - ax) (A := 2000000) (B := 2000000) (by omega) (by omega) (by omega) (by omega)
  unfold Does1
  repeat' (conv => whnf
           refine bm (fun h => ?_) (fun h => ?_))
  all_goals (conv => whnf)
  all_goals (simp [cfgS, std, fitsK] at *)
  all_goals first | omega | simp [crossI, iv]
def X55 : Nat × XF := (63, gX (s3P fun a b c => (wide a && wide b && wide c, iv (turnS a b c))))
theorem x55 : XOK Go.Proofs.Tryz.prog X55.1 X55.2 := x3P (xl := [X101, X102]) (.cons x101 (.cons x102 .nil)) (fun _ _ _ => rfl) fun a b c hp => by
  obtain ⟨ax, ay⟩ := a
  obtain ⟨bx, b_y⟩ := b
  obtain ⟨cx, cy⟩ := c
  unfold Does1
  repeat' (conv => whnf
           refine bm (fun h => ?_) (fun h => ?_))
  all_goals (conv => whnf)
  all_goals (simp at *)
  · simp [turnS, cmpI, sgn, iv]
  · simp_all
def X57 : Nat × XF := (64, gX (s3P fun a b c => (wide a && wide b && wide c, iv (turnS a b c))))
theorem x57 : XOK Go.Proofs.Tryz.prog X57.1 X57.2 := x3P (xl := [X103]) (.cons x103 .nil) (fun _ _ _ => rfl) fun a b c hp => by
  obtain ⟨ax, ay⟩ := a
  obtain ⟨bx, b_y⟩ := b
  obtain ⟨cx, cy⟩ := c
  simp only [wide, Bool.and_eq_true, decide_eq_true_eq] at hp
  have m1 := mulB (a := bx - ax) (b := cy - ay) (A := 2000000) (B := 2000000) (by omega) (by omega) (by omega) (by omega)
  have m2 := mulB (a := b_y - ay) (b := cx - ax) (A := 2000000) (B := 2000000) (by omega) (by omega) (by omega) (by omega)
  unfold Does1
  repeat' (conv => whnf
           refine bm (fun h => ?_) (fun h => ?_))
  all_goals (conv => whnf)
  all_goals (simp [cfgS, std, fitsK] at *)
  all_goals first | omega | simp [turnS, crossI, sgn, iv]
def ErrV (n : Int) : Value := iv n
theorem rightS_wide {p : Int × Int} (h : rightS p = true) : wide p = true := by
  simp only [rightS, wide, Bool.and_eq_true, decide_eq_true_eq] at *
  omega
def tS (a b c : Int × Int) : Int := if rightS a && rightS b && rightS c then turnS a b c else 0
def X100 : Nat × XF := (127, gX (s1P fun p => (true, .bool (!rightS p))))
theorem x100 : XOK Go.Proofs.Tryz.prog X100.1 X100.2 := x1P (xl := [X58]) (.cons x58 .nil) (fun _ => rfl) fun p _ => by
  obtain ⟨x, y⟩ := p
  unfold Does1
  repeat' (conv => whnf
           refine bm (fun h => ?_) (fun h => ?_))
  all_goals (conv => whnf)
  all_goals (simp [cfgS, std] at *)
end Go.Aw
end

/-
  Contracts: lists of points that are valid. No condition.
-/
set_option linter.unusedSimpArgs false
set_option linter.unusedVariables false
noncomputable section
namespace Go.Aw
set_option maxRecDepth 100000
def firstBad : List (Int × Int) → Nat → Int
  | [], _ => -1
  | p :: r, i => if rightS p then firstBad r (i + 1) else i
def fn100 : Value := .func (.func 127) #[] #[]
def S132 (l : List (Int × Int)) : List Value → Option (Bool × Value)
  | [.func (.func 127) ⟨[]⟩ ⟨[]⟩] => some (decide (l.length ≤ 1000000000), iv (firstBad l 0))
  | _ => none
theorem S132_inv {l : List (Int × Int)} {r : List Value} {v : Value} (h : S132 l r = some (true, v)) : r = [fn100] ∧ l.length ≤ 1000000000 ∧ v = iv (firstBad l 0) := by
  unfold S132 at h
  split at h
  · injection h with h
    injection h with h1 h2
    exact ⟨rfl, by simpa using h1, h2.symm⟩
  · cases h
def X132 : Nat × XF := (159, lX elP S132)
theorem x132 : XOK Go.Proofs.Tryz.prog X132.1 X132.2 := lX_ok elP (body_calls (xl := [X100]) (.cons x100 .nil)) fun l r v hs => by
  obtain ⟨rfl, hlen, rfl⟩ := S132_inv hs
  refine ⟨rfl, rfl, fun c => ?_⟩
  conv => whnf
  refine ⟨fun n e h nx => ∃ (i : Nat) (j : Int), j = i ∧ i ≤ l.length ∧ n = l.length - i ∧ firstBad l 0 = firstBad (l.drop i) i ∧
    e = [(0, .slice (some ⟨0, 0, none⟩) l.length c), (1, fn100), (7, iv l.length), (8, iv j)] ∧ h = [(0, .cells false true 2 (flat elP.fl l))] ∧ nx = 1, ⟨l.length, ?_⟩, ?_⟩
  · refine Into_id (e0 := [(0, .slice (some ⟨0, 0, none⟩) l.length c), (1, fn100), (7, iv l.length), (8, iv 0)]) (h0 := [(0, .cells false true 2 (flat elP.fl l))]) (n0 := 1)
      ⟨0, 0, rfl, Nat.zero_le _, rfl, rfl, rfl, rfl, rfl⟩ ?_ ?_ (Nat.le_refl _)
    · exact List.forall_mem_cons.2 ⟨⟨rfl, Nat.one_pos, fun h => (by cases h)⟩, List.forall_mem_cons.2 ⟨⟨(by show _ = some (ren id fn100); rw [ren_g (show gT fn100 = true from rfl)]; rfl), scT_g rfl⟩, List.forall_mem_cons.2 ⟨⟨rfl, scT_g rfl⟩, List.forall_mem_cons.2 ⟨⟨rfl, scT_g rfl⟩, fun _ h => (by cases h)⟩⟩⟩⟩
    · exact List.forall_mem_cons.2 ⟨⟨Nat.one_pos, _, rfl, ObjRen_g (flat_g elP l)⟩, fun _ h => (by cases h)⟩
  · rintro n e h nx ⟨i, j, hj, hi, rfl, hb, rfl, rfl, rfl⟩
    conv => whnf
    refine bm (fun h1 => ?_) (fun h1 => ?_)
    · have hlt : i < l.length := by simp [cfgS, std] at h1; omega
      conv => whnf
      refine bm (fun h2 => ?_) (fun h2 => ?_)
      · conv => whnf
        refine boL (flat_get elP l hlt ?ho) ?_
        case ho => simp [cfgS, std, elP, hj]
        have hd : l.drop i = l[i] :: l.drop (i + 1) := List.drop_eq_getElem_cons hlt
        rw [hd] at hb
        generalize l[i] = p at hb
        obtain ⟨x, y⟩ := p
        conv => whnf
        refine bm (fun h3 => ?_) (fun h3 => ?_)
        · conv => whnf
          simp only [Bool.not_eq_true'] at h3
          rw [hb, hj]
          simp only [firstBad, h3]
          rfl
        · conv => whnf
          refine bm (fun h4 => ?_) (fun h4 => ?_)
          · conv => whnf
            simp only [Bool.not_eq_false'] at h3
            refine ⟨l.length - (i + 1), by omega, ?_⟩
            refine Into_id (e0 := [(0, .slice (some ⟨0, 0, none⟩) l.length c), (1, fn100), (7, iv l.length), (8, iv (j + 1))]) (h0 := [(0, .cells false true 2 (flat elP.fl l))]) (n0 := 1)
              ⟨i + 1, j + 1, by omega, hlt, rfl, ?_, rfl, rfl, rfl⟩ ?_ ?_ (Nat.le_refl _)
            · rw [hb]; simp only [firstBad, h3, if_true]
            · exact List.forall_mem_cons.2 ⟨⟨rfl, Nat.one_pos, fun h => (by cases h)⟩, List.forall_mem_cons.2 ⟨⟨(by show _ = some (ren id fn100); rw [ren_g (show gT fn100 = true from rfl)]; rfl), scT_g rfl⟩, List.forall_mem_cons.2 ⟨⟨rfl, scT_g rfl⟩, List.forall_mem_cons.2 ⟨⟨rfl, scT_g rfl⟩, fun _ h => (by cases h)⟩⟩⟩⟩
            · exact List.forall_mem_cons.2 ⟨⟨Nat.one_pos, _, rfl, ObjRen_g (flat_g elP l)⟩, fun _ h => (by cases h)⟩
          · simp [cfgS, std, fitsK] at h4
            omega
      · simp [cfgS, std] at h2
        omega
    · have hlt : l.length ≤ i := by simp [cfgS, std] at h1; omega
      conv => whnf
      rw [hb, List.drop_eq_nil_of_le hlt]
      rfl

theorem firstBad_all : ∀ (l : List (Int × Int)) (i : Nat), decide (0 ≤ firstBad l i) = !(l.all rightS)
  | [], i => rfl
  | p :: r, i => by
    by_cases hp : rightS p = true
    · simp only [firstBad, List.all_cons, hp, if_true, Bool.true_and]
      exact firstBad_all r (i + 1)
    · have hp' : rightS p = false := by simpa using hp
      simp [firstBad, List.all_cons, hp']
def S99 (l : List (Int × Int)) : List Value → Option (Bool × Value)
  | [.func (.func 127) ⟨[]⟩ ⟨[]⟩] => some (decide (l.length ≤ 1000000000), .bool (!(l.all rightS)))
  | _ => none
theorem S99_inv {l : List (Int × Int)} {r : List Value} {v : Value} (h : S99 l r = some (true, v)) : r = [fn100] ∧ l.length ≤ 1000000000 ∧ v = .bool (!(l.all rightS)) := by
  unfold S99 at h
  split at h
  · injection h with h
    injection h with h1 h2
    exact ⟨rfl, by simpa using h1, h2.symm⟩
  · cases h
theorem LsAt_own {α : Type} (E : El α) {l : List α} {c : Nat} {wr g : Bool} {sz : Nat} {h : Heap} (hk : look h 0 = some (.cells wr g sz (flat E.fl l))) : LsAt E h (.slice (some ⟨0, 0, none⟩) l.length c) l :=
  ⟨rfl, wr, g, sz, _, hk, by rw [List.drop_zero, List.take_length]⟩
def X99 : Nat × XF := (126, lX elP S99)
theorem x99 : XOK Go.Proofs.Tryz.prog X99.1 X99.2 := lX_ok elP (body_calls (xl := [X132]) (.cons x132 .nil)) fun l r v hs => by
  obtain ⟨rfl, hlen, rfl⟩ := S99_inv hs
  refine ⟨rfl, rfl, fun c => ?_⟩
  conv => whnf
  refine ⟨l, LsAt_own elP rfl, ?_⟩
  conv => whnf
  refine bm (fun h1 => ?_) (fun h1 => ?_)
  · conv => whnf
    rw [← firstBad_all l 0]
    rfl
  · exact absurd hlen (by simpa using h1)
def S54 (l : List (Int × Int)) : List Value → Option (Bool × Value)
  | [] => some (decide (l.length ≤ 1000000000), .bool (l.all rightS))
  | _ => none
theorem S54_inv {l : List (Int × Int)} {r : List Value} {v : Value} (h : S54 l r = some (true, v)) : r = [] ∧ l.length ≤ 1000000000 ∧ v = .bool (l.all rightS) := by
  unfold S54 at h
  split at h
  · injection h with h
    injection h with h1 h2
    exact ⟨rfl, by simpa using h1, h2.symm⟩
  · cases h
def X54 : Nat × XF := (55, lX elP S54)
theorem x54 : XOK Go.Proofs.Tryz.prog X54.1 X54.2 := lX_ok elP (body_calls (xl := [X99]) (.cons x99 .nil)) fun l r v hs => by
  obtain ⟨rfl, hlen, rfl⟩ := S54_inv hs
  refine ⟨rfl, rfl, fun c => ?_⟩
  conv => whnf
  refine ⟨l, LsAt_own elP rfl, ?_⟩
  conv => whnf
  refine bm (fun h1 => ?_) (fun h1 => ?_)
  · conv => whnf
    simp [cfgS, std]
  · exact absurd hlen (by simpa using h1)
def X15 : Nat × XF := (44, gX (s3P fun a b c => (true, iv (tS a b c))))
theorem x15 : XOK Go.Proofs.Tryz.prog X15.1 X15.2 := x3P (xl := [X54, X55]) (.cons x54 (.cons x55 .nil)) (fun _ _ _ => rfl) fun a b c hp => by
  obtain ⟨ax, ay⟩ := a
  obtain ⟨bx, b_y⟩ := b
  obtain ⟨cx, cy⟩ := c
  unfold Does1
  conv => whnf
  refine ⟨[(ax, ay), (bx, b_y), (cx, cy)], ⟨rfl, _, _, _, _, rfl, rfl⟩, ?_⟩
  repeat' (conv => whnf
           refine bm (fun h => ?_) (fun h => ?_))
  all_goals (conv => whnf)
  all_goals (clear hp; simp only [cfgS, std, tS] at *; simp at *)
  all_goals (cases ha : rightS (ax, ay) <;> cases hb : rightS (bx, b_y) <;> cases hc : rightS (cx, cy) <;> simp_all [rightS_wide, iv])
end Go.Aw
end

/-
  PlaneTurns: its body. No condition.
-/
set_option linter.unusedSimpArgs false
set_option linter.unusedVariables false
noncomputable section
namespace Go.Aw
set_option maxRecDepth 100000
def s0 (v : Value) : List Value → Option (Bool × Value)
  | [] => some (true, v)
  | _ => none
def X19 : Nat × XF := (15, gX (s0 (.bool true)))
/-- How a turn turns with its points. -/
theorem cross_cyc (a b c : Int × Int) : crossI b c a = crossI a b c := by
  simp only [crossI, Int.sub_mul, Int.mul_sub]
  have h1 := Int.mul_comm a.1 b.2
  have h2 := Int.mul_comm a.2 b.1
  have h3 := Int.mul_comm a.1 c.2
  have h4 := Int.mul_comm a.2 c.1
  have h5 := Int.mul_comm b.1 c.2
  have h6 := Int.mul_comm b.2 c.1
  have h7 := Int.mul_comm a.1 a.2
  have h8 := Int.mul_comm b.1 b.2
  omega
theorem cross_swap (a b c : Int × Int) : crossI b a c = - crossI a b c := by
  simp only [crossI, Int.sub_mul, Int.mul_sub]
  have h1 := Int.mul_comm a.1 b.2
  have h2 := Int.mul_comm a.2 b.1
  have h3 := Int.mul_comm a.1 c.2
  have h4 := Int.mul_comm a.2 c.1
  have h5 := Int.mul_comm b.1 c.2
  have h6 := Int.mul_comm b.2 c.1
  have h7 := Int.mul_comm a.1 a.2
  have h8 := Int.mul_comm b.1 b.2
  omega
theorem turn_cyc (a b c : Int × Int) : turnS b c a = turnS a b c := by unfold turnS; rw [cross_cyc]
theorem turn_swap (a b c : Int × Int) : turnS b a c = - turnS a b c := by
  unfold turnS
  rw [cross_swap]
  unfold sgn
  split <;> split <;> (try split) <;> (try split) <;> omega
theorem turn_low (a b c : Int × Int) : -1 ≤ turnS a b c ∧ turnS a b c ≤ 1 := by
  unfold turnS sgn
  split <;> (try split) <;> omega
theorem tS_cyc (a b c : Int × Int) : tS b c a = tS a b c := by
  unfold tS
  rw [turn_cyc]
  cases rightS a <;> cases rightS b <;> cases rightS c <;> rfl
theorem tS_swap (a b c : Int × Int) : tS b a c = - tS a b c := by
  unfold tS
  rw [turn_swap]
  cases rightS a <;> cases rightS b <;> cases rightS c <;> simp
theorem tS_low (a b c : Int × Int) : -1 ≤ tS a b c ∧ tS a b c ≤ 1 := by
  unfold tS
  have := turn_low a b c
  split <;> omega
end Go.Aw
end
