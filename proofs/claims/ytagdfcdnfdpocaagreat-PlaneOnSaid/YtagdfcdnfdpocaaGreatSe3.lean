/-
  The reckoning's givens, for this program. No condition.
-/
import Derived.Test.YtagdfcdnfdpocaaGreatSe2
import Derived.Test.YtagdfcdnfdpocaaGreatAw39
noncomputable section
namespace Go.Aw
def cfg0 : Cfg := { A := fastA, T := tyT, FT := look ftL, PL := plF, PR := fun _ => false, X := fun _ => none, M := 1000 }
theorem ftB_mem : ∀ {l : List (Nat × Func)} {f : Nat} {fn : Func}, ftB l = true → (f, fn) ∈ l → fnB f fn = true
  | [], _, _, _, h => by cases h
  | (g, gn) :: r, f, fn, hb, h => by
    simp only [ftB, Bool.and_eq_true] at hb
    cases h with
    | head => exact hb.1
    | tail _ hm => exact ftB_mem hb.2 hm
theorem ft_funcs (f : Nat) (fn : Func) (h : look ftL f = some fn) : Go.Proofs.Tryz.prog.funcs[f]? = some fn ∧ (fn.name == "runtime.NumGoroutine") = false ∧ ∀ b, fn.body = some b → plansOK (plF f) b = true := by
  have hm := look_mem h
  have hb := ftB_mem ftB_ok hm
  unfold fnB at hb
  simp only [Bool.and_eq_true, Bool.not_eq_true'] at hb
  have h1 : Go.Proofs.Tryz.prog.funcs[(f, fn).1]? = some (f, fn).2 := ftL_ok (f, fn) hm
  refine ⟨h1, hb.1, ?_⟩
  have h2 := hb.2
  generalize plF f = Φ at h2 ⊢
  intro b he
  simp only [he] at h2
  exact h2
theorem cfg_ok (X : Nat → Option (List Value → Heap → Nat → KE → Prop)) (hX : ∀ f x, X f = some x → XOK Go.Proofs.Tryz.prog f x) (PR : Nat → Bool) (M : Nat) : CfgOK Go.Proofs.Tryz.prog { A := fastA, T := tyT, FT := look ftL, PL := plF, PR := PR, X := X, M := M } where
  ar := fastA_eq
  tab := tabB_ok tyT_ok
  mixed := by decide +kernel
  funcs := ft_funcs
  xs := hX
theorem cfg0_ok : CfgOK Go.Proofs.Tryz.prog cfg0 := cfg_ok _ (fun _ _ h => by cases h) _ _
def iv (n : Int) : Value := .int .i64 n
def pt (x y : Int) : Value := .agg #[iv x, iv y]
def sg (a b c d : Int) : Value := .agg #[iv a, iv b, iv c, iv d]
end Go.Aw
