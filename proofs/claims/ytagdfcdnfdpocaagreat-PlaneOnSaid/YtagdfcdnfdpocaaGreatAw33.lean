/-
  All functions, so deep: what is reckoned is what the machine does. No condition.
-/
import Derived.Test.YtagdfcdnfdpocaaGreatAw32
set_option linter.unusedSimpArgs false
set_option linter.unusedVariables false
noncomputable section
namespace Go.Aw
open Go.RowKit

section
variable {A : Ar} {T : Tab} {C : VC} {Y : VY}

theorem det_vresults {e : List (Nat × Value)} {h : Heap} : ∀ (l : List ResultVar), Det (vresults T e h l)
  | [] => det_pure
  | .tmp t :: r => by
    show Det (fun K => vresults T e h (.tmp t :: r) K)
    simp only [vresults_tmp, vresults_cell]
    exact det_on (F := fun v K => vresults T e h r fun l => K (v :: l)) fun v => det_bind (F := fun l K => K (v :: l)) (det_vresults r) fun l => det_pure
  | .cell a t :: r => by
    show Det (fun K => vresults T e h (.cell a t :: r) K)
    simp only [vresults_tmp, vresults_cell]
    exact det_on (F := fun p K => vload T h t p fun v => vresults T e h r fun l => K (v :: l)) fun p => det_bind (F := fun v K => vresults T e h r fun l => K (v :: l)) det_vload fun v =>
      det_bind (F := fun l K => K (v :: l)) (det_vresults r) fun l => det_pure

theorem det_vend {fn : Func} {g : Value → Heap → Nat → Value × Heap × Nat} : DetK (fun K => vend T fn (fun v h nx => K (g v h nx).1 (g v h nx).2.1 (g v h nx).2.2)) := by
  intro e h nx
  unfold vend
  refine detE_bind1 (F := fun l K => match l with
    | [v] => K (g v h nx).1 (g v h nx).2.1 (g v h nx).2.2
    | l => match noTup l with | true => K (g (.tuple l.toArray) h nx).1 (g (.tuple l.toArray) h nx).2.1 (g (.tuple l.toArray) h nx).2.2 | false => False) (det_vresults _) fun l => ?_
  intro K hl
  split at hl
  · exact detE_pure K hl
  · split at hl
    · exact detE_pure K hl
    · exact hl.elim

theorem det_vfin {q : Nat} {j : Option Code} : DetK (fun K => vfin q K j) := by
  intro e h nx
  simp only [vfin]
  cases look h q with
  | none => exact detE_false
  | some o => cases o <;> first | exact detE_pure | exact detE_false

theorem noRange_det : RDet noRange := fun _ _ _ _ _ _ _ _ _ _ _ _ _ => detE_false

theorem det_vround (hC : DetC C) (hY : DetC Y) {PL : Nat → Nat → Option Plan} {n : Nat} : DetC (vround A T C Y PL (.fuel n)) := by
  intro q args h nx
  show DetE (fun K => vround A T C Y PL (.fuel n) q args h nx K)
  unfold vround
  intro K hl
  split at hl
  case h_2 => exact hl.elim
  rename_i la hk
  split at hl
  case h_2 => exact hl.elim
  rename_i e0 hz hpl
  refine det_vcode hC hY noRange_det la.assign (fun K e1 h1 nx1 =>
        match look h1 q with
        | some (.loop l1) => (match l1.state with
          | .ready => vcode A T C Y la.tn (PL la.fn) (.fuel n) noRange la.body (vfin q K none) (fun id => vfin q K (some (.exit id))) (vfin q K (some .ret)) e1 (upd h1 q (.loop { l1 with state := .busy })) nx1
          | _ => False)
        | _ => False) (fun _ _ _ _ _ => False) (fun _ _ _ _ => False) ?_ (fun _ _ _ _ => detE_false) (fun _ _ _ => detE_false) e0 h nx K hl
  intro e1 h1 nx1 K hl
  dsimp only at hl ⊢
  split at hl
  case h_2 => exact hl.elim
  split at hl
  case h_2 => exact hl.elim
  exact det_vcode hC hY noRange_det la.body (fun K => vfin q K none) (fun id K => vfin q K (some (.exit id))) (fun K => vfin q K (some .ret)) det_vfin (fun _ => det_vfin) det_vfin e1 _ nx1 K hl

theorem det_vbody {c : Cfg} {n : Nat} (hC : DetC C) (hY : DetC Y) (hX : ∀ f x, c.X f = some x → ∀ args h nx, DetE (x args h nx)) : DetC (vbody c (some n) C Y) := by
  intro f args h nx
  show DetE (fun K => vbody c (some n) C Y f args h nx K)
  unfold vbody
  intro K hl
  split at hl
  · rename_i x hx
    exact hX f x hx args h nx K hl
  · split at hl
    · exact hl.elim
    · rename_i fn hfn
      split at hl
      case h_2 => exact hl.elim
      rename_i b hb hle
      have hv : DetK (fun K => vend c.T fn (fun v h' nx' => K v (match c.PR f with | true => prune nx h' | false => h') nx')) :=
        det_vend (g := fun v h' nx' => (v, (match c.PR f with | true => prune nx h' | false => h'), nx'))
      exact det_vcode hC hY (det_vrange hC) b (fun K => vend c.T fn (fun v h' nx' => K v (match c.PR f with | true => prune nx h' | false => h') nx')) (fun _ _ _ _ _ => False) (fun K => vend c.T fn (fun v h' nx' => K v (match c.PR f with | true => prune nx h' | false => h') nx')) hv (fun _ _ _ _ => detE_false) hv _ h nx K hl
end

/-- A contract in a body's place. -/
def XOK (P : Program) (f : Nat) (x : List Value → Heap → Nat → KE → Prop) : Prop := (∀ args h nx K, x args h nx K → ∀ ι B w, RelH ι B h nx w → (∀ v ∈ args, scT ι nx v) →
  (∃ fn, P.funcs[f]? = some fn ∧ fn.body.isSome = true ∧ (fn.name == "runtime.NumGoroutine") = false) ∧ CallsIn Fence.wide 0 P f (args.map (tr ι)).toArray w (Ret B w ι nx K)) ∧ ∀ args h nx, DetE (x args h nx)

structure CfgOK (P : Program) (c : Cfg) : Prop where
  ar : c.A = std
  tab : TabOK P c.T
  mixed : P.follows .mixedOrders = true
  funcs : ∀ f fn, c.FT f = some fn → P.funcs[f]? = some fn ∧ (fn.name == "runtime.NumGoroutine") = false ∧ ∀ b, fn.body = some b → plansOK (c.PL f) b = true
  xs : ∀ f x, c.X f = some x → XOK P f x

section
variable {P : Program} {c : Cfg} {C : VC} {Y : VY}

theorem vbody_ok (hc : CfgOK P c) (hC : CallsOK P C) (hY : YieldsOK P Y) (hD : DetC C) (hDY : DetC Y) (M : Option Nat) : CallsOK P (vbody c M C Y) := by
  intro f args h nx K hl ι B w H hs
  unfold vbody at hl
  split at hl
  · rename_i x hx
    exact (hc.xs f x hx).1 args h nx K hl ι B w H hs
  · split at hl
    · exact hl.elim
    · rename_i fn hfn
      split at hl
      case h_2 => exact hl.elim
      rename_i b hb hle
      obtain ⟨h1, h2, h3⟩ := hc.funcs f fn hfn
      refine ⟨⟨fn, h1, by rw [hb]; rfl, h2⟩, ?_⟩
      rw [hc.ar] at hl
      refine body_ok (K' := fun v h' nx' => K v (match c.PR f with | true => prune nx h' | false => h') nx') hc.tab hC hY hD hDY hc.mixed h1 hb (h3 b hb) (by cases M with | none => exact Nat.le_refl _ | some n => trivial) (vrange_ok hC) (vrange_mono hD) (Nat.le_of_ble_eq_true hle) (fun v h' nx' hk => ⟨_, hk, fun k o hlk => ?_⟩) hl H hs
      cases hpr : c.PR f with
      | true => rw [hpr] at hlk; exact look_prune hlk
      | false => rw [hpr] at hlk; exact hlk

theorem vcall_ok (hc : CfgOK P c) : ∀ d, CallsOK P (vcall c d false) ∧ YieldsOK P (vcall c d true) ∧ DetC (vcall c d false) ∧ DetC (vcall c d true)
  | 0 => ⟨fun _ _ _ _ _ hl => hl.elim, fun _ _ _ _ _ hl => hl.elim, fun _ _ _ _ _ hl => hl.elim, fun _ _ _ _ _ hl => hl.elim⟩
  | d + 1 => by
    obtain ⟨h1, h2, h3, h4⟩ := vcall_ok hc d
    refine ⟨vbody_ok hc h1 h2 h3 h4 _, ?_, det_vbody h3 h4 (fun f x hx => (hc.xs f x hx).2), det_vround h3 h4⟩
    show YieldsOK P (vround c.A c.T (vcall c d false) (vcall c d true) c.PL (.fuel c.M))
    rw [hc.ar]
    exact vround_ok hc.tab h1 h2 h3 h4 hc.mixed
end
end Go.Aw
