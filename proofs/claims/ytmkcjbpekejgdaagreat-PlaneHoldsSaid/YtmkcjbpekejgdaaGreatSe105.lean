/-
  PlaneHulls: its body, for empty lists. No condition.
-/
import Derived.Shelf.SlSortCmp.NoneTotal
import Derived.Test.YtmkcjbpekejgdaaGreatSe104
set_option linter.unusedSimpArgs false
set_option linter.unusedVariables false
noncomputable section
namespace Go.Aw
open Go.RowKit Go.Shelf Go.Lib Go.Sort Go.Proofs
set_option maxRecDepth 100000
def sE : XF := fun args h nx K => match args with
  | [.slice a 0 c, .func (.func 78) ⟨[]⟩ ⟨[]⟩] => K (.tuple #[]) h nx
  | _ => False
theorem tr_sl0 (ι : Nat → Loc) (a : Option Addr) (c : Nat) : ∃ p c', tr ι (.slice a 0 c) = .slice p 0 c' := by
  cases a with
  | none => exact ⟨none, c, rfl⟩
  | some a =>
    cases hι : ι a.block with
    | nil p => exact ⟨p, c, by simp [tr, trA, trS, trP, hι]⟩
    | lay b o e => exact ⟨some ⟨b, o + a.off, none⟩, c + e, by simp [tr, trA, trS, trP, hι]⟩
theorem d77e : XOK Go.Proofs.Tryz.prog 77 sE := by
  refine ⟨fun args h nx K hx ι B w H hsc => ?_, fun args h nx K hx => ?_⟩
  · unfold sE at hx
    split at hx
    case h_2 => exact hx.elim
    rename_i a c
    refine ⟨⟨Go.Proofs.Tryz.f77, Go.Proofs.Tryz.func77, rfl, by decide +kernel⟩, ?_⟩
    obtain ⟨p, c', e⟩ := tr_sl0 ι a c
    have hcon := AnyF.slices_SortFunc_none Go.Proofs.Tryz.sortPt p c' (.func (.func 78) #[] #[]) w
    change Calls Go.Proofs.Tryz.prog 77 _ _ _ at hcon
    have hargs : (([.slice a 0 c, .func (.func 78) ⟨[]⟩ ⟨[]⟩] : List Value).map (tr ι)).toArray = #[.slice p 0 c', .func (.func 78) #[] #[]] := by
      simp only [List.map_cons, List.map_nil, e]
      simp [tr, trA, trS, trFn]
    rw [hargs]
    refine callsIn_wide.2 (hcon.mono fun e w' hr => ?_)
    obtain ⟨rfl, rfl⟩ := hr
    exact ⟨_, _, nx, ι, hx, (fun v hv => by cases hv), H, ⟨rfl, rfl, rfl, Nat.le_refl _, fun _ _ => rfl, Nat.le_refl _⟩, fun _ _ => rfl, Nat.le_refl _, (by simp [tr])⟩
  · unfold sE at hx
    split at hx
    case h_2 => exact hx.elim
    exact ⟨_, _, _, hx, fun K' hk' => hk'⟩
def xE : List (Nat × XF) := [(77, sE), X19]
theorem xE_ok : XLOK xE := .cons d77e (.cons x19 .nil)
def cfgE : Cfg := { cfg4 with X := look xE }
theorem cfgE_ok : CfgOK Go.Proofs.Tryz.prog cfgE where
  ar := cfg4_ok.ar
  tab := cfg4_ok.tab
  mixed := cfg4_ok.mixed
  funcs := cfg4_ok.funcs
  xs := fun f x h => xE_ok.look f x h
def bodyE : VC := vcall cfgE 7 false
theorem bodyE_calls : CallsOK Go.Proofs.Tryz.prog bodyE := (vcall_ok cfgE_ok 7).1
theorem law7n : bodyE 7 [.slice none 0 0] [] 0 (fun u _ _ => u = .bool true) := by
  repeat' (((conv => whnf); refine bm (fun g => ?_) (fun g => ?_)))
  all_goals (conv => whnf)
  all_goals trace_state
theorem law7e (c : Nat) : bodyE 7 [.slice (some ⟨0, 0, none⟩) 0 c] [(0, .cells false true 0 [])] 1 (fun u _ _ => u = .bool true) := by
  repeat' (((conv => whnf); refine bm (fun g => ?_) (fun g => ?_)))
  all_goals (conv => whnf)
  all_goals trace_state
end Go.Aw
