/-
  Split, for empty lists. No condition.
-/
import Derived.Shelf.SlSortCmp.NoneTotal
import Derived.Test.YtmkcjbpekejgdaaGreatSe118
import Derived.Test.YtmkcjbpekejgdaaGreatSe12
set_option linter.unusedSimpArgs false
set_option linter.unusedVariables false
noncomputable section
namespace Go.Aw
open Go.RowKit Go.Shelf Go.Lib Go.Sort Go.Proofs
set_option maxRecDepth 100000
def sEg : XF := fun args h nx K => match args with
  | [.slice a 0 c, .func (.func 96) ⟨[]⟩ ⟨[]⟩] => K (.tuple #[]) h nx
  | _ => False
theorem tr_slG (ι : Nat → Loc) (a : Option Addr) (c : Nat) : ∃ p c', tr ι (.slice a 0 c) = .slice p 0 c' := by
  cases a with
  | none => exact ⟨none, c, rfl⟩
  | some a =>
    cases hι : ι a.block with
    | nil p => exact ⟨p, c, by simp [tr, trA, trS, trP, hι]⟩
    | lay b o e => exact ⟨some ⟨b, o + a.off, none⟩, c + e, by simp [tr, trA, trS, trP, hι]⟩
theorem d95e : XOK Go.Proofs.Tryz.prog 95 sEg := by
  refine ⟨fun args h nx K hx ι B w H hsc => ?_, fun args h nx K hx => ?_⟩
  · unfold sEg at hx
    split at hx
    case h_2 => exact hx.elim
    rename_i a c
    refine ⟨⟨Go.Proofs.Tryz.f95, Go.Proofs.Tryz.func95, rfl, by decide +kernel⟩, ?_⟩
    obtain ⟨p, c', e⟩ := tr_slG ι a c
    have hcon := AnyF.slices_SortFunc_none Go.Proofs.Tryz.sortSg p c' (.func (.func 96) #[] #[]) w
    change Calls Go.Proofs.Tryz.prog 95 _ _ _ at hcon
    have hargs : (([.slice a 0 c, .func (.func 96) ⟨[]⟩ ⟨[]⟩] : List Value).map (tr ι)).toArray = #[.slice p 0 c', .func (.func 96) #[] #[]] := by
      simp only [List.map_cons, List.map_nil, e]
      simp [tr, trA, trS, trFn]
    rw [hargs]
    refine callsIn_wide.2 (hcon.mono fun e w' hr => ?_)
    obtain ⟨rfl, rfl⟩ := hr
    exact ⟨_, _, nx, ι, hx, (fun v hv => by cases hv), H, ⟨rfl, rfl, rfl, Nat.le_refl _, fun _ _ => rfl, Nat.le_refl _⟩, fun _ _ => rfl, Nat.le_refl _, (by simp [tr])⟩
  · unfold sEg at hx
    split at hx
    case h_2 => exact hx.elim
    exact ⟨_, _, _, hx, fun K' hk' => hk'⟩
def xEg : List (Nat × XF) := [(95, sEg), X19]
theorem xEg_ok : XLOK xEg := .cons d95e (.cons x19 .nil)
def cfgEg : Cfg := { cfg4 with X := look xEg }
theorem cfgEg_ok : CfgOK Go.Proofs.Tryz.prog cfgEg where
  ar := cfg4_ok.ar
  tab := cfg4_ok.tab
  mixed := cfg4_ok.mixed
  funcs := cfg4_ok.funcs
  xs := fun f x h => xEg_ok.look f x h
def bodyEg : VC := vcall cfgEg 7 false
theorem bodyEg_calls : CallsOK Go.Proofs.Tryz.prog bodyEg := (vcall_ok cfgEg_ok 7).1
theorem law10n : bodyEg 10 [.slice none 0 0] [] 0 (fun u _ _ => u = .bool true) := by
  repeat' (((conv => whnf); refine bm (fun g => ?_) (fun g => ?_)))
  all_goals (conv => whnf)
theorem law10e (c : Nat) : bodyEg 10 [.slice (some ⟨0, 0, none⟩) 0 c] [(0, .cells false true 0 [])] 1 (fun u _ _ => u = .bool true) := by
  repeat' (((conv => whnf); refine bm (fun g => ?_) (fun g => ?_)))
  all_goals (conv => whnf)
end Go.Aw
