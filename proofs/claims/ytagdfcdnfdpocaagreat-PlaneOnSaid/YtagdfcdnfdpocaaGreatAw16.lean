/-
  Lists of operations in their order, in the machine. No condition.
-/
import Derived.Test.YtagdfcdnfdpocaaGreatAw15
set_option linter.unusedSimpArgs false
set_option linter.unusedVariables false
noncomputable section
namespace Go.Aw
open Go.RowKit

section
variable {P : Program} {T : Tab} {C : VC} {Y : VY} {B : Nat} {w0 : World} {ι0 : Nat → Loc} {nx0 tn : Nat} {ds : List Deferred}

theorem Inv.step {ι ι' : Nat → Loc} {env env' : List (Nat × Value)} {h h' : Heap} {nx nx' : Nat} {a a' : Act} {w w' : World} (I : Inv B w0 ι0 nx0 tn ds ι env h nx a w) (he : EnvOK ι' nx' env' a') (H : RelH ι' B h' nx' w') (hb : Below B w w')
    (hi : ∀ k, k < nx → ι' k = ι k) (hn : nx ≤ nx') (hs : a'.tmps.size = tn) (hd : a'.defers = a.defers) : Inv B w0 ι0 nx0 tn ds ι' env' h' nx' a' w' :=
  ⟨he, H, I.below.trans hb, fun k hk => (hi k (Nat.lt_of_lt_of_le hk I.le)).trans (I.old k hk), Nat.le_trans I.le hn, hs, hd.trans I.defers⟩

theorem vops_ok (hT : TabOK P T) (hC : CallsOK P C) (hY : YieldsOK P Y) (r : Option Nat) {ops : Array Oper} {Q : Exit → Act → World → Prop} {K : KS} : ∀ (l : List Oper) (ι : Nat → Loc) (env : List (Nat × Value)) (h : Heap) (nx : Nat) (a : Act) (w : World),
    vops std T C Y tn ops.toList l env h nx K → Inv B w0 ι0 nx0 tn ds ι env h nx a w →
    (∀ ι' env' h' nx' a' w', K env' h' nx' → Inv B w0 ι0 nx0 tn ds ι' env' h' nx' a' w' → Q .normal a' w') → wpListIn (Fr r) 0 P ops Q l a w
  | [], ι, env, h, nx, a, w, hl, I, hQ => hQ ι env h nx a w hl I
  | o :: rest, ι, env, h, nx, a, w, hl, I, hQ => by
    simp only [vops_cons] at hl
    obtain ⟨env1, he1, hcase⟩ := vguard_ok I.env hl
    simp only [wpListIn]
    rcases hcase with ⟨hw, hl⟩ | ⟨hw, hl⟩
    · rw [if_pos hw]
      refine (vop_ok hT hC hY he1 I.heap hl).upon (vop_nodefer hl) rfl r _ _ fun v h' nx' ι' w' k1 k2 k3 k4 k5 k6 => ?_
      obtain ⟨env2, k7, k8, k9, k10⟩ := vput_ok (he1.names k6 k5) I.size k1 k2
      exact vops_ok hT hC hY r rest ι' env2 h' nx' _ w' k7 (I.step k8 k3 k4 k5 k6 k9 k10) hQ
    · rw [hw]
      refine ⟨fun _ _ => trivial, ?_⟩
      obtain ⟨env2, k7, k8, k9, k10⟩ := vput_ok he1 I.size hl (v := undef) (scT_g rfl)
      rw [tr_g (show gT undef = true from rfl)] at k8 k9 k10
      exact vops_ok hT hC hY r rest ι env2 h nx _ w k7 (I.step k8 I.heap (Below.refl _ _) (fun _ _ => rfl) (Nat.le_refl _) k9 k10) hQ
end
end Go.Aw
