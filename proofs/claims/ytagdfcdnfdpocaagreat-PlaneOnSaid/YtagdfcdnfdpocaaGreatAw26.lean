/-
  Code, in the machine. No condition.
-/
import Derived.Test.YtagdfcdnfdpocaaGreatAw25
set_option linter.unusedSimpArgs false
set_option linter.unusedVariables false
noncomputable section
namespace Go.Aw
open Go.RowKit

section
variable {P : Program} {T : Tab} {C : VC} {Y : VY} {tn : Nat} {PL : Nat → Option Plan} {M : LM} {R : VR}

def RMono (R : VR) : Prop := ∀ g ps as bd (kn kn' : KS) (kx kx' : Nat → KS) (kr kr' : KS) e h nx, (∀ e h nx, kn e h nx → kn' e h nx) → (∀ id e h nx, kx id e h nx → kx' id e h nx) → (∀ e h nx, kr e h nx → kr' e h nx) → R g ps as bd kn kx kr e h nx → R g ps as bd kn' kx' kr' e h nx

theorem vcode_ok (hT : TabOK P T) (hC : CallsOK P C) (hY : YieldsOK P Y) (hD : DetC C) (hDY : DetC Y) (hm : P.follows .mixedOrders = true) (r : Option Nat) (hR : RangeOK P r tn R) (hRm : RMono R) :
    ∀ (c : Code), plansOK PL c = true → ∀ (kn : KS) (kx : Nat → KS) (kr : KS) e h nx, vcode std T C Y tn PL M R c kn kx kr e h nx → ∀ B0 w0 ι0 nx0 Q, M.low nx0 → Ends B0 w0 ι0 nx0 tn kn kx kr Q → ∀ ι a w, CInv B0 w0 ι0 nx0 tn ι e h nx a w →
      c.wpIn (Fr r) 0 P Q a w := by
  intro c
  induction c with
  | skip => exact fun _ kn kx kr e h nx hl B0 w0 ι0 nx0 Q hM E ι a w I => wpIn_skip (E.n ι e h nx a w hl I)
  | region id ops draw =>
    intro hp kn kx kr e h nx hl B0 w0 ι0 nx0 Q hM E ι a w I
    obtain ⟨B, w1, ι1, nx1, ds, h1, h2, h3, h4, h5, J⟩ := I
    simp only [vcode_region, vcode_cond, vcode_loop] at hl
    cases draw with
    | false =>
      refine wpIn_region_list (vops_ok hT hC hY r ops.toList ι e h nx a w hl J fun ι' e' h' nx' a' w' hk J' => ?_)
      exact E.n ι' e' h' nx' a' w' hk ⟨B, w1, ι1, nx1, ds, h1, h2, h3, h4, h5, J'⟩
    | true =>
      simp only [plansOK] at hp
      simp only at hl
      cases hpl : PL id with
      | none => rw [hpl] at hl; exact hl.elim
      | some p =>
        rw [hpl] at hl hp
        exact vregion_ok hT hC hY hD hm (planOK_spec hp) J hl r fun ι' e' h' nx' a' w' hk J' => E.n ι' e' h' nx' a' w' hk ⟨B, w1, ι1, nx1, ds, h1, h2, h3, h4, h5, J'⟩
  | seq a b iha ihb =>
    intro hp kn kx kr e h nx hl B0 w0 ι0 nx0 Q hM E ι ac w I
    simp only [plansOK, Bool.and_eq_true] at hp
    refine wpIn_seq (iha hp.1 _ kx kr e h nx hl B0 w0 ι0 nx0 _ hM ⟨fun ι e h nx a w hk I => ?_, fun id ι e h nx a w hk I => ?_, fun ι e h nx a w hk I => ?_⟩ ι ac w I)
    · exact ihb hp.2 kn kx kr e h nx hk B0 w0 ι0 nx0 Q hM E ι a w I
    · exact E.x id ι e h nx a w hk I
    · exact E.r ι e h nx a w hk I
  | cond c t f iht ihf =>
    intro hp kn kx kr e h nx hl B0 w0 ι0 nx0 Q hM E ι a w I
    simp only [plansOK, Bool.and_eq_true] at hp
    simp only [vcode_region, vcode_cond, vcode_loop] at hl
    split at hl
    case h_2 => exact hl.elim
    rename_i b hb
    have hc : a.eval c = .bool b := by
      obtain ⟨B, w1, ι1, nx1, ds, h1, h2, h3, h4, h5, J⟩ := I
      rw [(J.env.opv hb).1, tr_bool]
    rcases br_cases hl with ⟨rfl, hl⟩ | ⟨rfl, hl⟩
    · exact wpIn_cond_true hc (iht hp.1 kn kx kr e h nx hl B0 w0 ι0 nx0 Q hM E ι a w I)
    · exact wpIn_cond_false hc (ihf hp.2 kn kx kr e h nx hl B0 w0 ι0 nx0 Q hM E ι a w I)
  | block id b ih =>
    intro hp kn kx kr e h nx hl B0 w0 ι0 nx0 Q hM E ι a w I
    refine wpIn_block (ih hp _ _ kr e h nx hl B0 w0 ι0 nx0 (Exit.inBlock id Q) hM ⟨E.n, fun j ι e h nx a w hk I => ?_, E.r⟩ ι a w I)
    cases hb : Nat.beq j id with
    | true =>
      rw [hb] at hk
      simp only [Exit.inBlock, if_pos (beq_true hb)]
      exact E.n ι e h nx a w hk I
    | false =>
      rw [hb] at hk
      simp only [Exit.inBlock, if_neg (beq_false hb)]
      exact E.x j ι e h nx a w hk I
  | loop b ih =>
    intro hp kn kx kr e h nx hl B0 w0 ι0 nx0 Q hM E ι a w I
    simp only [vcode_region, vcode_cond, vcode_loop] at hl
    cases M with
    | fuel n0 =>
      refine wpIn_loop_ks (I := fun n a w => ∃ ι e h nx, viter (fun k => vcode std T C Y tn PL (.fuel n0) R b k kx kr) n e h nx ∧ CInv B0 w0 ι0 nx0 tn ι e h nx a w) (n := n0) ⟨ι, e, h, nx, hl, I⟩ fun m a w hi => ?_
      obtain ⟨ι, e, h, nx, h1, I⟩ := hi
      cases m with
      | zero => exact h1.elim
      | succ m =>
        refine ih hp (viter (fun k => vcode std T C Y tn PL (.fuel n0) R b k kx kr) m) kx kr e h nx h1 B0 w0 ι0 nx0 (Exit.then (fun a' w' => ∃ m', m' < m + 1 ∧ ∃ ι e h nx, viter (fun k => vcode std T C Y tn PL (.fuel n0) R b k kx kr) m' e h nx ∧ CInv B0 w0 ι0 nx0 tn ι e h nx a' w') Q) hM ⟨fun ι e h nx a w hk I => ?_, fun id ι e h nx a w hk I => E.x id ι e h nx a w hk I, fun ι e h nx a w hk I => E.r ι e h nx a w hk I⟩ ι a w I
        exact ⟨m, Nat.lt_succ_self m, ι, e, h, nx, hk, I⟩
    | inv bs =>
      obtain ⟨J, ⟨n, h0⟩, hJ⟩ := hl
      obtain ⟨ι', e', h', nx', h0', I'⟩ := I.into hM h0
      refine wpIn_loop_ks (I := fun n a w => ∃ ι e h nx, J n e h nx ∧ CInv B0 w0 ι0 nx0 tn ι e h nx a w) (n := n) ⟨ι', e', h', nx', h0', I'⟩ fun n a w hi => ?_
      obtain ⟨ι, e, h, nx, h1, I⟩ := hi
      refine ih hp _ kx kr e h nx (hJ n e h nx h1) B0 w0 ι0 nx0 (Exit.then (fun a' w' => ∃ m, m < n ∧ ∃ ι e h nx, J m e h nx ∧ CInv B0 w0 ι0 nx0 tn ι e h nx a' w') Q) hM ⟨fun ι e h nx a w hk I => ?_, fun id ι e h nx a w hk I => E.x id ι e h nx a w hk I, fun ι e h nx a w hk I => E.r ι e h nx a w hk I⟩ ι a w I
      obtain ⟨m, hm, hk⟩ := hk
      obtain ⟨ι', e', h', nx', hk', I'⟩ := I.into hM hk
      exact ⟨m, hm, ι', e', h', nx', hk', I'⟩
  | rangeFunc g ps as bd _ _ => exact fun _ kn kx kr e h nx hl B0 w0 ι0 nx0 Q hM E ι a w I => hR g ps as bd kn kx kr e h nx hl B0 w0 ι0 nx0 Q E ι a w I
  | exit id => exact fun _ kn kx kr e h nx hl B0 w0 ι0 nx0 Q hM E ι a w I => wpIn_exit (E.x id ι e h nx a w hl I)
  | ret => exact fun _ kn kx kr e h nx hl B0 w0 ι0 nx0 Q hM E ι a w I => wpIn_ret (E.r ι e h nx a w hl I)
  | label l => exact fun _ kn kx kr e h nx hl B0 w0 ι0 nx0 Q hM E ι a w I => wpIn_label (E.n ι e h nx a w hl I)
  | scope b ih =>
    intro hp kn kx kr e h nx hl B0 w0 ι0 nx0 Q hM E ι a w I
    refine wpIn_scope_straight (ih hp kn kx kr e h nx hl B0 w0 ι0 nx0 _ hM ⟨fun ι e h nx a w hk I => ⟨fun l he => (by cases he), E.n ι e h nx a w hk I⟩, fun id ι e h nx a w hk I => ⟨fun l he => (by cases he), E.x id ι e h nx a w hk I⟩, fun ι e h nx a w hk I => ⟨fun l he => (by cases he), E.r ι e h nx a w hk I⟩⟩ ι a w I)
  | goto l => exact fun _ _ _ _ _ _ _ hl => hl.elim
  | refuse s => exact fun _ _ _ _ _ _ _ hl => hl.elim
end
end Go.Aw
