/-
  All functions, so deep: what is reckoned is what the machine does. No condition.
-/
import Derived.Test.YtagdfcdnfdpocaaGreatAw31
set_option linter.unusedSimpArgs false
set_option linter.unusedVariables false
noncomputable section
namespace Go.Aw
open Go.RowKit

theorem detE_bindS {E : KS → Prop} {F : List (Nat × Value) → Heap → Nat → KE → Prop} (hE : DetS E) (hF : ∀ v h nx, DetE (F v h nx)) : DetE (fun K => E (fun v h nx => F v h nx K)) := by
  intro K hl
  obtain ⟨v, h, nx, h1, h2⟩ := hE _ hl
  obtain ⟨e, h', nx', h3, h4⟩ := hF v h nx K h1
  exact ⟨e, h', nx', h3, fun K' hk => h2 _ (h4 K' hk)⟩
theorem detE_bindE {E : KE → Prop} {F : Value → Heap → Nat → KE → Prop} (hE : DetE E) (hF : ∀ v h nx, DetE (F v h nx)) : DetE (fun K => E (fun v h nx => F v h nx K)) := by
  intro K hl
  obtain ⟨v, h, nx, h1, h2⟩ := hE _ hl
  obtain ⟨e, h', nx', h3, h4⟩ := hF v h nx K h1
  exact ⟨e, h', nx', h3, fun K' hk => h2 _ (h4 K' hk)⟩
theorem detE_bind1 {α : Type} {E : (α → Prop) → Prop} {F : α → KE → Prop} (hE : Det E) (hF : ∀ v, DetE (F v)) : DetE (fun K => E (fun v => F v K)) := by
  intro K hl
  obtain ⟨v, h1, h2⟩ := hE _ hl
  obtain ⟨e, h', nx', h3, h4⟩ := hF v K h1
  exact ⟨e, h', nx', h3, fun K' hk => h2 _ (h4 K' hk)⟩

/-- An end that hangs on K has one outcome. -/
def DetK (f : KE → KS) : Prop := ∀ e h nx, DetE (fun K => f K e h nx)

variable {A : Ar} {T : Tab} {C : VC} {Y : VY}

def RDet (R : VR) : Prop := ∀ g ps as bd (kn : KE → KS) (kx : Nat → KE → KS) (kr : KE → KS), DetK kn → (∀ i, DetK (kx i)) → DetK kr → DetK (fun K => R g ps as bd (kn K) (fun i => kx i K) (kr K))

theorem det_viter {F : KE → KS → KS} (hF : ∀ k : KE → KS, DetK k → DetK (fun K => F K (k K))) : ∀ m, DetK (fun K => viter (F K) m)
  | 0 => fun _ _ _ => detE_false
  | m + 1 => hF (fun K => viter (F K) m) (det_viter hF m)

theorem det_vcode (hC : DetC C) (hY : DetC Y) {tn : Nat} {PL : Nat → Option Plan} {n : Nat} {R : VR} (hR : RDet R) : ∀ (c : Code) (kn : KE → KS) (kx : Nat → KE → KS) (kr : KE → KS), DetK kn → (∀ i, DetK (kx i)) → DetK kr →
    DetK (fun K => vcode A T C Y tn PL (.fuel n) R c (kn K) (fun i => kx i K) (kr K)) := by
  intro c
  induction c with
  | skip => exact fun kn kx kr h1 _ _ => h1
  | region id ops draw =>
    intro kn kx kr h1 _ _ e h nx
    simp only [vcode_region, vcode_cond]
    cases draw with
    | false => exact detE_bindS (F := fun e h nx K => kn K e h nx) (det_vops hC hY _ _ _ _) h1
    | true =>
      simp only
      cases PL id with
      | none => exact detE_false
      | some p => exact detE_bindS (F := fun e h nx K => kn K e h nx) (det_vregion hC hY) h1
  | seq a b iha ihb => exact fun kn kx kr h1 h2 h3 => iha (fun K => vcode A T C Y tn PL (.fuel n) R b (kn K) (fun i => kx i K) (kr K)) kx kr (ihb kn kx kr h1 h2 h3) h2 h3
  | cond c t f iht ihf =>
    intro kn kx kr h1 h2 h3 e h nx
    simp only [vcode_region, vcode_cond]
    intro K hl
    split at hl
    · rename_i b hb
      exact detE_br (iht kn kx kr h1 h2 h3 e h nx) (ihf kn kx kr h1 h2 h3 e h nx) K hl
    · exact hl.elim
  | block id b ih =>
    intro kn kx kr h1 h2 h3
    have := ih kn (fun j => match Nat.beq j id with | true => kn | false => kx j) kr h1 (fun j => by
      cases hb : Nat.beq j id with
      | true => simp only; exact h1
      | false => simp only; exact h2 j) h3
    intro e h nx
    have h5 := this e h nx
    have heq : (fun K => vcode A T C Y tn PL (.fuel n) R (.block id b) (kn K) (fun i => kx i K) (kr K) e h nx) = (fun K => vcode A T C Y tn PL (.fuel n) R b (kn K) (fun i => (match Nat.beq i id with | true => kn | false => kx i) K) (kr K) e h nx) := by
      funext K
      simp only [vcode_block]
      congr 1
      funext j
      cases Nat.beq j id <;> rfl
    show DetE (fun K => vcode A T C Y tn PL (.fuel n) R (.block id b) (kn K) (fun i => kx i K) (kr K) e h nx)
    rw [heq]
    exact h5
  | loop b ih =>
    intro kn kx kr h1 h2 h3 e h nx
    simp only [vcode_loop, vloop]
    exact det_viter (F := fun K k => vcode A T C Y tn PL (.fuel n) R b k (fun i => kx i K) (kr K)) (fun k hk => ih k kx kr hk h2 h3) n e h nx
  | rangeFunc g ps as bd _ _ => exact fun kn kx kr h1 h2 h3 => hR g ps as bd kn kx kr h1 h2 h3
  | exit id => exact fun kn kx kr _ h2 _ => h2 id
  | ret => exact fun kn kx kr _ _ h3 => h3
  | label l => exact fun kn kx kr h1 _ _ => h1
  | scope b ih => exact fun kn kx kr h1 h2 h3 => ih kn kx kr h1 h2 h3
  | goto l => exact fun _ _ _ _ _ _ _ _ _ => detE_false
  | refuse s => exact fun _ _ _ _ _ _ _ _ _ => detE_false

theorem det_vrange (hC : DetC C) {f tn : Nat} : RDet (vrange C f tn) := by
  intro g ps as bd kn kx kr h1 h2 h3 e h nx
  simp only [vrange]
  refine detE_on fun gv => ?_
  intro K hl
  split at hl
  case h_2 => exact hl.elim
  split at hl
  case h_2 => exact hl.elim
  rename_i q first cap _ _ hfirst hcap
  refine detE_bindE (E := C q _ _ _) (F := fun v h' nx' K => (match look h' (nx + 1), look h' nx with
          | some (.loop l), some .deferred => (match l.state, l.pending with
            | .busy, _ => False
            | _, none => kn K e (afterLoop h' nx) nx'
            | _, some (.exit id) => kx id K e (afterLoop h' nx) nx'
            | _, some .ret => kr K e (afterLoop h' nx) nx'
            | _, _ => False)
          | _, _ => False)) (hC _ _ _ _) (fun v h' nx' => ?_) K hl
  intro K hl
  split at hl
  case h_2 => exact hl.elim
  split at hl
  · exact hl.elim
  · exact h1 _ _ _ K hl
  · exact h2 _ _ _ _ K hl
  · exact h3 _ _ _ K hl
  · exact hl.elim

theorem vrange_mono (hC : DetC C) {f tn : Nat} : RMono (vrange C f tn) := by
  intro g ps as bd kn kn' kx kx' kr kr' e h nx h1 h2 h3 hl
  unfold vrange at hl ⊢
  obtain ⟨gv, hgv, hl⟩ := on_ok hl
  rw [hgv]
  simp only [on]
  split at hl
  case h_2 => exact hl.elim
  split at hl
  case h_2 => exact hl.elim
  obtain ⟨v, h', nx', k1, k2⟩ := hC _ _ _ _ _ hl
  refine k2 _ ?_
  split at k1
  case h_2 => exact k1.elim
  split at k1
  · exact k1.elim
  · exact h1 _ _ _ k1
  · exact h2 _ _ _ _ k1
  · exact h3 _ _ _ k1
  · exact k1.elim
end Go.Aw
