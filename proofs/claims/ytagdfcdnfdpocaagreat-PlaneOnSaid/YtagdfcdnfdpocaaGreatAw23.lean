/-
  An evaluation's outcome is one. No condition.
-/
import Derived.Test.YtagdfcdnfdpocaaGreatAw22
set_option linter.unusedSimpArgs false
set_option linter.unusedVariables false
noncomputable section
namespace Go.Aw
open Go.RowKit

def Det {α : Type} (E : (α → Prop) → Prop) : Prop := ∀ K, E K → ∃ x, K x ∧ ∀ K' : α → Prop, K' x → E K'
def un (K : KE) : Value × Heap × Nat → Prop := fun x => K x.1 x.2.1 x.2.2
def DetE (E : KE → Prop) : Prop := ∀ K : KE, E K → ∃ v h nx, K v h nx ∧ ∀ K' : KE, K' v h nx → E K'
def DetS (E : KS → Prop) : Prop := ∀ K : KS, E K → ∃ e h nx, K e h nx ∧ ∀ K' : KS, K' e h nx → E K'

theorem br_iff {b : Bool} {A B : Unit → Prop} : br b A B ↔ ((b = true ∧ A ()) ∨ (b = false ∧ B ())) := by
  cases b <;> simp [br]

variable {A : Ar} {T : Tab} {h : Heap} {nx : Nat}

theorem det_on {α : Type} {x : Option Value} {F : Value → (α → Prop) → Prop} (hF : ∀ v, Det (F v)) : Det (fun K => on x (fun v => F v K)) := by
  intro K hl
  cases x with
  | none => exact hl.elim
  | some v => exact hF v K hl
theorem detE_on {x : Option Value} {F : Value → KE → Prop} (hF : ∀ v, DetE (F v)) : DetE (fun K => on x (fun v => F v K)) := by
  intro K hl
  cases x with
  | none => exact hl.elim
  | some v => exact hF v K hl
theorem det_on1 {x : Option Value} : Det (on x) := by
  intro K hl
  cases x with
  | none => exact hl.elim
  | some v => exact ⟨v, hl, fun K' h => h⟩

theorem det_vload {t : TypeId} {x : Value} : Det (vload T h t x) := by
  intro K hl
  unfold vload at *
  repeat' (split at hl)
  all_goals first | (exact hl.elim) | (exact ⟨_, hl, fun K' h => h⟩) | (exact ⟨_, _, _, hl, fun K' h => h⟩) | (obtain ⟨hb, hl⟩ := must_iff.1 hl; exact ⟨_, hl, fun K' h => must_of hb h⟩) | (obtain ⟨hb, hl⟩ := must_iff.1 hl; exact ⟨_, _, _, hl, fun K' h => must_of hb h⟩)
theorem det_vfieldAddr {t : TypeId} {x : Value} {f : Nat} : Det (vfieldAddr T t x f) := by
  intro K hl
  unfold vfieldAddr at *
  repeat' (split at hl)
  all_goals first | (exact hl.elim) | (exact ⟨_, hl, fun K' h => h⟩) | (exact ⟨_, _, _, hl, fun K' h => h⟩) | (obtain ⟨hb, hl⟩ := must_iff.1 hl; exact ⟨_, hl, fun K' h => must_of hb h⟩) | (obtain ⟨hb, hl⟩ := must_iff.1 hl; exact ⟨_, _, _, hl, fun K' h => must_of hb h⟩)
theorem det_must {α : Type} {b : Bool} {E : (α → Prop) → Prop} (h : Det E) : Det (fun K => must b (E K)) := by
  intro K hl
  obtain ⟨hb, hl⟩ := must_iff.1 hl
  obtain ⟨x, h1, h2⟩ := h K hl
  exact ⟨x, h1, fun K' hk => must_of hb (h2 K' hk)⟩
theorem detE_must {b : Bool} {E : KE → Prop} (h : DetE E) : DetE (fun K => must b (E K)) := by
  intro K hl
  obtain ⟨hb, hl⟩ := must_iff.1 hl
  obtain ⟨x, y, z, h1, h2⟩ := h K hl
  exact ⟨x, y, z, h1, fun K' hk => must_of hb (h2 K' hk)⟩
theorem det_pure {α : Type} {x : α} : Det (fun K : α → Prop => K x) := fun K hl => ⟨x, hl, fun K' h => h⟩
theorem detE_pure {v : Value} {h : Heap} {nx : Nat} : DetE (fun K => K v h nx) := fun K hl => ⟨v, h, nx, hl, fun K' h => h⟩
theorem det_false {α : Type} : Det (fun _ : α → Prop => False) := fun K hl => hl.elim
theorem detE_false : DetE (fun _ => False) := fun K hl => hl.elim
theorem det_br {α : Type} {b : Bool} {E F : (α → Prop) → Prop} (hE : Det E) (hF : Det F) : Det (fun K => br b (fun _ => E K) (fun _ => F K)) := by
  intro K hl
  cases b
  · exact hF K hl
  · exact hE K hl
theorem detE_br {b : Bool} {E F : KE → Prop} (hE : DetE E) (hF : DetE F) : DetE (fun K => br b (fun _ => E K) (fun _ => F K)) := by
  intro K hl
  cases b
  · exact hF K hl
  · exact hE K hl

theorem det_vindexAddr {t : TypeId} {x i : Value} : Det (vindexAddr A T t x i) := by
  intro K hl
  unfold vindexAddr at *
  repeat' (split at hl)
  all_goals first | (exact hl.elim) | (exact ⟨_, hl, fun K' h => h⟩) | (exact ⟨_, _, _, hl, fun K' h => h⟩) | (obtain ⟨hb, hl⟩ := must_iff.1 hl; exact ⟨_, hl, fun K' h => must_of hb h⟩) | (obtain ⟨hb, hl⟩ := must_iff.1 hl; exact ⟨_, _, _, hl, fun K' h => must_of hb h⟩)
theorem det_vint {op : BinOp} {k : IntKind} {a b : Int} : Det (vint A op k a b) := by
  intro K hl
  unfold vint at *
  repeat' (split at hl)
  all_goals first | (exact hl.elim) | (exact ⟨_, hl, fun K' h => h⟩) | (exact ⟨_, _, _, hl, fun K' h => h⟩) | (obtain ⟨hb, hl⟩ := must_iff.1 hl; exact ⟨_, hl, fun K' h => must_of hb h⟩) | (obtain ⟨hb, hl⟩ := must_iff.1 hl; exact ⟨_, _, _, hl, fun K' h => must_of hb h⟩)
theorem det_vpart {t : TypeId} {cs : List Value} {o : Nat} : Det (vpart T t cs o) := by
  intro K hl
  unfold vpart at *
  repeat' (split at hl)
  all_goals first | (exact hl.elim) | (exact ⟨_, hl, fun K' h => h⟩) | (exact ⟨_, _, _, hl, fun K' h => h⟩) | (obtain ⟨hb, hl⟩ := must_iff.1 hl; exact ⟨_, hl, fun K' h => must_of hb h⟩) | (obtain ⟨hb, hl⟩ := must_iff.1 hl; exact ⟨_, _, _, hl, fun K' h => must_of hb h⟩)
theorem det_vfield {t : TypeId} {x : Value} {f : Nat} : Det (vfield T t x f) := by
  intro K hl
  unfold vfield at *
  repeat' (split at hl)
  all_goals first | (exact det_vpart K hl) | (exact hl.elim) | (exact ⟨_, hl, fun K' h => h⟩) | (exact ⟨_, _, _, hl, fun K' h => h⟩) | (obtain ⟨hb, hl⟩ := must_iff.1 hl; exact ⟨_, hl, fun K' h => must_of hb h⟩) | (obtain ⟨hb, hl⟩ := must_iff.1 hl; exact ⟨_, _, _, hl, fun K' h => must_of hb h⟩)
theorem det_vindex {t : TypeId} {x i : Value} : Det (vindex A T t x i) := by
  intro K hl
  unfold vindex at *
  repeat' (split at hl)
  all_goals first | (exact det_must det_vpart K hl) | (exact hl.elim) | (exact ⟨_, hl, fun K' h => h⟩) | (exact ⟨_, _, _, hl, fun K' h => h⟩) | (obtain ⟨hb, hl⟩ := must_iff.1 hl; exact ⟨_, hl, fun K' h => must_of hb h⟩) | (obtain ⟨hb, hl⟩ := must_iff.1 hl; exact ⟨_, _, _, hl, fun K' h => must_of hb h⟩)
theorem det_vbin {op : BinOp} {t : TypeId} {x y : Value} : Det (vbin A T op t x y) := by
  intro K hl
  unfold vbin at *
  repeat' (split at hl)
  all_goals first | (exact hl.elim) | (exact ⟨_, hl, fun K' h => h⟩) | (exact ⟨_, _, _, hl, fun K' h => h⟩) | (obtain ⟨hb, hl⟩ := must_iff.1 hl; exact ⟨_, hl, fun K' h => must_of hb h⟩) | (obtain ⟨hb, hl⟩ := must_iff.1 hl; exact ⟨_, _, _, hl, fun K' h => must_of hb h⟩) | (exact det_vint K hl)
theorem det_vun {op : UnOp} {x : Value} : Det (vun A op x) := by
  intro K hl
  unfold vun at *
  repeat' (split at hl)
  all_goals first | (exact hl.elim) | (exact ⟨_, hl, fun K' h => h⟩) | (exact ⟨_, _, _, hl, fun K' h => h⟩) | (obtain ⟨hb, hl⟩ := must_iff.1 hl; exact ⟨_, hl, fun K' h => must_of hb h⟩) | (obtain ⟨hb, hl⟩ := must_iff.1 hl; exact ⟨_, _, _, hl, fun K' h => must_of hb h⟩)
theorem det_vbuild {t : TypeId} {ps : List (Nat × Value)} : Det (vbuild T t ps) := by
  intro K hl
  unfold vbuild at *
  repeat' (split at hl)
  all_goals first | (exact hl.elim) | (exact ⟨_, hl, fun K' h => h⟩) | (exact ⟨_, _, _, hl, fun K' h => h⟩) | (obtain ⟨hb, hl⟩ := must_iff.1 hl; exact ⟨_, hl, fun K' h => must_of hb h⟩) | (obtain ⟨hb, hl⟩ := must_iff.1 hl; exact ⟨_, _, _, hl, fun K' h => must_of hb h⟩)
theorem det_vbuiltin {b : Builtin} {ts : Array TypeId} {vs : List Value} : Det (vbuiltin A T b ts vs) := by
  intro K hl
  unfold vbuiltin at *
  repeat' (split at hl)
  all_goals first | (exact hl.elim) | (exact ⟨_, hl, fun K' h => h⟩) | (exact ⟨_, _, _, hl, fun K' h => h⟩) | (obtain ⟨hb, hl⟩ := must_iff.1 hl; exact ⟨_, hl, fun K' h => must_of hb h⟩) | (obtain ⟨hb, hl⟩ := must_iff.1 hl; exact ⟨_, _, _, hl, fun K' h => must_of hb h⟩) | (exact det_on1 K hl)

theorem det_vnil {op : BinOp} {t : TypeId} {x : Value} : Det (vnil T h op t x) := by
  intro K hl
  unfold vnil at *
  repeat' (split at hl)
  all_goals first | (exact hl.elim) | (exact ⟨_, hl, fun K' h => h⟩)
theorem det_vlook {env : List (Nat × Value)} {op : Op} : Det (vlook A T env h op) := by
  show Det (fun K => vlook A T env h op K)
  cases op <;> simp only [vlook]
  case move x => exact det_on1
  case assign x => exact det_on1
  case pick c a b =>
    refine det_on fun u => ?_
    intro K hl
    split at hl
    · exact det_br det_on1 det_on1 K hl
    · exact hl.elim
  case nilCheck x =>
    refine det_on fun u => ?_
    intro K hl
    split at hl
    all_goals first | (exact hl.elim) | (exact ⟨_, hl, fun K' h => h⟩)
  case load t x => exact det_on fun u => det_vload
  case fieldAddr s x f => exact det_on fun u => det_vfieldAddr
  case field s x f => exact det_on fun u => det_vfield
  case indexAddr t x i => exact det_on fun u => det_on fun j => det_vindexAddr
  case index t x i => exact det_on fun u => det_on fun j => det_vindex
  case binOp op t x y yt =>
    refine det_on fun u => det_on fun v => ?_
    intro K hl
    split at hl
    · exact det_vnil K hl
    · exact det_vbin K hl
  case unOp op t x => exact det_on fun u => det_vun
  case convert s d x =>
    refine det_on fun u => ?_
    intro K hl
    split at hl
    · exact det_must det_pure K hl
    · exact hl.elim
  case makeFunc fn first cap =>
    intro K hl
    repeat' (split at hl)
    all_goals first | (exact hl.elim) | (exact ⟨_, hl, fun K' h => h⟩)
  case extract x i =>
    refine det_on fun u => ?_
    intro K hl
    split at hl
    · exact det_on1 K hl
    · exact hl.elim
  case build t ps =>
    intro K hl
    split at hl
    · exact det_vbuild K hl
    · exact hl.elim
  case call c =>
    intro K hl
    split at hl
    · split at hl
      · exact det_vbuiltin K hl
      · exact hl.elim
    · exact hl.elim
  all_goals exact det_false

theorem detE_of {E : (Value → Prop) → Prop} (hE : Det E) : DetE (fun K => E (fun v => K v h nx)) := by
  intro K hl
  obtain ⟨v, h1, h2⟩ := hE _ hl
  exact ⟨v, h, nx, h1, fun K' hk => h2 _ hk⟩

theorem det_vstore {t : TypeId} {x v : Value} : DetE (vstore T h nx t x v) := by
  intro K hl
  unfold vstore at *
  repeat' (split at hl)
  all_goals first | (exact hl.elim) | (exact ⟨_, hl, fun K' h => h⟩) | (exact ⟨_, _, _, hl, fun K' h => h⟩) | (obtain ⟨hb, hl⟩ := must_iff.1 hl; exact ⟨_, hl, fun K' h => must_of hb h⟩) | (obtain ⟨hb, hl⟩ := must_iff.1 hl; exact ⟨_, _, _, hl, fun K' h => must_of hb h⟩)
theorem det_valloc {t : TypeId} : DetE (valloc T h nx t) := by
  intro K hl
  unfold valloc at *
  repeat' (split at hl)
  all_goals first | (exact hl.elim) | (exact ⟨_, hl, fun K' h => h⟩) | (exact ⟨_, _, _, hl, fun K' h => h⟩) | (obtain ⟨hb, hl⟩ := must_iff.1 hl; exact ⟨_, hl, fun K' h => must_of hb h⟩) | (obtain ⟨hb, hl⟩ := must_iff.1 hl; exact ⟨_, _, _, hl, fun K' h => must_of hb h⟩)
theorem det_vbox {v : Value} : DetE (vbox h nx v) := by
  intro K hl
  unfold vbox at *
  repeat' (split at hl)
  all_goals first | (exact hl.elim) | (exact ⟨_, hl, fun K' h => h⟩) | (exact ⟨_, _, _, hl, fun K' h => h⟩) | (obtain ⟨hb, hl⟩ := must_iff.1 hl; exact ⟨_, hl, fun K' h => must_of hb h⟩) | (obtain ⟨hb, hl⟩ := must_iff.1 hl; exact ⟨_, _, _, hl, fun K' h => must_of hb h⟩)
theorem det_vbuildSlice {t : TypeId} {n : Nat} {ps : List (Nat × Value)} : DetE (vbuildSlice T h nx t n ps) := by
  intro K hl
  unfold vbuildSlice at *
  repeat' (split at hl)
  all_goals first | (exact hl.elim) | (exact ⟨_, hl, fun K' h => h⟩) | (exact ⟨_, _, _, hl, fun K' h => h⟩) | (obtain ⟨hb, hl⟩ := must_iff.1 hl; exact ⟨_, hl, fun K' h => must_of hb h⟩) | (obtain ⟨hb, hl⟩ := must_iff.1 hl; exact ⟨_, _, _, hl, fun K' h => must_of hb h⟩)
theorem det_vclear {t : TypeId} {x : Value} : DetE (vclear T h nx t x) := by
  intro K hl
  unfold vclear at *
  repeat' (split at hl)
  all_goals first | (exact hl.elim) | (exact ⟨_, hl, fun K' h => h⟩) | (exact ⟨_, _, _, hl, fun K' h => h⟩) | (obtain ⟨hb, hl⟩ := must_iff.1 hl; exact ⟨_, hl, fun K' h => must_of hb h⟩) | (obtain ⟨hb, hl⟩ := must_iff.1 hl; exact ⟨_, _, _, hl, fun K' h => must_of hb h⟩)
theorem det_vmapUpdate {t : TypeId} {x k v : Value} : DetE (vmapUpdate A T h nx t x k v) := by
  intro K hl
  unfold vmapUpdate at *
  repeat' (split at hl)
  all_goals first | (exact hl.elim) | (exact ⟨_, hl, fun K' h => h⟩) | (exact ⟨_, _, _, hl, fun K' h => h⟩) | (obtain ⟨hb, hl⟩ := must_iff.1 hl; exact ⟨_, hl, fun K' h => must_of hb h⟩) | (obtain ⟨hb, hl⟩ := must_iff.1 hl; exact ⟨_, _, _, hl, fun K' h => must_of hb h⟩)
theorem det_vlookup {t : TypeId} {x k : Value} {ok : Bool} : Det (vlookup A T h t x k ok) := by
  intro K hl
  unfold vlookup at *
  repeat' (split at hl)
  all_goals first | (exact hl.elim) | (exact ⟨_, hl, fun K' h => h⟩) | (exact ⟨_, _, _, hl, fun K' h => h⟩) | (obtain ⟨hb, hl⟩ := must_iff.1 hl; exact ⟨_, hl, fun K' h => must_of hb h⟩) | (obtain ⟨hb, hl⟩ := must_iff.1 hl; exact ⟨_, _, _, hl, fun K' h => must_of hb h⟩)
theorem detE_vhi {n c : Nat} {hi : Option Value} {G : Nat → KE → Prop} (hG : ∀ m, DetE (G m)) : DetE (fun K => vhi A n c hi fun m => G m K) := by
  intro K hl
  unfold vhi at *
  split at hl
  · exact hG _ K hl
  · exact detE_must (hG _) K hl
  · exact hl.elim
theorem det_vslice {t : TypeId} {x : Value} {lo hi mx : Option Value} : DetE (vslice A T h nx t x lo hi mx) := by
  intro K hl
  unfold vslice at *
  split at hl
  case h_2 => exact hl.elim
  split at hl
  · exact hl.elim
  split at hl
  · split at hl
    · exact detE_pure K hl
    · exact hl.elim
  · refine detE_vhi (fun m => ?_) K hl
    intro K hl
    split at hl
    · exact detE_pure K hl
    · refine detE_must ?_ K hl
      intro K hl
      split at hl
      · exact detE_must detE_pure K hl
      · exact detE_pure K hl
      · exact hl.elim
    · exact hl.elim
  · split at hl
    · exact detE_pure K hl
    · exact hl.elim
  · split at hl
    · exact detE_must detE_pure K hl
    · exact hl.elim
  · exact hl.elim
theorem detE_vsrc {sz : Nat} {x : Value} {G : Nat → List Value → KE → Prop} (hG : ∀ m l, DetE (G m l)) : DetE (fun K => vsrc h sz x fun m l => G m l K) := by
  intro K hl
  unfold vsrc at *
  split at hl
  · exact hG _ _ K hl
  · split at hl
    · exact detE_must (hG _ _) K hl
    · split at hl
      · exact hG _ _ K hl
      · exact hl.elim
    · exact hl.elim
  · exact hl.elim
theorem det_vmakeSlice {t : TypeId} {l c : Value} : DetE (vmakeSlice A T h nx t l c) := by
  intro K hl
  unfold vmakeSlice at *
  split at hl
  case h_2 => exact hl.elim
  split at hl
  case h_2 => exact hl.elim
  exact detE_must detE_pure K hl
theorem det_vappend {st xt : TypeId} {s x : Value} : DetE (vappend A T h nx st xt s x) := by
  intro K hl
  unfold vappend at *
  split at hl
  case h_3 => exact hl.elim
  case h_1 =>
    split at hl
    case h_2 => exact hl.elim
    split at hl
    case h_2 => exact hl.elim
    exact detE_must detE_pure K hl
  split at hl
  · exact hl.elim
  split at hl
  · exact hl.elim
  refine detE_vsrc (fun m l => ?_) K hl
  intro K hl
  split at hl
  · exact detE_br detE_pure (detE_must detE_pure) K hl
  · split at hl
    · split at hl
      · exact detE_br detE_pure (detE_must detE_pure) K hl
      · exact hl.elim
    · exact detE_br (detE_must detE_pure) (detE_must detE_pure) K hl
    · exact hl.elim
  · exact hl.elim
end Go.Aw
