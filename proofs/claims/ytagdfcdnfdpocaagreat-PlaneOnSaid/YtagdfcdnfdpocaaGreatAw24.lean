/-
  An evaluation's outcome is one: operations, lists, regions. No condition.
-/
import Derived.Test.YtagdfcdnfdpocaaGreatAw23
set_option linter.unusedSimpArgs false
set_option linter.unusedVariables false
noncomputable section
namespace Go.Aw
open Go.RowKit

variable {A : Ar} {T : Tab} {C : VC} {Y : VY}

theorem detE_opt {α : Type} {x : Option α} {F : α → KE → Prop} (hF : ∀ v, DetE (F v)) : DetE (fun K => match x with | some v => F v K | none => False) := by
  intro K hl
  cases x with
  | none => exact hl.elim
  | some v => exact hF v K hl

theorem det_vop (hC : DetC C) (hY : DetC Y) {env : List (Nat × Value)} {h : Heap} {nx : Nat} {op : Op} : DetE (vop A T C Y env h nx op) := by
  have hlook : DetE (fun K => vlook A T env h op (fun v => K v h nx)) := detE_of det_vlook
  show DetE (fun K => vop A T C Y env h nx op K)
  cases op
  case store t x y => exact detE_on fun p => detE_on fun v => det_vstore
  case alloc t => exact det_valloc
  case box t x => exact detE_on fun v => det_vbox
  case buildSlice t n ps =>
    simp only [vop]
    intro K hl
    split at hl
    · exact det_vbuildSlice K hl
    · exact hl.elim
  case slice t x lo hi mx =>
    simp only [vop]
    refine detE_on fun v => ?_
    intro K hl
    split at hl
    · exact det_vslice K hl
    · exact hl.elim
  case makeSlice t l c =>
    simp only [vop]
    exact detE_on fun x => detE_on fun y => det_vmakeSlice
  case makeMap t r =>
    cases r with
    | none => exact detE_pure
    | some r => exact hlook
  case lookup t m k ok => exact detE_on fun x => detE_on fun y => detE_of det_vlookup
  case mapUpdate t m k u => exact detE_on fun x => detE_on fun y => detE_on fun v => det_vmapUpdate
  case call c =>
    obtain ⟨cal, args, ats⟩ := c
    cases cal with
    | invoke r m => exact detE_false
    | builtin b =>
      cases b
      case append =>
        simp only [vop]
        intro K hl
        split at hl
        · exact det_vappend K hl
        · exact hl.elim
      case clear =>
        simp only [vop]
        intro K hl
        split at hl
        · exact det_vclear K hl
        · exact hl.elim
      all_goals exact hlook
    | value f =>
      simp only [vop]
      refine detE_on fun fv => ?_
      intro K hl
      split at hl
      · split at hl
        · split at hl
          · exact hC _ _ _ _ K hl
          · exact hl.elim
        · split at hl
          · exact hY _ _ _ _ K hl
          · exact hl.elim
        · exact hl.elim
      · exact hl.elim
  all_goals exact hlook

theorem vguard_cases {ops : List Oper} {env : List (Nat × Value)} {g : Option (Nat × Bool)} : (∃ e, ∀ Yk N, vguard A ops env g Yk N = Yk e) ∨ (∃ e, ∀ Yk N, vguard A ops env g Yk N = N e) ∨ (∀ Yk N, vguard A ops env g Yk N = False) := by
  unfold vguard
  cases g with
  | none => exact .inl ⟨env, fun _ _ => rfl⟩
  | some gw =>
    obtain ⟨j, want⟩ := gw
    simp only
    cases getL ops j with
    | none => exact .inr (.inr fun _ _ => rfl)
    | some o =>
      simp only
      cases o.dst with
      | none => exact .inr (.inr fun _ _ => rfl)
      | some t =>
        simp only
        cases look env t with
        | none => exact .inr (.inr fun _ _ => rfl)
        | some v =>
          cases v with
          | tuple vs => exact .inr (.inl ⟨env, fun _ _ => rfl⟩)
          | bool b =>
            simp only
            cases A.eqB b want with
            | true => exact .inl ⟨_, fun _ _ => rfl⟩
            | false => exact .inr (.inl ⟨_, fun _ _ => rfl⟩)
          | _ => exact .inr (.inr fun _ _ => rfl)
theorem vput_cases {tn : Nat} {env : List (Nat × Value)} {dst : Option Nat} {v : Value} : (∃ e, ∀ K, vput tn env dst v K = K e) ∨ (∀ K, vput tn env dst v K = False) := by
  unfold vput
  cases dst with
  | none => exact .inl ⟨env, fun _ => rfl⟩
  | some d =>
    simp only
    cases Nat.blt d tn with
    | true => exact .inl ⟨_, fun _ => rfl⟩
    | false => exact .inr fun _ => rfl

theorem detS_pure {e : List (Nat × Value)} {h : Heap} {nx : Nat} : DetS (fun K => K e h nx) := fun K hl => ⟨e, h, nx, hl, fun K' h => h⟩
theorem detS_false : DetS (fun _ => False) := fun K hl => hl.elim
theorem detS_guard {ops : List Oper} {env : List (Nat × Value)} {g : Option (Nat × Bool)} {F G : List (Nat × Value) → KS → Prop} (hF : ∀ e, DetS (F e)) (hG : ∀ e, DetS (G e)) : DetS (fun K => vguard A ops env g (fun e => F e K) (fun e => G e K)) := by
  rcases vguard_cases (A := A) (ops := ops) (env := env) (g := g) with ⟨e, h⟩ | ⟨e, h⟩ | h
  · simp only [h]; exact hF e
  · simp only [h]; exact hG e
  · simp only [h]; exact detS_false
theorem detS_put {tn : Nat} {env : List (Nat × Value)} {dst : Option Nat} {v : Value} {F : List (Nat × Value) → KS → Prop} (hF : ∀ e, DetS (F e)) : DetS (fun K => vput tn env dst v (fun e => F e K)) := by
  rcases vput_cases (tn := tn) (env := env) (dst := dst) (v := v) with ⟨e, h⟩ | h
  · simp only [h]; exact hF e
  · simp only [h]; exact detS_false
theorem detS_bind {E : KE → Prop} {F : Value → Heap → Nat → KS → Prop} (hE : DetE E) (hF : ∀ v h nx, DetS (F v h nx)) : DetS (fun K => E (fun v h nx => F v h nx K)) := by
  intro K hl
  obtain ⟨v, h, nx, h1, h2⟩ := hE _ hl
  obtain ⟨e, h', nx', h3, h4⟩ := hF v h nx K h1
  exact ⟨e, h', nx', h3, fun K' hk => h2 _ (h4 K' hk)⟩
theorem detS_bind1 {α : Type} {E : (α → Prop) → Prop} {F : α → KS → Prop} (hE : Det E) (hF : ∀ v, DetS (F v)) : DetS (fun K => E (fun v => F v K)) := by
  intro K hl
  obtain ⟨v, h1, h2⟩ := hE _ hl
  obtain ⟨e, h', nx', h3, h4⟩ := hF v K h1
  exact ⟨e, h', nx', h3, fun K' hk => h2 _ (h4 K' hk)⟩
theorem detS_bindS {E : KS → Prop} {F : List (Nat × Value) → Heap → Nat → KS → Prop} (hE : DetS E) (hF : ∀ v h nx, DetS (F v h nx)) : DetS (fun K => E (fun v h nx => F v h nx K)) := by
  intro K hl
  obtain ⟨v, h, nx, h1, h2⟩ := hE _ hl
  obtain ⟨e, h', nx', h3, h4⟩ := hF v h nx K h1
  exact ⟨e, h', nx', h3, fun K' hk => h2 _ (h4 K' hk)⟩
theorem detS_must {b : Bool} {E : KS → Prop} (h : DetS E) : DetS (fun K => must b (E K)) := by
  intro K hl
  obtain ⟨hb, hl⟩ := must_iff.1 hl
  obtain ⟨x, y, z, h1, h2⟩ := h K hl
  exact ⟨x, y, z, h1, fun K' hk => must_of hb (h2 K' hk)⟩

theorem det_vops (hC : DetC C) (hY : DetC Y) {tn : Nat} {ops : List Oper} : ∀ (l : List Oper) (env : List (Nat × Value)) (h : Heap) (nx : Nat), DetS (vops A T C Y tn ops l env h nx)
  | [], env, h, nx => detS_pure
  | o :: r, env, h, nx => by
    show DetS (fun K => vops A T C Y tn ops (o :: r) env h nx K)
    simp only [vops_cons]
    exact detS_guard (F := fun e K => vop A T C Y e h nx o.op fun v h' nx' => vput tn e o.dst v fun env' => vops A T C Y tn ops r env' h' nx' K) (G := fun e K => vput tn e o.dst undef fun env' => vops A T C Y tn ops r env' h nx K)
      (fun e => detS_bind (F := fun v h' nx' K => vput tn e o.dst v fun env' => vops A T C Y tn ops r env' h' nx' K) (det_vop hC hY) fun v h' nx' => detS_put (F := fun env' K => vops A T C Y tn ops r env' h' nx' K) fun e' => det_vops hC hY r e' h' nx')
      (fun e => detS_put (F := fun env' K => vops A T C Y tn ops r env' h nx K) fun e' => det_vops hC hY r e' h nx)

theorem det_vquiet (hC : DetC C) {hJ : Heap} {nx : Nat} {env : List (Nat × Value)} {op : Op} : Det (vquiet A T C hJ nx env op) := by
  have hlook : ∀ hh op', Det (fun K => vlook A T env hh op' K) := fun _ _ => det_vlook
  show Det (fun K => vquiet A T C hJ nx env op K)
  cases op
  case load t x => simp only [vquiet]; exact hlook hJ _
  case lookup t m k ok => exact det_on fun x => det_on fun y => det_vlookup
  case slice t x lo hi mx =>
    simp only [vquiet]
    refine det_on fun v => ?_
    intro K hl
    split at hl
    · obtain ⟨v, h', nx', h1, h2⟩ := det_vslice _ hl
      split at h1
      · rename_i hb
        exact ⟨v, h1, fun K' hk => h2 _ (by rw [hb]; exact hk)⟩
      · exact h1.elim
    · exact hl.elim
  case call c =>
    obtain ⟨cal, args, ats⟩ := c
    cases cal with
    | invoke r m => exact det_false
    | builtin b => simp only [vquiet]; exact hlook [] _
    | value f =>
      simp only [vquiet]
      refine det_on fun fv => ?_
      intro K hl
      split at hl
      · split at hl
        · split at hl
          · obtain ⟨v, h', nx', h1, h2⟩ := hC _ _ _ _ _ hl
            split at h1
            · rename_i hb
              exact ⟨v, h1, fun K' hk => h2 _ (by rw [hb]; exact hk)⟩
            · exact h1.elim
          · exact hl.elim
        · exact hl.elim
      · exact hl.elim
  all_goals (simp only [vquiet]; exact hlook [] _)

theorem det_bind {α β : Type} {E : (α → Prop) → Prop} {F : α → (β → Prop) → Prop} (hE : Det E) (hF : ∀ v, Det (F v)) : Det (fun K => E (fun v => F v K)) := by
  intro K hl
  obtain ⟨v, h1, h2⟩ := hE _ hl
  obtain ⟨e, h3, h4⟩ := hF v K h1
  exact ⟨e, h3, fun K' hk => h2 _ (h4 K' hk)⟩
theorem det_guard {α : Type} {ops : List Oper} {env : List (Nat × Value)} {g : Option (Nat × Bool)} {F G : List (Nat × Value) → (α → Prop) → Prop} (hF : ∀ e, Det (F e)) (hG : ∀ e, Det (G e)) : Det (fun K => vguard A ops env g (fun e => F e K) (fun e => G e K)) := by
  rcases vguard_cases (A := A) (ops := ops) (env := env) (g := g) with ⟨e, h⟩ | ⟨e, h⟩ | h
  · simp only [h]; exact hF e
  · simp only [h]; exact hG e
  · simp only [h]; exact det_false
theorem det_put {α : Type} {tn : Nat} {env : List (Nat × Value)} {dst : Option Nat} {v : Value} {F : List (Nat × Value) → (α → Prop) → Prop} (hF : ∀ e, Det (F e)) : Det (fun K => vput tn env dst v (fun e => F e K)) := by
  rcases vput_cases (tn := tn) (env := env) (dst := dst) (v := v) with ⟨e, h⟩ | h
  · simp only [h]; exact hF e
  · simp only [h]; exact det_false

theorem det_vhead (hC : DetC C) {tn : Nat} {ops : List Oper} {hJ : Heap} {nx : Nat} : ∀ (l : List Nat) (env : List (Nat × Value)), Det (vhead A T C tn ops hJ nx l env)
  | [], env => det_pure
  | i :: r, env => by
    show Det (fun K => vhead A T C tn ops hJ nx (i :: r) env K)
    simp only [vhead_cons]
    cases getL ops i with
    | none => exact det_false
    | some o =>
      exact det_guard (F := fun e K => vquiet A T C hJ nx e o.op fun v => vput tn e o.dst v fun env => vhead A T C tn ops hJ nx r env K) (G := fun e K => vput tn e o.dst undef fun env => vhead A T C tn ops hJ nx r env K)
        (fun e => det_bind (F := fun v K => vput tn e o.dst v fun env => vhead A T C tn ops hJ nx r env K) (det_vquiet hC) fun v => det_put (F := fun env K => vhead A T C tn ops hJ nx r env K) fun e' => det_vhead hC r e')
        (fun e => det_put (F := fun env K => vhead A T C tn ops hJ nx r env K) fun e' => det_vhead hC r e')

theorem det_vallocs {tn : Nat} {ops : List Oper} : ∀ (l : List Nat) (env : List (Nat × Value)) (h : Heap) (nx : Nat), DetS (vallocs T tn ops l env h nx)
  | [], env, h, nx => detS_pure
  | i :: r, env, h, nx => by
    intro K hl
    simp only [vallocs_cons] at hl ⊢
    split at hl
    · split at hl
      · exact detS_put (F := fun e K => vallocs T tn ops r e _ _ K) (fun e => det_vallocs r e _ _) K hl
      · exact hl.elim
    · exact hl.elim

theorem det_vtail (hC : DetC C) (hY : DetC Y) {tn : Nat} {ops : List Oper} {hJ : Heap} : ∀ (l : List (Nat × Bool)) (env : List (Nat × Value)) (h : Heap) (nx : Nat), DetS (vtail A T C Y tn ops hJ l env h nx)
  | [], env, h, nx => detS_pure
  | (i, chk) :: r, env, h, nx => by
    show DetS (fun K => vtail A T C Y tn ops hJ ((i, chk) :: r) env h nx K)
    simp only [vtail_cons]
    cases getL ops i with
    | none => exact detS_false
    | some o =>
      exact detS_guard (F := fun e K => must (asideOK e hJ chk o.op) (vop A T C Y e h nx o.op fun v h' nx' => vput tn e o.dst v fun env' => vtail A T C Y tn ops hJ r env' h' nx' K)) (G := fun e K => vput tn e o.dst undef fun env' => vtail A T C Y tn ops hJ r env' h nx K)
        (fun e => detS_must (detS_bind (F := fun v h' nx' K => vput tn e o.dst v fun env' => vtail A T C Y tn ops hJ r env' h' nx' K) (det_vop hC hY) fun v h' nx' => detS_put (F := fun env' K => vtail A T C Y tn ops hJ r env' h' nx' K) fun e' => det_vtail hC hY r e' h' nx'))
        (fun e => detS_put (F := fun env' K => vtail A T C Y tn ops hJ r env' h nx K) fun e' => det_vtail hC hY r e' h nx)

theorem det_vregion (hC : DetC C) (hY : DetC Y) {tn : Nat} {ops : List Oper} {p : Plan} {env : List (Nat × Value)} {h : Heap} {nx : Nat} : DetS (vregion A T C Y tn ops p env h nx) := by
  show DetS (fun K => vregion A T C Y tn ops p env h nx K)
  unfold vregion
  exact detS_bind1 (F := fun e K => vallocs T tn ops p.allocs e h nx fun env2 h2 nx2 => vtail A T C Y tn ops (asideHeap ops env p.tail h) p.tail env2 h2 nx2 K) (det_vhead hC p.head env) fun e =>
    detS_bindS (F := fun env2 h2 nx2 K => vtail A T C Y tn ops (asideHeap ops env p.tail h) p.tail env2 h2 nx2 K) (det_vallocs p.allocs e h nx) fun e2 h2 nx2 => det_vtail hC hY p.tail e2 h2 nx2
end Go.Aw
