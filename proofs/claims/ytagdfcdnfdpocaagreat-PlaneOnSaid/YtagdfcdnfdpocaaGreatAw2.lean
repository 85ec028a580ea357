/-
  The heap of names: what keeps its relation to the machine's world. No condition.
-/
import Derived.Test.YtagdfcdnfdpocaaGreatAw1
noncomputable section
namespace Go.Aw
open Go.RowKit

def ins (ι : Nat → Loc) (k : Nat) (l : Loc) : Nat → Loc := fun j => if j = k then l else ι j
theorem ins_same (ι : Nat → Loc) (k : Nat) (l : Loc) : ins ι k l k = l := if_pos rfl
theorem ins_ne (ι : Nat → Loc) {k j : Nat} (l : Loc) (h : j ≠ k) : ins ι k l j = ι j := if_neg h
theorem ins_lt (ι : Nat → Loc) {k j : Nat} (l : Loc) (h : j < k) : ins ι k l j = ι j := if_neg (by omega)

theorem ORel.lt {ι : Nat → Loc} {B : Nat} {w : World} {o : AObj} {l : Loc} (h : ORel ι B w o l) {b : Nat} (hb : l.blk = some b) : b < w.heap.size := by
  have key : ∀ x, w.heap[b]? = some x → b < w.heap.size := fun x hx => (Array.getElem?_eq_some_iff.1 hx).1
  cases l with
  | nil => cases hb
  | «at» c off e =>
    have : c = b := by simpa [Loc.blk] using hb
    subst this
    cases o with
    | cells wr g sz cs =>
      cases wr with
      | true => obtain ⟨_, _, arr, t, h1, _⟩ := h; exact key _ h1
      | false => exact h.1
    | map es => obtain ⟨_, ents, clock, h1, _⟩ := h; exact key _ h1
    | loop r => obtain ⟨_, r, h1, _⟩ := h; exact key _ h1
    | deferred => exact key _ h.2
    | zero => exact h.elim

theorem ORel.base {ι : Nat → Loc} {B : Nat} {w : World} {o : AObj} {l : Loc} (h : ORel ι B w o l) (ha : o.alone = true) {b : Nat} (hb : l.blk = some b) : B ≤ b := by
  cases l with
  | nil => cases hb
  | «at» c off e =>
    have : c = b := by simpa [Loc.blk] using hb
    subst this
    cases o with
    | cells wr g sz cs =>
      cases wr with
      | true => exact h.1
      | false => cases ha
    | map es => exact h.1
    | loop r => exact h.1
    | deferred => exact h.1
    | zero => cases ha

theorem ORel.keep {ι : Nat → Loc} {B : Nat} {w w' : World} {o : AObj} {l : Loc} (h : ORel ι B w o l) (hb : ∀ b, l.blk = some b → w'.heap[b]? = w.heap[b]?) (hs : w.heap.size ≤ w'.heap.size) :
    ORel ι B w' o l := by
  cases l with
  | nil => cases o <;> first | exact h | (cases h)
  | «at» c off e =>
    have hc := hb c rfl
    cases o with
    | cells wr g sz cs =>
      cases wr with
      | true => obtain ⟨h0, hg, arr, t, h1, h2⟩ := h; exact ⟨h0, hg, arr, t, hc.trans h1, h2⟩
      | false =>
        obtain ⟨h0, hg, h1⟩ := h
        exact ⟨by omega, hg, fun i v hv => by rw [World.cell?_of_block (w := w) hc]; exact h1 i v hv⟩
    | map es => obtain ⟨h0, ents, clock, h1, h2⟩ := h; exact ⟨h0, ents, clock, hc.trans h1, h2⟩
    | loop r => obtain ⟨h0, r, h1, h2⟩ := h; exact ⟨h0, r, hc.trans h1, h2⟩
    | deferred => exact ⟨h.1, hc.trans h.2⟩
    | zero => exact h.elim

theorem ORel.names {ι ι' : Nat → Loc} {B n : Nat} {w : World} {o : AObj} {l : Loc} (h : ORel ι B w o l) (hsc : OSc ι n o) (he : ∀ k, k < n → ι' k = ι k) : ORel ι' B w o l := by
  cases l with
  | nil => cases o <;> first | exact h | (cases h)
  | «at» c off e =>
    cases o with
    | cells wr g sz cs =>
      cases wr with
      | true =>
        obtain ⟨h0, hg, arr, t, h1, h2, h3⟩ := h
        exact ⟨h0, hg, arr, t, h1, h2, fun i v hv => by rw [trS_eq he (hsc v (List.mem_of_getElem? hv))]; exact h3 i v hv⟩
      | false =>
        obtain ⟨h0, hg, h1⟩ := h
        exact ⟨h0, hg, fun i v hv => by rw [trS_eq he (hsc v (List.mem_of_getElem? hv))]; exact h1 i v hv⟩
    | map es =>
      obtain ⟨h0, ents, clock, h1, h2, h3⟩ := h
      refine ⟨h0, ents, clock, h1, h2.trans ?_, h3⟩
      apply List.map_congr_left
      intro x hx
      rw [trS_eq he (hsc x hx)]
    | loop r =>
      obtain ⟨h0, q, h1, h2, h3, h4, h5, h6, h7, h8, h9, h10⟩ := h
      refine ⟨h0, q, h1, h2, h3, h4, h5, fun t v hv => ?_, h7, h8, h9, ?_⟩
      · rw [tr_eq he (hsc.1 t v hv)]; exact h6 t v hv
      · rw [he _ hsc.2]; exact h10
    | deferred => exact h
    | zero => exact h

theorem OSc.mono {ι ι' : Nat → Loc} {n m : Nat} (h : n ≤ m) (e : ∀ k, k < n → ι' k = ι k) {o : AObj} (hs : OSc ι n o) : OSc ι' m o := by
  cases o with
  | cells wr g sz cs => exact fun v hv => scS_mono h e (hs v hv)
  | map es => exact fun v hv => scS_mono h e (hs v hv)
  | loop r => exact ⟨fun t v hv => scT_mono h e (hs.1 t v hv), Nat.lt_of_lt_of_le hs.2 h⟩
  | deferred => trivial
  | zero => trivial

section
variable {ι : Nat → Loc} {B nx : Nat} {h : Heap} {w w' : World}

theorem RelH.keep (H : RelH ι B h nx w) (hb : ∀ k o b, look h k = some o → (ι k).blk = some b → w'.heap[b]? = w.heap[b]?) (hs : w.heap.size ≤ w'.heap.size) : RelH ι B h nx w' :=
  ⟨fun k o hk => (H.obj k o hk).keep (fun b e => hb k o b hk e) hs, H.sep, H.low, Nat.le_trans H.size hs, H.sc⟩

/-- New blocks only. -/
theorem RelH.ext (H : RelH ι B h nx w) (hb : Below w.heap.size w w') : RelH ι B h nx w' :=
  H.keep (fun k o b hk e => hb.block b ((H.obj k o hk).lt e)) hb.size

/-- Everything there is becomes read-only, and the base goes up. -/
def AObj.shut : AObj → AObj
  | .cells _ g sz cs => .cells false g sz cs
  | o => o

/-- A new name for an object that lies there. -/
theorem RelH.add (H : RelH ι B h nx w) (o : AObj) (l : Loc) (ho : ORel (ins ι nx l) B w o l) (hsc : OSc (ins ι nx l) (nx + 1) o)
    (hsep : ∀ k o', look h k = some o' → (o.alone = true ∨ o'.alone = true) → ∀ b, l.blk = some b → (ι k).blk ≠ some b) : RelH (ins ι nx l) B (upd h nx o) (nx + 1) w := by
  refine ⟨fun k o' hk => ?_, fun k k' o1 o2 h1 h2 hne ha b hb => ?_, fun k o' hk => ?_, H.size, fun k o' hk => ?_⟩
  · rw [look_upd] at hk
    by_cases e : k = nx
    · subst e
      rw [if_pos rfl] at hk
      injection hk with hk
      subst hk
      rw [ins_same]; exact ho
    · rw [if_neg e] at hk
      rw [ins_ne _ _ e]
      exact (H.obj k o' hk).names (H.sc k o' hk) (fun j hj => ins_lt _ _ hj)
  · rw [look_upd] at h1 h2
    by_cases e1 : k = nx
    · subst e1
      rw [if_pos rfl] at h1
      injection h1 with h1
      subst h1
      rw [if_neg (fun e => hne e.symm)] at h2
      rw [ins_same] at hb
      rw [ins_ne _ _ (fun e => hne e.symm)]
      exact hsep k' o2 h2 (.inl ha) b hb
    · rw [if_neg e1] at h1
      rw [ins_ne _ _ e1] at hb
      by_cases e2 : k' = nx
      · subst e2
        rw [if_pos rfl] at h2
        injection h2 with h2
        subst h2
        rw [ins_same]
        intro hl
        exact hsep k o1 h1 (.inr ha) b hl hb
      · rw [if_neg e2] at h2
        rw [ins_ne _ _ e2]
        exact H.sep k k' o1 o2 h1 h2 hne ha b hb
  · rw [look_upd] at hk
    by_cases e : k = nx
    · omega
    · rw [if_neg e] at hk
      have := H.low k o' hk
      omega
  · rw [look_upd] at hk
    by_cases e : k = nx
    · rw [if_pos e] at hk
      injection hk with hk
      subst hk
      exact hsc
    · rw [if_neg e] at hk
      exact (H.sc k o' hk).mono (by omega) (fun j hj => ins_lt _ _ hj)

/-- A new name, of nothing. -/
theorem RelH.more (H : RelH ι B h nx w) (l : Loc) : RelH (ins ι nx l) B h (nx + 1) w := by
  refine ⟨fun k o' hk => ?_, fun k k' o1 o2 h1 h2 hne ha b hb => ?_, fun k o' hk => Nat.lt_succ_of_lt (H.low k o' hk), H.size, fun k o' hk => (H.sc k o' hk).mono (by omega) (fun j hj => ins_lt _ _ hj)⟩
  · rw [ins_lt _ _ (H.low k o' hk)]
    exact (H.obj k o' hk).names (H.sc k o' hk) (fun j hj => ins_lt _ _ hj)
  · rw [ins_lt _ _ (H.low k o1 h1)] at hb
    rw [ins_lt _ _ (H.low k' o2 h2)]
    exact H.sep k k' o1 o2 h1 h2 hne ha b hb

theorem below_alloc (w : World) (o : Obj) : Below w.heap.size w (w.alloc o) := (Below.refl _ w).alloc (Nat.le_refl _) o

/-- A new block. -/
theorem RelH.new (H : RelH ι B h nx w) (ob : Obj) (o : AObj) (ho : ORel (ins ι nx (.at w.heap.size 0 0)) B (w.alloc ob) o (.at w.heap.size 0 0)) (hsc : OSc (ins ι nx (.at w.heap.size 0 0)) (nx + 1) o) :
    RelH (ins ι nx (.at w.heap.size 0 0)) B (upd h nx o) (nx + 1) (w.alloc ob) := by
  refine (H.ext (below_alloc w ob)).add o _ ho hsc (fun k o' hk _ b hb e => ?_)
  have h1 := (H.obj k o' hk).lt e
  have : w.heap.size = b := by simpa [Loc.blk] using hb
  omega

/-- One block written. -/
theorem RelH.set (H : RelH ι B h nx w) {k : Nat} {o o' : AObj} (hk : look h k = some o) (ha : o.alone = true) (ho : ORel ι B w' o' (ι k)) (hsc : OSc ι nx o') (_ha' : o'.alone = true)
    (hb : ∀ b, (ι k).blk ≠ some b → w'.heap[b]? = w.heap[b]?) (hs : w.heap.size ≤ w'.heap.size) : RelH ι B (upd h k o') nx w' := by
  refine ⟨fun j o1 hj => ?_, fun j j' o1 o2 h1 h2 hne hal b e => ?_, fun j o1 hj => ?_, Nat.le_trans H.size hs, fun j o1 hj => ?_⟩
  · rw [look_upd] at hj
    by_cases e : j = k
    · subst e
      rw [if_pos rfl] at hj
      injection hj with hj
      subst hj
      exact ho
    · rw [if_neg e] at hj
      refine (H.obj j o1 hj).keep (fun b eb => hb b ?_) hs
      intro ek
      exact H.sep k j o o1 hk hj (fun e' => e e'.symm) ha b ek eb
  · rw [look_upd] at h1 h2
    by_cases e1 : j = k
    · subst e1
      rw [if_neg (fun e => hne e.symm)] at h2
      exact H.sep j j' o o2 hk h2 hne ha b e
    · rw [if_neg e1] at h1
      by_cases e2 : j' = k
      · subst e2
        exact H.sep j j' o1 o h1 hk hne hal b e
      · rw [if_neg e2] at h2
        exact H.sep j j' o1 o2 h1 h2 hne hal b e
  · rw [look_upd] at hj
    by_cases e : j = k
    · subst e; exact H.low j o hk
    · rw [if_neg e] at hj; exact H.low j o1 hj
  · rw [look_upd] at hj
    by_cases e : j = k
    · rw [if_pos e] at hj
      injection hj with hj
      subst hj
      exact hsc
    · rw [if_neg e] at hj; exact H.sc j o1 hj
end
end Go.Aw
