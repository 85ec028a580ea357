/-
  Appending: the two sides together. No condition.
-/
import Derived.Test.YtagdfcdnfdpocaaGreatAw11
set_option linter.unusedSimpArgs false
set_option linter.unusedVariables false
noncomputable section
namespace Go.Aw
open Go.RowKit


def vsrc (h : Heap) (sz : Nat) (x : Value) (G : Nat → List Value → Prop) : Prop :=
  match x with
  | .slice none 0 0 => G 0 []
  | .slice (some ⟨k, o, none⟩) m _ =>
    (match look h k with
    | some (.cells _ _ _ cs) => must (Nat.ble (o + m * sz) cs.length) (G m ((cs.drop o).take (m * sz)))
    | some .zero => (match m with | 0 => G 0 [] | _ => False)
    | _ => False)
  | _ => False

/-- make([]T, l, c) -/
def vmakeSlice (A : Ar) (T : Tab) (h : Heap) (nx : Nat) (t : TypeId) (l c : Value) (K : KE) : Prop :=
  match look T t, l, c with
  | some { kind := .sl e, .. }, .int .i64 i, .int .i64 j =>
    (match look T e with
    | some ei => must (A.andB (A.andB (A.le 0 i) (A.le i j)) (A.andB (A.le j 1000000000) (Nat.ble ei.bytes 1000)))
        (K (.slice (some ⟨nx, 0, none⟩) (A.toN i) (A.toN j)) (upd h nx (.cells true false ei.size (rep (A.toN j) ei.zv.cells.toList))) (nx + 1))
    | none => False)
  | _, _, _ => False

def vappend (A : Ar) (T : Tab) (h : Heap) (nx : Nat) (st xt : TypeId) (s x : Value) (K : KE) : Prop :=
  match look T st, look T xt with
  | some { kind := .sl e, .. }, some { kind := .int _, .. } =>
    (match look T e with
    | some ei => (match s, x, Nat.ble ei.bytes 1000 with
      | .slice none 0 0, .int .i64 i, true => must (A.andB (A.lt 0 i) (A.le i 1000000000)) (K (.slice (some ⟨nx, 0, none⟩) (A.toN i) (A.toN i)) (upd h nx (.cells true false ei.size (rep (A.toN i) ei.zv.cells.toList))) (nx + 1))
      | _, _, _ => False)
    | none => False)
  | some { kind := .sl e, .. }, some { kind := .sl _, .. } =>
    (match look T e with
    | none => False
    | some ei =>
      match Nat.ble ei.bytes 1000 with
      | false => False
      | true =>
        vsrc h ei.size x fun m src =>
          (match s with
          | .slice none 0 0 => br (Nat.beq m 0) (fun _ => K (.slice none 0 0) h nx)
              (fun _ => must (Nat.ble m 1000000000) (K (.slice (some ⟨nx, 0, none⟩) m m) (upd h nx (.cells true false ei.size src)) (nx + 1)))
          | .slice (some ⟨k, o, none⟩) n c =>
            (match look h k with
            | some .zero => (match n, c with
              | 0, 0 => br (Nat.beq m 0) (fun _ => K (.slice (some ⟨k, o, none⟩) 0 0) h nx)
                  (fun _ => must (Nat.ble m 1000000000) (K (.slice (some ⟨nx, 0, none⟩) m m) (upd h nx (.cells true false ei.size src)) (nx + 1)))
              | _, _ => False)
            | some (.cells true _ sz cs) =>
              br (Nat.ble (n + m) c)
                (fun _ => must (Nat.ble (o + (n + m) * ei.size) cs.length) (K (.slice (some ⟨k, o, none⟩) (n + m) c) (upd h k (.cells true false sz (putN cs (o + n * ei.size) src))) nx))
                (fun _ => must (A.andB (A.andB (Nat.ble (n + m) 1000000000) (Nat.ble (o + n * ei.size) cs.length)) (A.andB (Nat.beq (o + c * ei.size) cs.length) (Nat.beq sz ei.size)))
                  (K (.slice (some ⟨nx, 0, none⟩) (n + m) (n + m)) (upd (rem h k) nx (.cells true false ei.size ((cs.drop o).take (n * ei.size) ++ src))) (nx + 1)))
            | _ => False)
          | _ => False))
  | _, _ => False

section
variable {P : Program} {T : Tab} {ι : Nat → Loc} {B nx : Nat} {h : Heap}

theorem RelH.drawn {w : World} (H : RelH ι B h nx w) (c : Nat) : RelH ι B h nx { w with drawn := c } :=
  H.ext ⟨rfl, rfl, rfl, Nat.le_refl _, fun _ _ => rfl⟩

theorem RelH.win {w : World} (H : RelH ι B h nx w) {k : Nat} {wr g : Bool} {sz : Nat} {cs : List Value} (hk : look h k = some (.cells wr g sz cs)) {b off e : Nat} (hι : ι k = .at b off e) {o n : Nat} (hl : o + n ≤ cs.length) :
    (loadCells ⟨b, off + o, none⟩ n).run P w = .ok (((cs.drop o).take n).map (trS ι)).toArray w := by
  have hlen : (((cs.drop o).take n).map (trS ι)).length = n := by simp; omega
  have := run_loadCells_list (P := P) w ⟨b, off + o, none⟩ (((cs.drop o).take n).map (trS ι)) (fun j v hj => by
    obtain ⟨u, hu, rfl⟩ := map_getElem?_some hj
    rw [List.getElem?_take] at hu
    split at hu
    case isFalse => cases hu
    rw [List.getElem?_drop] at hu
    obtain ⟨b', off', e', hι', hc⟩ := H.cell hk hu
    rw [hι] at hι'
    injection hι' with e1 e2 e3
    subst e1; subst e2
    rw [Addr.add_lit, Nat.add_assoc]
    exact hc)
  rwa [hlen] at this

theorem vsrc_ok {sz : Nat} {x : Value} {G : Nat → List Value → Prop} (hl : vsrc h sz x G) (hx : scT ι nx x) {w : World} (H : RelH ι B h nx w) :
    ∃ m src, G m src ∧ src.length = m * sz ∧ (∀ v ∈ src, scS ι nx v) ∧ Src P w sz (tr ι x) m (src.map (trS ι)) := by
  unfold vsrc at hl
  split at hl
  · exact ⟨0, [], hl, by simp, by simp, ⟨by simp [tr_slice_none, Builtin.lenOf], fun c => by simp [tr_slice_none, Builtin.firstCells]⟩⟩
  · rename_i k o m c
    have hx' : k < nx ∧ ((ι k).isAt = false → m = 0 ∧ c = 0) := hx
    split at hl
    · rename_i wr g sz' cs hk
      obtain ⟨hb, hG⟩ := must_iff.1 hl
      have hb := Nat.le_of_ble_eq_true hb
      refine ⟨m, _, hG, by simp; omega, fun v hv => H.sc k _ hk v (List.mem_of_mem_drop (List.mem_of_mem_take hv)), ?_⟩
      cases hι : ι k with
      | nil p =>
        obtain ⟨rfl, rfl⟩ := hx'.2 (by rw [hι]; rfl)
        refine ⟨by simp [tr, trA, trS, trP, hι, Builtin.lenOf], fun c => ?_⟩
        cases p with
        | none => simp [tr, trA, trS, trP, hι, Builtin.firstCells]
        | some p => simp [tr, trA, trS, trP, hι, Builtin.firstCells, loadCells, loadCellsFrom]
      | «at» b off e =>
        refine ⟨by simp [tr, trA, trS, trP, hι, Builtin.lenOf], fun c => ?_⟩
        simp only [tr, trA, trS, trP, hι, Builtin.firstCells]
        exact (H.drawn c).win hk hι hb
    · rename_i hk
      split at hl
      case h_2 => exact hl.elim
      refine ⟨0, [], hl, by simp, by simp, ?_⟩
      have hob := H.obj k _ hk
      cases hι : ι k with
      | nil p =>
        refine ⟨by simp [tr, trA, trS, trP, hι, Builtin.lenOf], fun c => ?_⟩
        cases p with
        | none => simp [tr, trA, trS, trP, hι, Builtin.firstCells]
        | some p => simp [tr, trA, trS, trP, hι, Builtin.firstCells, loadCells, loadCellsFrom]
      | «at» b off e => rw [hι] at hob; exact hob.elim
    · exact hl.elim
  · exact hl.elim

/-- The row that a growing append lays. -/
theorem RelH.grown {w : World} (H : RelH ι B h nx w) (e : TypeId) (cs : List Value) (sz cap need : Nat) (zs : List Value) (hz : zs.length = (cap - need) * sz) (hs : ∀ v ∈ cs, scS ι nx v) :
    RelH (ins ι nx (.at w.heap.size 0 (cap - need))) B (upd h nx (.cells true false sz cs)) (nx + 1) (w.alloc (.cells (cs.map (trS ι) ++ zs).toArray e)) := by
  refine (H.ext (below_alloc w _)).add _ _ ?_ ?_ (fun k o' hk _ b hb e' => ?_)
  · refine ⟨H.size, by simp, _, e, (MapKept.heap_alloc w _).1, by simp [hz], fun i v hv => ?_⟩
    have hlt := (List.getElem?_eq_some_iff.1 hv).1
    rw [Nat.zero_add, List.getElem?_toArray, List.getElem?_append_left (by simpa using hlt), List.getElem?_map, hv]
    simp only [Option.map_some]
    rw [trS_eq (ι := ι) (fun k hk => ins_lt _ _ hk) (hs v (List.mem_of_getElem? hv))]
  · intro v hv
    exact scS_mono (by omega) (fun k hk => ins_lt _ _ hk) (hs v hv)
  · have h1 := (H.obj k o' hk).lt e'
    have : w.heap.size = b := by simpa [Loc.blk] using hb
    omega

theorem putN_nil {cs : List Value} {o : Nat} : putN cs o [] = cs := by simp [putN]

theorem RelH.put' {w : World} (H : RelH ι B h nx w) {k : Nat} {g : Bool} {sz : Nat} {cs : List Value} (hk : look h k = some (.cells true g sz cs)) {b off e : Nat} (hι : ι k = .at b off e) {o : Nat} {vs : List Value} (ho : o + vs.length ≤ cs.length)
    (hs : ∀ v ∈ vs, scS ι nx v) :
    ∃ w', (storeCells ⟨b, off + o, none⟩ (vs.map (trS ι))).run P w = .ok () w' ∧ Below B w w' ∧ RelH ι B (upd h k (.cells true false sz (putN cs o vs))) nx w' := by
  by_cases hne : vs = []
  · subst hne
    refine ⟨w, by simp [storeCells], Below.refl _ _, ?_⟩
    rw [putN_nil]
    have hob := H.obj k _ hk
    rw [hι] at hob
    refine H.set hk rfl ?_ (fun v hv => H.scell hk hv) rfl (fun _ _ => rfl) (Nat.le_refl _)
    rw [hι]
    exact ⟨hob.1, by simp, hob.2.2⟩
  · obtain ⟨b', off', e', w', hι', h1, h2, h3⟩ := H.put (P := P) hk ho hs hne
    rw [hι] at hι'
    injection hι' with e1 e2 e3
    subst e1; subst e2
    exact ⟨w', h1, h2, h3⟩
end
end Go.Aw
