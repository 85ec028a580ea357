/-
  Operations that lay or write cells, under one name. No condition.
-/
import Derived.Test.YtagdfcdnfdpocaaGreatAw8
set_option linter.unusedSimpArgs false
set_option linter.unusedVariables false
noncomputable section
namespace Go.Aw
open Go.RowKit

def rep (n : Nat) (zs : List Value) : List Value := (List.replicate n zs).flatten

theorem zeroCells_rep (z : Array Value) (n : Nat) : (Builtin.zeroCells z n).toList = rep n z.toList := by
  apply List.ext_getElem?
  intro i
  have hl : (rep n z.toList).length = n * z.size := by
    unfold rep
    induction n with
    | zero => simp
    | succ n ih => rw [List.replicate_succ, List.flatten_cons, List.length_append, ih, Nat.succ_mul, Array.length_toList]; omega
  have hg : ∀ n i, i < n * z.size → (rep n z.toList)[i]? = z[i % z.size]? := by
    intro n
    induction n with
    | zero => intro i hi; omega
    | succ n ih =>
      intro i hi
      unfold rep
      rw [List.replicate_succ, List.flatten_cons]
      by_cases h : i < z.size
      · rw [List.getElem?_append_left (by simpa using h), Nat.mod_eq_of_lt h, Array.getElem?_toList]
      · rw [List.getElem?_append_right (by simpa using Nat.le_of_not_lt h)]
        rw [Nat.succ_mul] at hi
        have := ih (i - z.size) (by omega)
        rw [show (List.replicate n z.toList).flatten = rep n z.toList from rfl, Array.length_toList, this]
        congr 1
        conv => rhs; rw [show i = (i - z.size) + z.size by omega, Nat.add_mod_right]
  by_cases h : i < n * z.size
  · rw [hg n i h]
    have h0 : 0 < z.size := Nat.pos_of_ne_zero (fun e => by rw [e] at h; omega)
    have hlt := Nat.mod_lt i h0
    simp [Builtin.zeroCells, List.getElem?_range h, hlt]
  · have e1 : (Builtin.zeroCells z n).toList.length = n * z.size := by rw [Array.length_toList, size_zeroCells]
    rw [List.getElem?_eq_none (by omega), List.getElem?_eq_none (by omega)]


abbrev KE := Value → Heap → Nat → Prop

def vstore (T : Tab) (h : Heap) (nx : Nat) (t : TypeId) (x v : Value) (K : KE) : Prop :=
  match x with
  | .pointer (some ⟨k, o, none⟩) =>
    (match look T t, look h k with
    | some ti, some (.cells true _ sz cs) =>
      (match Nat.beq v.cells.size ti.size, (match v with | .tuple _ => false | _ => true) with
      | true, true => must (Nat.ble (o + v.cells.size) cs.length) (K undef (upd h k (.cells true false sz (putN cs o v.cells.toList))) nx)
      | _, _ => False)
    | _, _ => False)
  | _ => False

def vbox (h : Heap) (nx : Nat) (v : Value) (K : KE) : Prop :=
  match v with
  | .tuple _ => False
  | v => K (.pointer (some ⟨nx, 0, none⟩)) (upd h nx (.cells true false 1 v.cells.toList)) (nx + 1)

def valloc (T : Tab) (h : Heap) (nx : Nat) (t : TypeId) (K : KE) : Prop :=
  match look T t with
  | some ti => K (.pointer (some ⟨nx, 0, none⟩)) (upd h nx (.cells true false 1 ti.zv.cells.toList)) (nx + 1)
  | none => False

def vbuildSlice (T : Tab) (h : Heap) (nx : Nat) (t : TypeId) (len : Nat) (ps : List (Nat × Value)) (K : KE) : Prop :=
  match look T t with
  | some { kind := .sl e, .. } =>
    (match look T e with
    | some ei =>
      (match Nat.ble (len * ei.size) 1000000, aggParts ps with
      | true, true =>
        (match fillL (fun i => some (i * ei.size, ei.size)) ps (rep len ei.zv.cells.toList) with
        | some cells => K (.slice (some ⟨nx, 0, none⟩) len len) (upd h nx (.cells true false ei.size cells)) (nx + 1)
        | none => False)
      | _, _ => False)
    | none => False)
  | _ => False

section
variable {P : Program} {T : Tab} {ι : Nat → Loc} {B nx : Nat} {h : Heap}

/-- What an effect leaves behind. -/
def Does (P : Program) (ι : Nat → Loc) (B nx : Nat) (w : World) (m : Sem Value) (K : KE) : Prop :=
  ∃ v h' nx' ι' w', K v h' nx' ∧ scT ι' nx' v ∧ RelH ι' B h' nx' w' ∧ Below B w w' ∧ (∀ k, k < nx → ι' k = ι k) ∧ nx ≤ nx' ∧ m.run P w = .ok (tr ι' v) w'

theorem scA_of_T {v : Value} (h1 : ∀ c, v ≠ .tuple c) (h2 : scT ι nx v) : scA ι nx v := by
  cases v with
  | tuple c => exact absurd rfl (h1 c)
  | _ => exact h2

theorem scA_cells {v : Value} (hv : scA ι nx v) : ∀ u ∈ v.cells.toList, scS ι nx u := by
  intro u hu
  cases v with
  | agg c => exact hv u hu
  | _ =>
    simp only [Value.cells, List.mem_singleton] at hu
    subst hu
    exact hv

theorem vstore_ok (hT : TabOK P T) {t : TypeId} {x v : Value} {K : KE} (hl : vstore T h nx t x v K) (hv : scT ι nx v) {w : World} (H : RelH ι B h nx w) :
    ∃ h' w', K undef h' nx ∧ RelH ι B h' nx w' ∧ Below B w w' ∧ (Instr.storeAt t (tr ι x) (tr ι v)).run P w = .ok () w' := by
  unfold vstore at hl
  split at hl
  case h_2 => exact hl.elim
  rename_i k o
  split at hl
  case h_2 => exact hl.elim
  rename_i ti g sz cs ht hk
  split at hl
  case h_2 => exact hl.elim
  rename_i hsz htup
  obtain ⟨hb, hK⟩ := must_iff.1 hl
  have hti := hT t _ ht
  have hsz := Nat.eq_of_beq_eq_true hsz
  have hb := Nat.le_of_ble_eq_true hb
  have hvA : scA ι nx v := scA_of_T (fun c e => by rw [e] at htup; cases htup) hv
  have hp := hti.pos
  obtain ⟨b, off, e, w', hι, hrun, hbel, hrel⟩ := H.put (P := P) hk (o := o) (vs := v.cells.toList) (by simpa using hb) (scA_cells hvA) (by
    intro e
    have : v.cells.size = 0 := by rw [← Array.length_toList, e]; rfl
    omega)
  refine ⟨_, w', hK, hrel, hbel, ?_⟩
  have hc := cells_tr hvA
  simp only [tr_pointer, hι, Instr.storeAt, Instr.sureAddr, Sem.run_bind, Sem.run_pure, Result.andThen_ok, storeVar, hti.sizeOf]
  rw [hc]
  simp only [Array.size_map, hsz, ne_eq, not_true_eq_false, if_false, Sem.run_ite, Array.toList_map]
  simpa using hrun

theorem vbox_ok {t : TypeId} {v : Value} {K : KE} (hl : vbox h nx v K) (hv : scT ι nx v) {w : World} (H : RelH ι B h nx w) : Does P ι B nx w (Instr.box t (tr ι v)) K := by
  have hK : (∀ c, v ≠ .tuple c) ∧ K (.pointer (some ⟨nx, 0, none⟩)) (upd h nx (.cells true false 1 v.cells.toList)) (nx + 1) := by
    unfold vbox at hl
    split at hl
    · exact hl.elim
    · rename_i hne; exact ⟨hne, hl⟩
  obtain ⟨hne, hK⟩ := hK
  have hvA := scA_of_T hne hv
  have hf := H.fresh t (tr ι v).cells v.cells.toList 1 (by rw [cells_tr hvA]; simp) (scA_cells hvA)
  refine ⟨_, _, _, _, _, hK, ?_, hf, ?_, fun k hk => ins_lt _ _ hk, by omega, ?_⟩
  · simp [scT, scA, scS, scP, ins_same, Loc.isAt]
  · exact (below_alloc w _).mono H.size
  · simp [Instr.box, newVar, newRow, tr_pointer, ins_same]

theorem zv_cells (hT : TabOK P T) {t : TypeId} {ti : TyI} (ht : look T t = some ti) : (∀ u ∈ ti.zv.cells.toList, gS u = true) := by
  have hg := (hT t _ ht).zg
  intro u hu
  cases hz : ti.zv with
  | agg c => rw [hz] at hu hg; exact allG_mem hg hu
  | _ =>
    rw [hz] at hu hg
    simp only [Value.cells, List.mem_singleton] at hu
    subst hu
    exact hg

theorem map_trS_of {l : List Value} (h : ∀ u ∈ l, gS u = true) : l.map (trS ι) = l := map_trS_g (allG_of h)

theorem valloc_ok (hT : TabOK P T) {t : TypeId} {K : KE} (hl : valloc T h nx t K) {w : World} (H : RelH ι B h nx w) : Does P ι B nx w (Instr.alloc t true (.tuple #[])) K := by
  unfold valloc at hl
  split at hl
  case h_2 => exact hl.elim
  rename_i ti ht
  have hti := hT t _ ht
  have hz := zv_cells hT ht
  have hf := H.fresh t ti.zv.cells ti.zv.cells.toList 1 (by rw [map_trS_of hz]) (fun v hv => scS_g (hz v hv))
  refine ⟨_, _, _, _, _, hl, ?_, hf, ?_, fun k hk => ins_lt _ _ hk, by omega, ?_⟩
  · simp [scT, scA, scS, scP, ins_same, Loc.isAt]
  · exact (below_alloc w _).mono H.size
  · simp [Instr.alloc, hti.zero, newVar, newRow, tr_pointer, ins_same]

theorem vbuildSlice_ok (hT : TabOK P T) {t : TypeId} {len : Nat} {ps : List (Nat × Value)} {K : KE} (hl : vbuildSlice T h nx t len ps K) (hs : ∀ p ∈ ps, scT ι nx p.2) {w : World} (H : RelH ι B h nx w) :
    Does P ι B nx w (Instr.buildSlice t len (ps.map fun p => (p.1, tr ι p.2)).toArray) K := by
  unfold vbuildSlice at hl
  split at hl
  case h_2 => exact hl.elim
  rename_i e s1 b1 z1 ht
  split at hl
  case h_2 => exact hl.elim
  rename_i ei he
  split at hl
  case h_2 => exact hl.elim
  rename_i hsz hap
  have hsz := Nat.le_of_ble_eq_true hsz
  have hs' := aggParts_spec hap hs
  have hti := hT t _ ht
  have hei := hT e _ he
  split at hl
  case h_2 => exact hl.elim
  rename_i lcells hfill0
  have hzs : ei.zv.cells.size = ei.size := hei.zs
  have hrep0 : ((Array.range (len * ei.size)).map ((if len * ei.size = 0 then #[] else ei.zv.cells)[· % (if len * ei.size = 0 then (#[] : Array Value) else ei.zv.cells).size]!)).toList = rep len ei.zv.cells.toList := by
    rw [← zeroCells_rep]
    unfold Builtin.zeroCells
    rw [hzs]
    by_cases h0 : len * ei.size = 0
    · rw [h0]; simp
    · rw [if_neg h0, hzs]
  obtain ⟨cells, hce⟩ : ∃ cells : Array Value, cells = lcells.toArray := ⟨_, rfl⟩
  have hfill : Instr.fill (fun i => some (i * ei.size, ei.size)) ((Array.range (len * ei.size)).map ((if len * ei.size = 0 then #[] else ei.zv.cells)[· % (if len * ei.size = 0 then (#[] : Array Value) else ei.zv.cells).size]!)) ps = some cells := by
    rw [hce]; exact fillL_ok _ _ _ _ _ hrep0 hfill0
  have hl0 : lcells = cells.toList := by rw [hce]
  rw [hl0] at hl
  have hz := zv_cells hT he
  generalize hz0 : (if len * ei.size = 0 then (#[] : Array Value) else ei.zv.cells) = z0 at hfill
  have hz0g : ∀ u ∈ z0.toList, gS u = true := by
    subst hz0
    split
    · intro u hu; simp at hu
    · exact hz
  have hrow : ∀ u ∈ ((Array.range (len * ei.size)).map (z0[· % z0.size]!)).toList, gS u = true := by
    intro u hu
    simp only [Array.toList_map, List.mem_map] at hu
    obtain ⟨j, hj, rfl⟩ := hu
    by_cases h0 : z0.size = 0
    · have : j < len * ei.size := by simpa using hj
      have : len * ei.size ≠ 0 := by omega
      subst hz0
      rw [if_neg this] at h0
      have := hei.zs
      have := hei.pos
      omega
    · have hlt : j % z0.size < z0.size := Nat.mod_lt _ (by omega)
      have e1 : z0[j % z0.size]! = z0[j % z0.size] := getElem!_pos z0 _ hlt
      rw [e1]
      exact hz0g _ (by simp)
  have hfm := fill_map (ι := ι) (nx := nx) _ ps _ cells hs' hfill
  have hrm : ((Array.range (len * ei.size)).map (z0[· % z0.size]!)).map (trS ι) = (Array.range (len * ei.size)).map (z0[· % z0.size]!) := by
    apply Array.ext'
    rw [Array.toList_map, map_trS_of hrow]
  rw [hrm] at hfm
  have hcs : ∀ v ∈ cells.toList, scS ι nx v := fill_mem _ (scS ι nx) ps _ cells (fun v hv => scS_g (hrow v hv)) (fun p hp v hv => scA_cells (hs' p hp) v hv) hfill
  have hf := H.fresh e (cells.map (trS ι)) cells.toList ei.size (by simp) hcs
  refine ⟨_, _, _, _, _, hl, ?_, hf, ?_, fun k hk => ins_lt _ _ hk, by omega, ?_⟩
  · simp [scT, scA, scS, scP, ins_same, Loc.isAt]
  · exact (below_alloc w _).mono H.size
  · simp only [Instr.buildSlice, Sem.run_bind, run_underlying (hti.sl rfl), Result.andThen_ok, hei.sizeOf, Sem.run_ite]
    rw [if_neg (by omega)]
    by_cases h0 : len * ei.size = 0
    · rw [if_pos h0] at hz0
      subst hz0
      simp only [h0, if_true, Sem.run_pure, Result.andThen_ok] at hfm ⊢
      rw [hfm]
      simp [newRow, tr, trA, trS, trP, ins_same]
    · rw [if_neg h0] at hz0
      subst hz0
      simp only [h0, if_false, Sem.run_bind, hei.zero, Result.andThen_ok, Sem.run_pure, hfm]
      simp [newRow, tr, trA, trS, trP, ins_same]
end
end Go.Aw
