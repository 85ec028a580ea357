/-
  Operations that only look: what each yields, and that the machine yields the same. No condition.
-/
import Derived.Test.YtagdfcdnfdpocaaGreatAw3
set_option linter.unusedSimpArgs false
set_option linter.unusedVariables false
noncomputable section
namespace Go.Aw
open Go.RowKit

def kNum : IntKind → Nat
  | .i8 => 0 | .i16 => 1 | .i32 => 2 | .i64 => 3 | .u8 => 4 | .u16 => 5 | .u32 => 6 | .u64 => 7
def kEq (a b : IntKind) : Bool := Nat.beq (kNum a) (kNum b)
theorem kEq_true {a b : IntKind} (h : kEq a b = true) : a = b := by
  have := Nat.eq_of_beq_eq_true h
  cases a <;> cases b <;> first | rfl | (simp [kNum] at this)

theorem map_getElem?_some {l : List Value} {f : Value → Value} {j : Nat} {v : Value} (hj : (l.map f)[j]? = some v) : ∃ u, l[j]? = some u ∧ v = f u := by
  rw [List.getElem?_map] at hj
  cases hl : l[j]? with
  | none => rw [hl] at hj; cases hj
  | some u => rw [hl] at hj; injection hj with hj; exact ⟨u, rfl, hj.symm⟩

/-- An operation that looks: in every world where the heap lies, it yields this value, and the world stays. -/
def Looks (P : Program) (ι : Nat → Loc) (B nx : Nat) (h : Heap) (m : Sem Value) (v : Value) : Prop :=
  scA ι nx v ∧ ∀ w, RelH ι B h nx w → m.run P w = .ok (tr ι v) w

section
variable {P : Program} {T : Tab} {ι : Nat → Loc} {B nx : Nat} {h : Heap}

theorem RelH.cell {w : World} (H : RelH ι B h nx w) {k : Nat} {wr g : Bool} {sz : Nat} {cs : List Value} (hk : look h k = some (.cells wr g sz cs)) {i : Nat} {v : Value} (hv : cs[i]? = some v) :
    ∃ b o e, ι k = .at b o e ∧ w.cell? ⟨b, o + i, none⟩ = some (trS ι v) := by
  have ho := H.obj k _ hk
  cases hl : ι k with
  | nil =>
    rw [hl] at ho
    have : cs = [] := ho
    subst this
    simp at hv
  | «at» b o e =>
    rw [hl] at ho
    refine ⟨b, o, e, rfl, ?_⟩
    cases wr with
    | true =>
      obtain ⟨_, _, arr, t, h1, _, h2⟩ := ho
      simp [World.cell?, h1, h2 i v hv]
    | false => exact ho.2.2 i v hv
theorem RelH.scell {w : World} (H : RelH ι B h nx w) {k : Nat} {wr g : Bool} {sz : Nat} {cs : List Value} (hk : look h k = some (.cells wr g sz cs)) {v : Value} (hv : v ∈ cs) : scS ι nx v := H.sc k _ hk v hv

theorem RelH.cells {w : World} (H : RelH ι B h nx w) {k : Nat} {wr g : Bool} {sz : Nat} {cs : List Value} (hk : look h k = some (.cells wr g sz cs)) {o n : Nat} {l : List Value} (hn : getN cs o n = some l) (h0 : 0 < n) :
    ∃ b off e, ι k = .at b off e ∧ (∀ v ∈ l, scS ι nx v) ∧ (loadCells ⟨b, off + o, none⟩ n).run P w = .ok (l.map (trS ι)).toArray w := by
  obtain ⟨hlen, hat⟩ := getN_spec hn
  obtain ⟨_, v0, hv0⟩ := hat 0 h0
  obtain ⟨b, off, e, hι, _⟩ := H.cell hk hv0
  refine ⟨b, off, e, hι, fun v hv => ?_, ?_⟩
  · obtain ⟨j, hj⟩ := List.getElem?_of_mem hv
    have hjl : j < n := by
      have := (List.getElem?_eq_some_iff.1 hj).1; omega
    rw [(hat j hjl).1] at hj
    exact H.scell hk (List.mem_of_getElem? hj)
  · have hcells := run_loadCells_list (P := P) w ⟨b, off + o, none⟩ (l.map (trS ι)) (fun j v hj => by
      obtain ⟨u, hu, rfl⟩ := map_getElem?_some hj
      have hjl : j < n := by
        have := (List.getElem?_eq_some_iff.1 hu).1; omega
      rw [(hat j hjl).1] at hu
      obtain ⟨b', off', e', hι', hc⟩ := H.cell hk hu
      rw [hι] at hι'
      injection hι' with e1 e2 e3
      subst e1; subst e2
      rw [Addr.add_lit, Nat.add_assoc]
      exact hc)
    rwa [List.length_map, hlen] at hcells

theorem tr_pointer {k o : Nat} : tr ι (.pointer (some ⟨k, o, none⟩)) = .pointer (match ι k with | .nil p => p | .at b off _ => some ⟨b, off + o, none⟩) := rfl
theorem tr_int (k : IntKind) (n : Int) : tr ι (.int k n) = .int k n := rfl
theorem tr_bool (b : Bool) : tr ι (.bool b) = .bool b := rfl
theorem tr_string (b : ByteArray) : tr ι (.string b) = .string b := rfl
theorem tr_agg (cs : Array Value) : tr ι (.agg cs) = .agg (cs.map (trS ι)) := rfl
theorem tr_slice_none (n c : Nat) : tr ι (.slice none n c) = .slice none n c := rfl

/-! ### load -/
def vload (T : Tab) (h : Heap) (t : TypeId) (x : Value) (K : Value → Prop) : Prop :=
  match x with
  | .pointer (some ⟨k, o, none⟩) =>
    match look T t, look h k with
    | some ti, some (.cells _ _ _ cs) =>
      match ti.isAgg with
      | true => (match getN cs o ti.size with | some l => K (.agg l.toArray) | none => False)
      | false => (match nth cs o with | some v => K v | none => False)
    | _, _ => False
  | _ => False

theorem vload_ok (hT : TabOK P T) {t : TypeId} {x : Value} {K : Value → Prop} (hl : vload T h t x K) {w0 : World} (H0 : RelH ι B h nx w0) :
    ∃ v, K v ∧ Looks P ι B nx h (Instr.loadAt t (tr ι x)) v := by
  unfold vload at hl
  split at hl
  case h_2 => exact hl.elim
  rename_i k o
  split at hl
  case h_2 => exact hl.elim
  rename_i ti wr g sz cs ht hk
  have hti := hT t ti ht
  split at hl
  · rename_i hagg
    split at hl
    case h_2 => exact hl.elim
    rename_i l hn
    obtain ⟨_, _, _, _, hsc, _⟩ := H0.cells (P := P) hk hn hti.pos
    refine ⟨_, hl, fun v hv => hsc v (by simpa using hv), fun w H => ?_⟩
    obtain ⟨b, off, e, hι, _, hrun⟩ := H.cells (P := P) hk hn hti.pos
    simp only [tr_pointer, hι, Instr.loadAt, Instr.sureAddr, loadVar, Sem.run_bind, Sem.run_pure, Result.andThen_ok, hti.isAgg, hagg, if_true, hti.sizeOf, hrun, tr_agg]
    simp
  · rename_i hagg
    split at hl
    case h_2 => exact hl.elim
    rename_i v hn
    rw [nth_eq] at hn
    have hs := H0.scell hk (List.mem_of_getElem? hn)
    refine ⟨v, hl, scA_of_S hs, fun w H => ?_⟩
    obtain ⟨b, off, e, hι, hc⟩ := H.cell hk hn
    simp only [tr_of_S hs]
    simp only [tr_pointer, hι, Instr.loadAt, Instr.sureAddr, loadVar, Sem.run_bind, Sem.run_pure, Result.andThen_ok, hti.isAgg, hagg, Bool.false_eq_true, if_false]
    simp [hc]

/-! ### addresses -/
def vfieldAddr (T : Tab) (st : TypeId) (x : Value) (f : Nat) (K : Value → Prop) : Prop :=
  match x, look T st with
  | .pointer (some ⟨k, o, none⟩), some { kind := .st fs, .. } =>
    match fs[f]? with
    | some (off, ft) => (match look T ft with | some _ => K (.pointer (some ⟨k, o + off, none⟩)) | none => False)
    | none => False
  | _, _ => False

theorem fields_at {f : Array Field} {fs : List (Nat × TypeId)} (hf : f.toList.map (fun f => (f.offset, f.type)) = fs) {i off : Nat} {ft : TypeId} (h : fs[i]? = some (off, ft)) :
    ∃ x, f[i]? = some x ∧ x.offset = off ∧ x.type = ft := by
  subst hf
  rw [List.getElem?_map] at h
  cases hx : f[i]? with
  | none => simp [hx] at h
  | some x =>
    simp [hx] at h
    exact ⟨x, rfl, h.1, h.2⟩

theorem vfieldAddr_ok (hT : TabOK P T) {t : TypeId} {x : Value} {i : Nat} {K : Value → Prop} (hl : vfieldAddr T t x i K) (hx : scA ι nx x) :
    ∃ v, K v ∧ Looks P ι B nx h (Instr.fieldAt t (tr ι x) i) v := by
  unfold vfieldAddr at hl
  split at hl
  case h_2 => exact hl.elim
  rename_i k o fs si by_ zv ht
  split at hl
  case h_2 => exact hl.elim
  rename_i off ft hf
  split at hl
  case h_2 => exact hl.elim
  rename_i fi hft
  have hti := hT t _ ht
  obtain ⟨f, hd, hfs, _⟩ := hti.st rfl
  obtain ⟨y, hy, ho, hyt⟩ := fields_at hfs hf
  have hft' := hT ft _ hft
  have hx' : k < nx ∧ (ι k).isAt = true := hx
  refine ⟨_, hl, hx', fun w H => ?_⟩
  cases hι : ι k with
  | nil p => rw [hι] at hx'; cases hx'.2
  | «at» b off' e =>
    have hp := hft'.pos
    simp only [tr_pointer, hι, Instr.fieldAt, Sem.run_bind, run_underlying hd, Result.andThen_ok, hy, Instr.sureAddr, Sem.run_pure, fieldPlace, hyt, hft'.sizeOf, Sem.run_ite, ho]
    rw [if_neg (by omega)]
    simp [Addr.add_lit, Nat.add_assoc]

def vindexAddr (A : Ar) (T : Tab) (t : TypeId) (x ix : Value) (K : Value → Prop) : Prop :=
  match look T t, x, ix with
  | some { kind := .sl e, .. }, .slice (some ⟨k, o, none⟩) n _, .int _ i =>
    (match look T e with | some ei => must (A.andB (A.le 0 i) (A.lt i (A.num n))) (K (.pointer (some ⟨k, A.ix o i ei.size, none⟩))) | none => False)
  | some { kind := .ar n e, .. }, .pointer (some ⟨k, o, none⟩), .int _ i =>
    (match look T e with | some ei => must (A.andB (A.le 0 i) (A.lt i (A.num n))) (K (.pointer (some ⟨k, A.ix o i ei.size, none⟩))) | none => False)
  | _, _, _ => False

theorem vindexAddr_ok (hT : TabOK P T) {t : TypeId} {x ix : Value} {K : Value → Prop} (hl : vindexAddr std T t x ix K) (hx : scA ι nx x) :
    ∃ v, K v ∧ Looks P ι B nx h (Instr.indexAt t (tr ι x) (tr ι ix)) v := by
  unfold vindexAddr at hl
  split at hl
  case h_3 => exact hl.elim
  · rename_i e s1 b1 z1 k o n c kk i ht
    split at hl
    case h_2 => exact hl.elim
    rename_i ei he
    obtain ⟨hb, hK⟩ := must_iff.1 hl
    simp only [std, Bool.and_eq_true, decide_eq_true_eq] at hb
    have hti := hT t _ ht
    have hei := hT e _ he
    have hx' : k < nx ∧ ((ι k).isAt = false → n = 0 ∧ c = 0) := hx
    have hnil : (ι k).isAt = true := by
      cases e : (ι k).isAt with
      | true => rfl
      | false => have := (hx'.2 e).1; omega
    refine ⟨_, hK, ⟨hx'.1, hnil⟩, fun w H => ?_⟩
    cases hι : ι k with
    | nil p => rw [hι] at hnil; cases hnil
    | «at» b off' ex =>
      have hs := hti.sl rfl
      simp only [tr_pointer, hι, Instr.indexAt, tr, trA, trS, trP, Sem.run_bind, asIntOf, Sem.run_pure, Result.andThen_ok, run_underlying hs, hb.1, hb.2, and_self, if_true, hei.sizeOf, Addr.add_lit, std, Nat.add_assoc]
  · rename_i n e s1 b1 z1 k o kk i ht
    split at hl
    case h_2 => exact hl.elim
    rename_i ei he
    obtain ⟨hb, hK⟩ := must_iff.1 hl
    simp only [std, Bool.and_eq_true, decide_eq_true_eq] at hb
    have hti := hT t _ ht
    have hei := hT e _ he
    have hx' : k < nx ∧ (ι k).isAt = true := hx
    refine ⟨_, hK, hx', fun w H => ?_⟩
    cases hι : ι k with
    | nil p => rw [hι] at hx'; cases hx'.2
    | «at» b off' ex =>
      have hs := hti.ar rfl
      simp only [tr_pointer, hι, Instr.indexAt, tr, trA, trS, trP, Sem.run_bind, asIntOf, Instr.sureAddr, Sem.run_pure, Result.andThen_ok, run_underlying hs, hb.1, hb.2, and_self, if_true, hei.sizeOf, Addr.add_lit, std, Nat.add_assoc]
end
end Go.Aw
