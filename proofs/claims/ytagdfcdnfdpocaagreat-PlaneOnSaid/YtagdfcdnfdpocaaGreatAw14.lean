/-
  Maps with keys of one struct of plain fields; clearing a slice. No condition.
-/
import Derived.Test.YtagdfcdnfdpocaaGreatAw13
set_option linter.unusedSimpArgs false
set_option linter.unusedVariables false
noncomputable section
namespace Go.Aw
open Go.RowKit

def keyFields (T : Tab) (cs : List Value) : List (Nat × TypeId) → Bool
  | [] => true
  | (o, t) :: r => match look T t, nth cs o with
    | some fi, some _ => (match fi.kind with
      | .int _ => keyFields T cs r
      | .bool => keyFields T cs r
      | _ => false)
    | _, _ => false

def vfind (A : Ar) (T : Tab) (kt : TypeId) (key : Value) : List (Value × Value) → Option (Option Value)
  | [] => some none
  | (k, v) :: r => match veq A T 100 kt key k with
    | none => none
    | some true => some (some v)
    | some false => vfind A T kt key r

def vmakeMap (h : Heap) (nx : Nat) (K : KE) : Prop := K (.map (some nx)) (upd h nx (.map [])) (nx + 1)

def vlookup (A : Ar) (T : Tab) (h : Heap) (t : TypeId) (x key : Value) (ok : Bool) (K : Value → Prop) : Prop :=
  match look T t, x, key with
  | some { kind := .mp kt et, .. }, .map (some k), .agg cs =>
    (match look T kt, look T et, look h k with
    | some { kind := .st fs, .. }, some ei, some (.map es) =>
      (match keyFields T cs.toList fs, allG cs.toList, vfind A T kt (.agg cs) es with
      | true, true, some r =>
        (match ok, r with
        | true, some v => K (.tuple #[v, .bool true])
        | true, none => K (.tuple #[ei.zv, .bool false])
        | false, some v => K v
        | false, none => K ei.zv)
      | _, _, _ => False)
    | _, _, _ => False)
  | _, _, _ => False

def vmapUpdate (A : Ar) (T : Tab) (h : Heap) (nx : Nat) (t : TypeId) (x key v : Value) (K : KE) : Prop :=
  match look T t, x, key, (match v with | .agg _ => false | .tuple _ => false | _ => true) with
  | some { kind := .mp kt _, .. }, .map (some k), .agg cs, true =>
    (match look T kt, look h k with
    | some { kind := .st fs, .. }, some (.map es) =>
      (match keyFields T cs.toList fs, allG cs.toList, vfind A T kt (.agg cs) es with
      | true, true, some none => K undef (upd h k (.map (es ++ [(.agg cs, v)]))) nx
      | _, _, _ => False)
    | _, _ => False)
  | _, _, _, _ => False

def vclear (T : Tab) (h : Heap) (nx : Nat) (t : TypeId) (x : Value) (K : KE) : Prop :=
  match look T t, x with
  | some { kind := .sl _, .. }, .slice none 0 0 => K (.tuple #[]) h nx
  | some { kind := .sl e, .. }, .slice (some ⟨k, o, none⟩) n _ =>
    (match n with
    | 0 => K (.tuple #[]) h nx
    | _ => (match look T e, look h k with
      | some ei, some (.cells true _ sz cs) => must (Nat.ble (o + n * ei.size) cs.length) (K (.tuple #[]) (upd h k (.cells true false sz (putN cs o (rep n ei.zv.cells.toList)))) nx)
      | _, _ => False))
  | _, _ => False

section
variable {P : Program} {T : Tab} {ι : Nat → Loc} {B nx : Nat} {h : Heap}

theorem checkKey_ok (hT : TabOK P T) {t : TypeId} {fs : List (Nat × TypeId)} {s1 b1 : Nat} {z1 : Value} (ht : look T t = some ⟨.st fs, s1, b1, z1⟩) {cs : Array Value} (hk : keyFields T cs.toList fs = true) (em : Bool) (d : Nat) (w : World) :
    (Instr.checkKey em (d + 2) t (.agg cs)).run P w = .ok () w := by
  have hti := hT t _ ht
  obtain ⟨f, hd, hfs, hn⟩ := hti.st rfl
  rw [show d + 2 = (d + 1) + 1 from rfl, Instr.checkKey]
  simp only [Sem.run_bind, run_underlying hd, Result.andThen_ok]
  rw [← Array.forIn_toList]
  subst hfs
  clear hd ht hti
  generalize f.toList = L at hk hn
  induction L with
  | nil => simp
  | cons x L ih =>
    have hname : x.name ≠ "_" := hn x (by simp)
    simp only [List.map_cons, keyFields] at hk
    split at hk
    case h_2 => cases hk
    rename_i fi v hfi hv
    have hleaf : (∃ d, P.underlying x.type = some d ∧ ((∃ k, d = .int k) ∨ d = .bool)) ∧ fi.isAgg = false ∧ keyFields T cs.toList (L.map fun f => (f.offset, f.type)) = true := by
      split at hk
      · rename_i k hki
        exact ⟨⟨_, (hT _ _ hfi).int hki, .inl ⟨_, rfl⟩⟩, by simp [TyI.isAgg, hki], hk⟩
      · rename_i hki
        exact ⟨⟨_, (hT _ _ hfi).bool hki, .inr rfl⟩, by simp [TyI.isAgg, hki], hk⟩
      · cases hk
    obtain ⟨⟨dd, hdd, hdk⟩, hagg, hk'⟩ := hleaf
    have e1 := run_part_one (P := P) hT hfi hagg hv w
    simp only [Array.toArray_toList] at e1
    have e2 : (Instr.checkKey em (d + 1) x.type v).run P w = .ok () w := by
      rw [Instr.checkKey]
      simp only [Sem.run_bind, run_underlying hdd, Result.andThen_ok]
      rcases hdk with ⟨k, rfl⟩ | rfl <;> simp
    simp only [List.forIn_cons, Sem.run_bind, hname, ne_eq, not_false_eq_true, if_true, e1, Result.andThen_ok, e2, Sem.run_pure]
    exact ih hk' (fun y hy => hn y (by simp [hy]))

theorem findAsking_ok (hT : TabOK P T) {kt : TypeId} {key : Value} : ∀ (ents : List MapEntry) (es : List (Value × Value)) (f : Value → Value) (r : Option Value) (i : Nat), (∀ e ∈ es, gA e.1 = true) →
    ents.map (fun e => (e.key, e.val)) = es.map (fun e => (e.1, f e.2)) → vfind std T kt key es = some r → ∀ w,
    ∃ j, (Instr.findAsking kt key ents i).run P w = .ok (r.map fun v => (j, f v)) w
  | [], es, f, r, i, hg, he, hr, w => by
    cases es with
    | nil => simp [vfind] at hr; subst hr; exact ⟨0, by simp [Instr.findAsking]⟩
    | cons a b => simp at he
  | e :: ents, es, f, r, i, hg, he, hr, w => by
    cases es with
    | nil => simp at he
    | cons a es =>
      obtain ⟨k, v⟩ := a
      simp only [List.map_cons, List.cons.injEq, Prod.mk.injEq] at he
      obtain ⟨⟨he1, he2⟩, he3⟩ := he
      simp only [vfind] at hr
      split at hr
      · cases hr
      · rename_i hq
        have : (Op.equal kt key k).run P w = .ok _ w := veq_ok (P := P) hT 100 _ _ _ _ hq 10000 (by omega) w
        injection hr with hr
        subst hr
        refine ⟨i, ?_⟩
        simp only [Instr.findAsking, Sem.run_bind, he1, this, Result.andThen_ok, if_true, Sem.run_pure, he2, Option.map_some]
      · rename_i hq
        have : (Op.equal kt key k).run P w = .ok _ w := veq_ok (P := P) hT 100 _ _ _ _ hq 10000 (by omega) w
        obtain ⟨j, hj⟩ := findAsking_ok hT ents es f r (i + 1) (fun e he => hg e (by simp [he])) he3 hr w
        refine ⟨j, ?_⟩
        simp only [Instr.findAsking, Sem.run_bind, he1, this, Result.andThen_ok, Bool.false_eq_true, if_false, hj]

theorem findKey_ok (hT : TabOK P T) {kt : TypeId} {fs : List (Nat × TypeId)} {s1 b1 : Nat} {z1 : Value} (ht : look T kt = some ⟨.st fs, s1, b1, z1⟩) {key : Value} {ents : List MapEntry} {es : List (Value × Value)} {f : Value → Value} {r : Option Value} (hg : ∀ e ∈ es, gA e.1 = true)
    (he : ents.map (fun e => (e.key, e.val)) = es.map (fun e => (e.1, f e.2))) (hr : vfind std T kt key es = some r) (w : World) :
    ∃ j, (Instr.findKey kt key ents).run P w = .ok (r.map fun v => (j, f v)) w := by
  obtain ⟨fl, hd, _, _⟩ := (hT kt _ ht).st rfl
  cases ents with
  | nil =>
    cases es with
    | nil => simp [vfind] at hr; subst hr; exact ⟨0, by simp [Instr.findKey, run_underlying hd, Instr.findNow]⟩
    | cons a b => simp at he
  | cons e ents =>
    obtain ⟨j, hj⟩ := findAsking_ok hT (e :: ents) es f r 0 hg he hr w
    exact ⟨j, by simp [Instr.findKey, run_underlying hd, Instr.findNow, Instr.sameNow, hj]⟩

theorem vmakeMap_ok {t : TypeId} {K : KE} (hl : vmakeMap h nx K) {w : World} (H : RelH ι B h nx w) : Does P ι B nx w (Instr.makeMap t none) K := by
  have hf := H.new (.map #[] 0) (.map []) ⟨H.size, #[], 0, (MapKept.heap_alloc w _).1, by simp, by simp⟩ (by intro e he; cases he)
  refine ⟨_, _, _, _, _, hl, ?_, hf, ?_, fun k hk => ins_lt _ _ hk, by omega, ?_⟩
  · simp [scT, scA, scS, scP, ins_same, Loc.isAt]
  · exact (below_alloc w _).mono H.size
  · simp [Instr.makeMap, tr, trA, trS, trP, ins_same]

theorem vlookup_ok (hT : TabOK P T) {t : TypeId} {x key : Value} {ok : Bool} {K : Value → Prop} (hl : vlookup std T h t x key ok K) (hx : scT ι nx x) {w0 : World} (H0 : RelH ι B h nx w0) :
    ∃ v, K v ∧ scT ι nx v ∧ ∀ w, RelH ι B h nx w → (Instr.lookup t (tr ι x) (tr ι key) ok).run P w = .ok (tr ι v) w := by
  unfold vlookup at hl
  split at hl
  case h_2 => exact hl.elim
  rename_i kt et s1 b1 z1 k cs ht
  split at hl
  case h_2 => exact hl.elim
  rename_i fs s2 b2 z2 ei es hkt het hk
  split at hl
  case h_2 => exact hl.elim
  rename_i r hkf hg hfind
  have htr : tr ι (.agg cs) = .agg cs := tr_g (by simpa [gT, gA] using hg)
  have hm := (hT t _ ht).mp rfl
  have hei := hT et _ het
  have hx' : k < nx ∧ (ι k).isAt = true := hx
  have hz : scA ι nx ei.zv := scA_g hei.zg
  have hrun : ∀ w, RelH ι B h nx w → (Instr.lookup t (tr ι (.map (some k))) (tr ι (.agg cs)) ok).run P w =
      .ok (if ok then .tuple #[(match r with | some v => trS ι v | none => ei.zv), .bool r.isSome] else (match r with | some v => trS ι v | none => ei.zv)) w := by
    intro w H
    have hob := H.obj k _ hk
    cases hι : ι k with
    | nil p => rw [hι] at hob; exact hob.elim
    | «at» b o e =>
      rw [hι] at hob
      obtain ⟨hB, ents, clock, h1, h2, h3⟩ := hob
      obtain ⟨j, hj⟩ := findKey_ok hT hkt h3 h2 hfind w
      have hck := checkKey_ok hT hkt hkf ents.isEmpty 9998 w
      have e1 : tr ι (.map (some k)) = .map (some b) := by simp [tr, trA, trS, trP, hι]
      rw [e1, htr]
      simp only [Instr.lookup, Sem.run_bind, run_underlying hm, Result.andThen_ok, MapKept.run_getObj_map h1, Sem.run_pure, hck, hj]
      cases r with
      | none => cases ok <;> simp [hei.zero]
      | some v => cases ok <;> simp
  have hsc : ∀ v, r = some v → scS ι nx v := by
    intro v hv
    subst hv
    have hos := H0.sc k _ hk
    clear hrun hl H0 hk
    induction es with
    | nil => simp [vfind] at hfind
    | cons a es ih =>
      obtain ⟨k', v'⟩ := a
      simp only [vfind] at hfind
      split at hfind
      · cases hfind
      · injection hfind with hfind
        injection hfind with hfind
        subst hfind
        exact hos (k', v') (by simp)
      · exact ih hfind (fun e he => hos e (by simp [he]))
  split at hl
  · rename_i v
    have hs := hsc v rfl
    refine ⟨_, hl, ?_, fun w H => ?_⟩
    · intro u hu
      simp at hu
      rcases hu with rfl | rfl
      · exact scA_of_S hs
      · simp [scA, scS, scP]
    · rw [hrun w H]
      have e2 : trA ι (.bool true) = .bool true := rfl
      simp [tr, trA_of_S hs, e2]
  · refine ⟨_, hl, ?_, fun w H => ?_⟩
    · intro u hu
      simp at hu
      rcases hu with rfl | rfl
      · exact hz
      · simp [scA, scS, scP]
    · rw [hrun w H]
      have : trA ι ei.zv = ei.zv := trA_g hei.zg
      simp [tr, this]
      simp [trA, trS, trP]
  · rename_i v
    have hs := hsc v rfl
    exact ⟨_, hl, scT_of_A (scA_of_S hs), fun w H => by rw [hrun w H, tr_of_S hs]; rfl⟩
  · exact ⟨_, hl, scT_of_A hz, fun w H => by rw [hrun w H, tr_of_A hz, trA_g hei.zg]; rfl⟩

theorem vmapUpdate_ok (hT : TabOK P T) {t : TypeId} {x key v : Value} {K : KE} (hl : vmapUpdate std T h nx t x key v K) (hx : scT ι nx x) (hv : scT ι nx v) {w : World} (H : RelH ι B h nx w) :
    ∃ h' w', K undef h' nx ∧ RelH ι B h' nx w' ∧ Below B w w' ∧ (Instr.mapUpdate t (tr ι x) (tr ι key) (tr ι v)).run P w = .ok () w' := by
  unfold vmapUpdate at hl
  split at hl
  case h_2 => exact hl.elim
  rename_i kt et s1 b1 z1 k cs ht hag
  split at hl
  case h_2 => exact hl.elim
  rename_i fs s2 b2 z2 es hkt hk
  split at hl
  case h_2 => exact hl.elim
  rename_i hkf hg hfind
  have hvS : scS ι nx v := by
    cases v <;> first | exact hv | (simp at hag)
  have htr : tr ι (.agg cs) = .agg cs := tr_g (by simpa [gT, gA] using hg)
  have hm := (hT t _ ht).mp rfl
  have hob := H.obj k _ hk
  cases hι : ι k with
  | nil p => rw [hι] at hob; exact hob.elim
  | «at» b o e =>
    rw [hι] at hob
    obtain ⟨hB, ents, clock, h1, h2, h3⟩ := hob
    obtain ⟨j, hj⟩ := findKey_ok hT hkt h3 h2 hfind w
    have hck := checkKey_ok hT hkt hkf false 9998 w
    have e1 : tr ι (.map (some k)) = .map (some b) := by simp [tr, trA, trS, trP, hι]
    refine ⟨_, { w with heap := w.heap.setIfInBounds b (.map (ents.push ⟨.agg cs, trS ι v, clock⟩) (clock + 1)) }, hl, ?_, ?_, ?_⟩
    · refine H.set hk rfl ?_ ?_ rfl (fun c hc => ?_) (by simp)
      · rw [hι]
        have hlt := (Array.getElem?_eq_some_iff.1 h1).1
        refine ⟨hB, ents.push ⟨.agg cs, trS ι v, clock⟩, clock + 1, by simp [Array.getElem?_setIfInBounds_self_of_lt hlt], by simp [h2], fun e he => ?_⟩
        rcases List.mem_append.1 he with he | he
        · exact h3 e he
        · simp at he
          subst he
          simpa [gA] using hg
      · intro e he
        rcases List.mem_append.1 he with he | he
        · exact H.sc k _ hk e he
        · simp at he
          subst he
          exact hvS
      · have : b ≠ c := fun e => hc (by rw [hι, e]; rfl)
        simp [Array.getElem?_setIfInBounds_ne this]
    · exact ⟨rfl, rfl, rfl, by simp, fun c hc => by
        have : b ≠ c := by omega
        simp [Array.getElem?_setIfInBounds_ne this]⟩
    · rw [e1, htr, tr_of_S hvS]
      simp only [Instr.mapUpdate, Sem.run_bind, run_underlying hm, Result.andThen_ok, MapKept.run_getObj_map h1, hck, hj, Option.map_none, MapKept.run_setObj_map _ h1]

theorem vclear_ok (hT : TabOK P T) {t ty : TypeId} {x : Value} {K : KE} (hl : vclear T h nx t x K) (hx : scT ι nx x) {w : World} (H : RelH ι B h nx w) :
    Does P ι B nx w (Builtin.clear_ #[t] ty #[tr ι x]) K := by
  unfold vclear at hl
  split at hl
  case h_3 => exact hl.elim
  · rename_i e s1 b1 z1 ht
    have hd := (hT t _ ht).sl rfl
    refine ⟨_, _, _, ι, w, hl, by simp [scT], H, Below.refl _ _, fun _ _ => rfl, Nat.le_refl _, ?_⟩
    rw [tr_slice_none]
    simp [Builtin.clear_, run_underlying hd, tr]
  · rename_i e s1 b1 z1 k o n c ht
    have hd := (hT t _ ht).sl rfl
    have hx' : k < nx ∧ ((ι k).isAt = false → n = 0 ∧ c = 0) := hx
    split at hl
    · refine ⟨_, _, _, ι, w, hl, by simp [scT], H, Below.refl _ _, fun _ _ => rfl, Nat.le_refl _, ?_⟩
      simp only [tr, trA, trS, trP]
      cases ι k with
      | nil p => cases p <;> simp [Builtin.clear_, run_underlying hd]
      | «at» b o e => simp [Builtin.clear_, run_underlying hd]
    · rename_i hn0
      split at hl
      case h_2 => exact hl.elim
      rename_i ei g sz cs he hk
      obtain ⟨hb, hK⟩ := must_iff.1 hl
      have hb := Nat.le_of_ble_eq_true hb
      have hei := hT e _ he
      cases hι : ι k with
      | nil p => exact absurd (hx'.2 (by rw [hι]; rfl)).1 hn0
      | «at» b off ex =>
        have hz := zv_cells hT he
        have hrep : ∀ v ∈ rep n ei.zv.cells.toList, gS v = true := by
          intro v hv
          simp only [rep, List.mem_flatten, List.mem_replicate] at hv
          obtain ⟨l, ⟨_, rfl⟩, hv⟩ := hv
          exact hz v hv
        have hlen : (rep n ei.zv.cells.toList).length = n * ei.size := by
          rw [← zeroCells_rep, Array.length_toList, size_zeroCells, hei.zs]
        obtain ⟨w', h1, h2, h3⟩ := H.put' (P := P) hk hι (o := o) (vs := rep n ei.zv.cells.toList) (by omega) (fun v hv => scS_g (hrep v hv))
        rw [map_trS_of hrep] at h1
        refine ⟨_, _, _, ι, w', hK, by simp [scT], h3, h2, fun _ _ => rfl, Nat.le_refl _, ?_⟩
        have e1 : tr ι (.slice (some ⟨k, o, none⟩) n c) = .slice (some ⟨b, off + o, none⟩) n (c + ex) := by simp [tr, trA, trS, trP, hι]
        rw [e1]
        cases n with
        | zero => exact absurd rfl hn0
        | succ n => simp [Builtin.clear_, run_underlying hd, hei.zero, zeroCells_rep, h1, tr]
end
end Go.Aw
