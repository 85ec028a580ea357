/-
  More operations that only look: parts of values, arithmetic, tests. No condition.
-/
import Derived.Test.YtagdfcdnfdpocaaGreatAw4
set_option linter.unusedSimpArgs false
set_option linter.unusedVariables false
noncomputable section
namespace Go.Aw
open Go.RowKit

section
variable {P : Program} {T : Tab} {ι : Nat → Loc} {B nx : Nat} {h : Heap}

/-! ### parts of values -/
def vpart (T : Tab) (t : TypeId) (cs : List Value) (o : Nat) (K : Value → Prop) : Prop :=
  match look T t with
  | some ti => (match ti.isAgg with
    | true => (match getN cs o ti.size with | some l => K (.agg l.toArray) | none => False)
    | false => (match nth cs o with | some v => K v | none => False))
  | none => False

theorem getN_take {cs : List Value} : ∀ {n o : Nat} {l : List Value}, getN cs o n = some l → l = (cs.drop o).take n := by
  intro n o l h
  obtain ⟨h1, h2⟩ := getN_spec h
  apply List.ext_getElem?
  intro j
  by_cases hj : j < n
  · rw [(h2 j hj).1, List.getElem?_take_of_lt hj, List.getElem?_drop]
  · rw [List.getElem?_eq_none (by omega), List.getElem?_eq_none (by rw [List.length_take]; omega)]

theorem vpart_ok (hT : TabOK P T) {t : TypeId} {cs : List Value} {o : Nat} {K : Value → Prop} (hl : vpart T t cs o K) (hx : ∀ v ∈ cs, scS ι nx v) :
    ∃ v, K v ∧ Looks P ι B nx h (part t (cs.map (trS ι)).toArray o) v := by
  unfold vpart at hl
  split at hl
  case h_2 => exact hl.elim
  rename_i ti ht
  have hti := hT t _ ht
  split at hl
  · rename_i hagg
    split at hl
    case h_2 => exact hl.elim
    rename_i l hn
    have hl' := getN_take hn
    refine ⟨_, hl, fun v hv => ?_, fun w H => ?_⟩
    · have : v ∈ l := by simpa using hv
      rw [hl'] at this
      exact hx v (List.mem_of_mem_drop (List.mem_of_mem_take this))
    · simp only [part, Sem.run_bind, hti.isAgg, Result.andThen_ok, hagg, if_true, hti.sizeOf, Sem.run_pure, tr_agg]
      congr 2
      apply Array.ext'
      subst hl'
      simp [List.map_drop, List.map_take]
  · rename_i hagg
    split at hl
    case h_2 => exact hl.elim
    rename_i v hn
    rw [nth_eq] at hn
    have hs := hx v (List.mem_of_getElem? hn)
    refine ⟨v, hl, scA_of_S hs, fun w H => ?_⟩
    simp only [part, Sem.run_bind, hti.isAgg, Result.andThen_ok, hagg, Bool.false_eq_true, if_false, tr_of_S hs]
    simp [hn]

def vfield (T : Tab) (st : TypeId) (x : Value) (f : Nat) (K : Value → Prop) : Prop :=
  match x, look T st with
  | .agg cs, some { kind := .st fs, .. } => (match fs[f]? with | some (off, ft) => vpart T ft cs.toList off K | none => False)
  | _, _ => False

theorem vfield_ok (hT : TabOK P T) {t : TypeId} {x : Value} {i : Nat} {K : Value → Prop} (hl : vfield T t x i K) (hx : scA ι nx x) :
    ∃ v, K v ∧ Looks P ι B nx h (Instr.field t (tr ι x) i) v := by
  unfold vfield at hl
  split at hl
  case h_2 => exact hl.elim
  rename_i cs fs si by_ zv ht
  split at hl
  case h_2 => exact hl.elim
  rename_i off ft hf
  have hti := hT t _ ht
  obtain ⟨f, hd, hfs, _⟩ := hti.st rfl
  obtain ⟨y, hy, ho, hyt⟩ := fields_at hfs hf
  obtain ⟨v, hv, hsc, hrun⟩ := vpart_ok (B := B) (h := h) hT hl hx
  refine ⟨v, hv, hsc, fun w H => ?_⟩
  have := hrun w H
  simp only [tr_agg, Instr.field, Sem.run_bind, run_underlying hd, Result.andThen_ok, hy, asAgg, Sem.run_pure, hyt, ho]
  rw [← this]
  congr 2
  apply Array.ext'
  simp

def vindex (A : Ar) (T : Tab) (t : TypeId) (x ix : Value) (K : Value → Prop) : Prop :=
  match look T t, x, ix with
  | some { kind := .ar n e, .. }, .agg cs, .int _ i =>
    (match look T e with | some ei => must (A.andB (A.le 0 i) (A.lt i (A.num n))) (vpart T e cs.toList (A.ix 0 i ei.size) K) | none => False)
  | some { kind := .str, .. }, .string b, .int _ i => (match (if 0 ≤ i then b[i.toNat]? else none) with | some u => K (.int .u8 (A.num u.toNat)) | none => False)
  | _, _, _ => False

theorem vindex_ok (hT : TabOK P T) {t : TypeId} {x ix : Value} {K : Value → Prop} (hl : vindex std T t x ix K) (hx : scA ι nx x) :
    ∃ v, K v ∧ Looks P ι B nx h (Instr.index t (tr ι x) (tr ι ix)) v := by
  unfold vindex at hl
  split at hl
  case h_3 => exact hl.elim
  case h_2 =>
    rename_i s1 b1 z1 b kk i ht
    split at hl
    case h_2 => exact hl.elim
    rename_i u hu
    refine ⟨_, hl, trivial, fun w H => ?_⟩
    simp only [tr_string, tr_int, Instr.index, Sem.run_bind, asIntOf, Sem.run_pure, Result.andThen_ok, run_underlying ((hT t _ ht).str rfl), hu, std]
  rename_i n e s1 b1 z1 cs kk i ht
  split at hl
  case h_2 => exact hl.elim
  rename_i ei he
  obtain ⟨hb, hK⟩ := must_iff.1 hl
  simp only [std, Bool.and_eq_true, decide_eq_true_eq] at hb
  have hti := hT t _ ht
  have hei := hT e _ he
  obtain ⟨v, hv, hsc, hrun⟩ := vpart_ok (B := B) (h := h) hT hK hx
  refine ⟨v, hv, hsc, fun w H => ?_⟩
  have := hrun w H
  simp only [tr_agg, tr_int, Instr.index, Sem.run_bind, asIntOf, Sem.run_pure, Result.andThen_ok, run_underlying (hti.ar rfl), hb.1, hb.2, and_self, if_true, hei.sizeOf]
  rw [← this]
  congr 2
  · apply Array.ext'
    simp
  · simp [std]

theorem int_beq (a b : Int) : (a == b) = decide (a = b) := by
  by_cases e : a = b <;> simp [e]

/-! ### arithmetic and tests -/
def vint (A : Ar) (op : BinOp) (k : IntKind) (a b : Int) (K : Value → Prop) : Prop :=
  match op with
  | .add => must (A.fits k (A.add a b)) (K (.int k (A.add a b)))
  | .sub => must (A.fits k (A.sub a b)) (K (.int k (A.sub a b)))
  | .mul => must (A.fits k (A.mul a b)) (K (.int k (A.mul a b)))
  | .quo => must (A.andB (A.notB (A.eq b 0)) (A.fits k (A.quo a b))) (K (.int k (A.quo a b)))
  | .rem => must (A.notB (A.eq b 0)) (K (.int k (A.rem a b)))
  | .eql => K (.bool (A.eq a b))
  | .neq => K (.bool (A.notB (A.eq a b)))
  | .lss => K (.bool (A.lt a b))
  | .leq => K (.bool (A.le a b))
  | .gtr => K (.bool (A.lt b a))
  | .geq => K (.bool (A.le b a))
  | _ => False

theorem vint_ok {op : BinOp} {t : TypeId} {k : IntKind} {a b : Int} {K : Value → Prop} (hl : vint std op k a b K) :
    ∃ v, K v ∧ gS v = true ∧ ∀ w, (binOp op t (.int k a) (.int k b)).run P w = .ok v w := by
  cases op <;> simp only [vint, std] at hl
  case add => obtain ⟨h1, h2⟩ := must_iff.1 hl; exact ⟨_, h2, rfl, fun w => by simp [Go.binOp_add, Op.intArith, wrap_fits h1]⟩
  case sub => obtain ⟨h1, h2⟩ := must_iff.1 hl; exact ⟨_, h2, rfl, fun w => by simp [Go.binOp_sub, Op.intArith, wrap_fits h1]⟩
  case mul => obtain ⟨h1, h2⟩ := must_iff.1 hl; exact ⟨_, h2, rfl, fun w => by simp [Go.binOp_mul, Op.intArith, wrap_fits h1]⟩
  case quo =>
    obtain ⟨h1, h2⟩ := must_iff.1 hl
    simp only [Bool.and_eq_true, Bool.not_eq_true', decide_eq_false_iff_not] at h1
    exact ⟨_, h2, rfl, fun w => by simp [Go.binOp_quo, Op.intDiv, wrap_fits h1.2, h1.1]⟩
  case rem =>
    obtain ⟨h1, h2⟩ := must_iff.1 hl
    simp only [Bool.not_eq_true', decide_eq_false_iff_not] at h1
    exact ⟨_, h2, rfl, fun w => by simp [Go.binOp_rem, Op.intDiv, h1]⟩
  case eql => exact ⟨_, hl, rfl, fun w => by rw [Go.binOp_eql, int_beq]; simp⟩
  case neq => exact ⟨_, hl, rfl, fun w => by rw [Go.binOp_neq]; simp [bne, int_beq]⟩
  case lss => exact ⟨_, hl, rfl, fun w => by rw [Go.binOp_lss]; simp⟩
  case leq => exact ⟨_, hl, rfl, fun w => by rw [Go.binOp_leq]; simp⟩
  case gtr => exact ⟨_, hl, rfl, fun w => by rw [Go.binOp_gtr]; simp⟩
  case geq => exact ⟨_, hl, rfl, fun w => by rw [Go.binOp_geq]; simp⟩

/-! ### equality of values of a type without addresses -/
def veq (A : Ar) (T : Tab) : Nat → TypeId → Value → Value → Option Bool
  | 0, _, _, _ => none
  | d + 1, t, x, y =>
    match look T t with
    | none => none
    | some ti =>
      match ti.kind, x, y with
      | .int _, .int k a, .int k' b => (match kEq k k' with | true => some (A.eq a b) | false => none)
      | .bool, .bool a, .bool b => some (A.eqB a b)
      | .st fs, .agg xs, .agg ys =>
        fs.foldr (fun f r =>
          match r with
          | none => none
          | some r =>
            match look T f.2 with
            | none => none
            | some fi =>
              match fi.isAgg with
              | true => (match getN xs.toList f.1 fi.size, getN ys.toList f.1 fi.size with
                | some l, some m => (match veq A T d f.2 (.agg l.toArray) (.agg m.toArray) with | some q => some (A.andB q r) | none => none)
                | _, _ => none)
              | false => (match nth xs.toList f.1, nth ys.toList f.1 with
                | some u, some v => (match veq A T d f.2 u v with | some q => some (A.andB q r) | none => none)
                | _, _ => none)) (some true)
      | _, _, _ => none

theorem run_part_agg (hT : TabOK P T) {t : TypeId} {ti : TyI} (ht : look T t = some ti) (hagg : ti.isAgg = true) {cs l : List Value} {o : Nat} (hn : getN cs o ti.size = some l) (w : World) :
    (part t cs.toArray o).run P w = .ok (.agg l.toArray) w := by
  have hti := hT t _ ht
  simp only [part, Sem.run_bind, hti.isAgg, Result.andThen_ok, hagg, if_true, hti.sizeOf, Sem.run_pure]
  congr 2
  apply Array.ext'
  rw [getN_take hn]
  simp
theorem run_part_one (hT : TabOK P T) {t : TypeId} {ti : TyI} (ht : look T t = some ti) (hagg : ti.isAgg = false) {cs : List Value} {v : Value} {o : Nat} (hn : nth cs o = some v) (w : World) :
    (part t cs.toArray o).run P w = .ok v w := by
  have hti := hT t _ ht
  rw [nth_eq] at hn
  simp only [part, Sem.run_bind, hti.isAgg, Result.andThen_ok, hagg, Bool.false_eq_true, if_false]
  simp [hn]

theorem veq_ok (hT : TabOK P T) : ∀ (d : Nat) (t : TypeId) (x y : Value) (r : Bool), veq std T d t x y = some r → ∀ d', d ≤ d' → ∀ w, (Op.equalIn d' t x y).run P w = .ok r w := by
  intro d
  induction d with
  | zero => intro t x y r h; simp [veq] at h
  | succ d ih =>
    intro t x y r h d' hd w
    obtain ⟨d', rfl⟩ : ∃ e, d' = e + 1 := ⟨d' - 1, by omega⟩
    simp only [veq] at h
    split at h
    · cases h
    rename_i ti ht
    have hti := hT t _ ht
    split at h
    · rename_i k k1 a k2 b hk
      split at h
      · rename_i hkk
        have := kEq_true hkk
        subst this
        injection h with h
        subst h
        rw [run_equalIn_int w d' t k1 k a b (hti.int hk), int_beq]
        simp [std]
      · cases h
    · rename_i a b hk
      injection h with h
      subst h
      rw [run_equalIn_bool w d' t a b (hti.bool hk)]
      simp [std]
    · rename_i fs xs ys hk
      obtain ⟨f, hd', hfs, hn⟩ := hti.st hk
      have hfo : P.fieldsOf t = f := by simp [Program.fieldsOf, hd']
      rw [run_equalIn_struct w d' t xs ys (by rw [hfo]; exact hd') hti.held, hfo]
      subst hfs
      clear hd' hfo hk
      generalize f.toList = fl at h hn
      induction fl generalizing r with
      | nil => simp at h; subst h; simp [Op.eqFields]
      | cons x fl ihf =>
        simp only [List.map_cons, List.foldr_cons] at h
        split at h
        · cases h
        rename_i rr hr
        have ihf := ihf rr hr (fun y hy => hn y (by simp [hy]))
        split at h
        · cases h
        rename_i fi hfi
        have hname : x.name ≠ "_" := hn x (by simp)
        simp only [Op.eqFields, hname, ne_eq, not_false_eq_true, if_true, Sem.run_bind]
        split at h
        · rename_i hagg
          split at h
          case h_2 => cases h
          rename_i l m hl hm
          split at h
          case h_2 => cases h
          rename_i q hq
          injection h with h
          subst h
          have e1 := run_part_agg hT hfi hagg hl w
          have e2 := run_part_agg hT hfi hagg hm w
          simp only [Array.toArray_toList] at e1 e2
          rw [e1, Result.andThen_ok, e2, Result.andThen_ok, ih _ _ _ _ hq d' (by omega) w, Result.andThen_ok]
          cases q
          · simp [std]
          · simp [ihf, std]
        · rename_i hagg
          split at h
          case h_2 => cases h
          rename_i u v hu hv
          split at h
          case h_2 => cases h
          rename_i q hq
          injection h with h
          subst h
          have e1 := run_part_one hT hfi hagg hu w
          have e2 := run_part_one hT hfi hagg hv w
          simp only [Array.toArray_toList] at e1 e2
          rw [e1, Result.andThen_ok, e2, Result.andThen_ok, ih _ _ _ _ hq d' (by omega) w, Result.andThen_ok]
          cases q
          · simp [std]
          · simp [ihf, std]
    · cases h
end
end Go.Aw
