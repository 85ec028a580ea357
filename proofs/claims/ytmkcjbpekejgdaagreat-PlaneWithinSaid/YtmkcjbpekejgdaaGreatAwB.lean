/-
  Parts of the proof, put together. No condition.
-/
import Derived.Test.YtmkcjbpekejgdaaGreatAwA
import Derived.Laws.MakeOwn
import Derived.OrdersIn
/-
  Slices: parts of them, and appending. No condition.
-/
set_option linter.unusedSimpArgs false
set_option linter.unusedVariables false
noncomputable section
namespace Go.Aw
open Go.RowKit

def rem (h : Heap) (k : Nat) : Heap :=
  match h with
  | [] => []
  | (j, o) :: r => match Nat.beq j k with | true => rem r k | false => (j, o) :: rem r k
theorem look_rem (h : Heap) (k j : Nat) : look (rem h k) j = if j = k then none else look h j := by
  induction h with
  | nil => simp [rem, look_nil]
  | cons x r ih =>
    obtain ⟨i, o⟩ := x
    by_cases hik : i = k
    · subst hik
      have e1 : rem ((i, o) :: r) i = rem r i := by simp [rem]
      rw [e1, ih]
      by_cases hji : j = i
      · rw [if_pos hji, if_pos hji]
      · have : i.beq j = false := by
          cases hb : i.beq j with
          | false => rfl
          | true => exact absurd (beq_true hb).symm hji
        rw [if_neg hji, if_neg hji]
        simp only [look_cons, this]
    · have hb : i.beq k = false := by
        cases hb : i.beq k with
        | false => rfl
        | true => exact absurd (beq_true hb) hik
      have e1 : rem ((i, o) :: r) k = (i, o) :: rem r k := by simp only [rem, hb]
      rw [e1]
      simp only [look_cons]
      cases hij : i.beq j with
      | true =>
        have := beq_true hij
        subst this
        rw [if_neg hik]
      | false => exact ih

section
variable {P : Program} {T : Tab} {ι : Nat → Loc} {B nx : Nat} {h : Heap}

theorem RelH.rem {w : World} (H : RelH ι B h nx w) (k : Nat) : RelH ι B (rem h k) nx w := by
  have key : ∀ j o, look (Aw.rem h k) j = some o → look h j = some o := fun j o hj => by
    rw [look_rem] at hj
    split at hj
    · cases hj
    · exact hj
  exact ⟨fun j o hj => H.obj j o (key j o hj), fun j j' o o' h1 h2 => H.sep j j' o o' (key _ _ h1) (key _ _ h2), fun j o hj => H.low j o (key _ _ hj), H.size, fun j o hj => H.sc j o (key _ _ hj)⟩

/-! ### appending: the machine's side -/
structure Src (P : Program) (w : World) (size : Nat) (x : Value) (m : Nat) (news : List Value) : Prop where
  len : (Builtin.lenOf x).run P w = .ok m w
  one : ∀ c, (Builtin.firstCells size m x).run P { w with drawn := c } = .ok news.toArray { w with drawn := c }

theorem run_append_in {t u e : TypeId} {ty : TypeId} {i : TypeInfo} {d : TypeDesc} (ht : P.underlying t = some (.slice e)) (hu : P.underlying u = some d) (hd : ∀ k, d ≠ .int k) (hi : P.info? e = some i)
    (w : World) (base : Option Addr) (n c m : Nat) (x : Value) (news : List Value) (hx : Src P w i.size x m news) (hroom : n + m ≤ c) :
    (Builtin.append_ #[t, u] ty #[.slice base n c, x]).run P w =
      (match base with | some a => (storeCells (a.add (n * i.size)) news).run P w | none => .ok () w).andThen fun _ w' => .ok (.slice base (n + m) c) w' := by
  have h1 := hx.len
  have h2 : (Builtin.firstCells i.size m x).run P w = .ok news.toArray w := hx.one w.drawn
  have hz : (match d with | .int _ => true | _ => false) = false := by
    cases d <;> first | rfl | exact absurd rfl (hd _)
  cases base with
  | none => simp [Builtin.append_, run_underlying ht, run_underlying hu, sizeOf, typeInfo, hi, hz, h1, h2, hroom]
  | some a => simp [Builtin.append_, run_underlying ht, run_underlying hu, sizeOf, typeInfo, hi, hz, h1, h2, hroom]

theorem run_append_out {t u e : TypeId} {ty : TypeId} {i : TypeInfo} {z : Value} {d : TypeDesc} (ht : P.underlying t = some (.slice e)) (hu : P.underlying u = some d) (hd : ∀ k, d ≠ .int k) (hi : P.info? e = some i) (hz : i.zero = some z)
    (w : World) (base : Option Addr) (n c m : Nat) (x : Value) (news olds : List Value) (hx : Src P w i.size x m news) (ho : (Builtin.firstCells i.size n (.slice base n c)).run P w.drew = .ok olds.toArray w.drew)
    (hroom : c < n + m) (hb : i.bytes ≤ 1000) (hm : n + m ≤ 1000000000) :
    ∃ cap, n + m ≤ cap ∧ (Builtin.append_ #[t, u] ty #[.slice base n c, x]).run P w =
      .ok (.slice (some ⟨w.heap.size, 0, none⟩) (n + m) cap) (w.drew.alloc (.cells (olds ++ news ++ (Builtin.zeroCells z.cells (cap - (n + m))).toList).toArray e)) := by
  have h1 := hx.len
  have h2 : (Builtin.firstCells i.size m x).run P w.drew = .ok news.toArray w.drew := hx.one (w.drawn + 1)
  have hzz : (match d with | .int _ => true | _ => false) = false := by
    cases d <;> first | rfl | exact absurd rfl (hd _)
  have hfit : Builtin.nextslicecap (n + m) c * i.bytes ≤ 281474976710656 := growslice_fits hroom (by
    have := Nat.mul_le_mul hm hb; omega)
  have hn : ¬ (n + m ≤ c) := by omega
  have h63' : ¬ (9223372036854775807 < ((n : Int) + (m : Int))) := by omega
  have h48' : ¬ (281474976710656 < Builtin.nextslicecap (n + m) c * i.bytes) := by omega
  refine ⟨grownCap w (n + m) c e, grownCap_ge _ _ _ _, ?_⟩
  simp [Builtin.append_, run_underlying ht, run_underlying hu, sizeOf, typeInfo, zeroValue, hi, hz, hzz, h1, h2, ho, hn, h63', h48', Question.forced, newRow, grownCap]
  congr 2
  apply Array.ext'
  simp [List.append_assoc]
end
end Go.Aw
end

/-
  Slices: parts of them, and appending: the two sides together. No condition.
-/
set_option linter.unusedSimpArgs false
set_option linter.unusedVariables false
noncomputable section
namespace Go.Aw
open Go.RowKit

def vhi (A : Ar) (n c : Nat) (hi : Option Value) (G : Nat → Prop) : Prop :=
  match hi with
  | none => G n
  | some (.int _ i) => must (A.andB (A.le 0 i) (A.le i (A.num c))) (G (A.toN i))
  | _ => False
def isZero : Option Value → Bool
  | none => true
  | some (.int _ 0) => true
  | _ => false

def vslice (A : Ar) (T : Tab) (h : Heap) (nx : Nat) (t : TypeId) (x : Value) (lo hi mx : Option Value) (K : KE) : Prop :=
  match look T t with
  | some { kind := .sl e, .. } =>
    (match look T e with
    | none => False
    | some ei =>
      match x, mx with
      | .slice none 0 0, none => (match isZero lo, isZero hi with | true, true => K (.slice none 0 0) h nx | _, _ => False)
      | .slice (some ⟨k, o, none⟩) n c, none =>
        vhi A n c hi fun hN =>
          (match lo with
          | none => K (.slice (some ⟨k, o, none⟩) hN c) h nx
          | some (.int _ l) => must (A.andB (A.andB (A.le 0 l) (A.le l (A.num hN))) (A.le (A.num hN) (A.num c)))
              (match look h k with
              | some (.cells _ _ _ _) => br (A.lt l (A.num c)) (fun _ => K (.slice (some ⟨k, A.ix o l ei.size, none⟩) (A.subN hN (A.toN l)) (A.subN c (A.toN l))) h nx) (fun _ => K (.slice (some ⟨nx, 0, none⟩) 0 0) h (nx + 1))
              | _ => False)
          | _ => False)
      | .slice (some ⟨k, o, none⟩) n c, some (.int _ 0) =>
        (match isZero lo, hi with | true, some (.int _ 0) => K (.slice (some ⟨nx, 0, none⟩) 0 0) (upd h nx .zero) (nx + 1) | _, _ => False)
      | .slice (some ⟨k, o, none⟩) n c, some (.int _ m) =>
        (match lo, hi with
        | some (.int _ l), some (.int _ u) => must (A.andB (A.andB (A.le 0 l) (A.le l u)) (A.andB (A.le u m) (A.andB (A.le 1 m) (A.le m (A.num c))))) (K (.slice (some ⟨nx, 0, none⟩) (A.subN (A.toN u) (A.toN l)) (A.subN (A.toN m) (A.toN l))) h (nx + 1))
        | _, _ => False)
      | _, _ => False)
  | _ => False

section
variable {P : Program} {T : Tab} {ι : Nat → Loc} {B nx : Nat} {h : Heap}

def loOf : Option Value → Option Nat
  | none => some 0
  | some (.int _ i) => if 0 ≤ i then some i.toNat else none
  | _ => none
def hiOf (n c : Nat) : Option Value → Option Nat
  | none => some n
  | some (.int _ i) => if 0 ≤ i ∧ i ≤ c then some i.toNat else none
  | _ => none

theorem run_sliceAt {t e : TypeId} {s : Nat} (ht : P.underlying t = some (.slice e)) (w : World) (hs : (sizeOf e).run P w = .ok s w) (a : Option Addr) {n c : Nat} {lo hi : Option Value} {l hN : Nat}
    (hl : loOf lo = some l) (hh : hiOf n c hi = some hN) (hle : l ≤ hN) :
    (Instr.sliceAt t (.slice a n c) lo hi none).run P w = .ok (.slice (if c = l then a else a.map (·.add (l * s))) (hN - l) (c - l)) w := by
  have e1 : (match hi with | some v => Instr.sliceBound v c .sliceAcap | none => pure n : Sem Nat).run P w = .ok hN w := by
    cases hi with
    | none => simp [hiOf] at hh; subst hh; simp
    | some v =>
      cases v <;> simp only [hiOf] at hh <;> try (cases hh; done)
      rename_i k i
      split at hh
      · rename_i hb
        injection hh with hh
        subst hh
        simp [run_sliceBound_if, hb]
      · cases hh
  have e2 : (match lo with | some v => Instr.sliceBound v hN .sliceB | none => pure 0 : Sem Nat).run P w = .ok l w := by
    cases lo with
    | none => simp [loOf] at hl; subst hl; simp
    | some v =>
      cases v <;> simp only [loOf] at hl <;> try (cases hl; done)
      rename_i k i
      split at hl
      · rename_i hb
        injection hl with hl
        subst hl
        have : 0 ≤ i ∧ i ≤ hN := ⟨hb, by omega⟩
        simp [run_sliceBound_if, this]
      · cases hl
  have e3 : (Instr.sliceBounds true n c lo hi none).run P w = .ok (l, hN, c) w := by
    unfold Instr.sliceBounds
    cases hi with
    | none =>
      simp at e1
      subst e1
      cases lo with
      | none => simp at e2; subst e2; simp
      | some v => simp at e2 ⊢; rw [e2]; simp
    | some v =>
      simp at e1
      cases lo with
      | none => simp at e2; subst e2; simp [e1]
      | some v => simp at e2 ⊢; rw [e1]; simp [e2]
  simp only [Instr.sliceAt, Sem.run_bind, run_underlying ht, Result.andThen_ok, Instr.slice, e3, hs, Sem.run_pure]

theorem vhi_ok {n c : Nat} {hi : Option Value} {G : Nat → Prop} (hl : vhi std n c hi G) : ∃ hN, G hN ∧ (∀ c', c ≤ c' → hiOf n c' (hi.map (tr ι)) = some hN) ∧ (hN = n ∨ hN ≤ c) := by
  unfold vhi at hl
  split at hl
  · exact ⟨n, hl, fun _ _ => rfl, .inl rfl⟩
  · rename_i k i
    obtain ⟨hb, hG⟩ := must_iff.1 hl
    simp only [std, Bool.and_eq_true, decide_eq_true_eq] at hb hG
    refine ⟨i.toNat, hG, fun c' hc => ?_, .inr (by omega)⟩
    simp only [Option.map_some, tr_int, hiOf]
    rw [if_pos ⟨hb.1, by omega⟩]
  · exact hl.elim

theorem isZero_lo {lo : Option Value} (h : isZero lo = true) : loOf (lo.map (tr ι)) = some 0 := by
  unfold isZero at h
  split at h
  · rfl
  · rfl
  · cases h
theorem isZero_hi {hi : Option Value} {c : Nat} (h : isZero hi = true) : hiOf 0 c (hi.map (tr ι)) = some 0 := by
  unfold isZero at h
  split at h
  · rfl
  · simp [hiOf, tr_int]
  · cases h

/-- What a step leaves that lays no block: names alone. -/
def Names (P : Program) (ι : Nat → Loc) (B nx : Nat) (w0 : World) (h : Heap) (m : Sem Value) (K : KE) : Prop :=
  ∃ v h' nx' ι', K v h' nx' ∧ scT ι' nx' v ∧ (∀ k, k < nx → ι' k = ι k) ∧ nx ≤ nx' ∧ ∀ w, RelH ι B h nx w → RelH ι' B h' nx' w ∧ m.run P w = .ok (tr ι' v) w

theorem vslice_ok (hT : TabOK P T) {t : TypeId} {x : Value} {lo hi mx : Option Value} {K : KE} (hl : vslice std T h nx t x lo hi mx K) (hx : scT ι nx x) {w0 : World} (H0 : RelH ι B h nx w0) :
    Names P ι B nx w0 h (Instr.sliceAt t (tr ι x) (lo.map (tr ι)) (hi.map (tr ι)) (mx.map (tr ι))) K := by
  unfold vslice at hl
  split at hl
  case h_2 => exact hl.elim
  rename_i e s1 b1 z1 ht
  split at hl
  · exact hl.elim
  rename_i ei he
  have hti := hT t _ ht
  have hei := hT e _ he
  have hts := hti.sl rfl
  split at hl
  · split at hl
    case h_2 => exact hl.elim
    rename_i hz1 hz2
    refine ⟨_, _, _, ι, hl, by simp [scT, scA, scS, scP], fun _ _ => rfl, Nat.le_refl _, fun w H => ⟨H, ?_⟩⟩
    rw [tr_slice_none, Option.map_none, run_sliceAt hts w (hei.sizeOf w) none (isZero_lo hz1) (isZero_hi hz2) (Nat.le_refl _)]
    simp
  · rename_i k o n c
    have hx' : k < nx ∧ ((ι k).isAt = false → n = 0 ∧ c = 0) := hx
    obtain ⟨hN, hG, hhi, hle⟩ := vhi_ok (ι := ι) hl
    split at hG
    · refine ⟨_, _, _, ι, hG, ⟨hx'.1, fun e => ?_⟩, fun _ _ => rfl, Nat.le_refl _, fun w H => ⟨H, ?_⟩⟩
      · have := hx'.2 e
        omega
      · cases hι : ι k with
        | nil p =>
          obtain ⟨rfl, rfl⟩ := hx'.2 (by rw [hι]; rfl)
          have h0 : hN = 0 := by omega
          subst h0
          simp only [tr, trA, trS, trP, hι, Option.map_none]
          rw [run_sliceAt hts w (hei.sizeOf w) p (l := 0) rfl (hhi 0 (Nat.le_refl _)) (Nat.le_refl _)]
          simp
        | lay b off ex =>
          simp only [tr, trA, trS, trP, hι, Option.map_none]
          rw [run_sliceAt hts w (hei.sizeOf w) _ (l := 0) rfl (hhi (c + ex) (by omega)) (Nat.zero_le _)]
          simp [Addr.add_zero']
    · rename_i kk l
      obtain ⟨hb, hG⟩ := must_iff.1 hG
      simp only [std, Bool.and_eq_true, decide_eq_true_eq] at hb
      obtain ⟨hb, hbc⟩ := hb
      have hlo : loOf ((some (Value.int kk l)).map (tr ι)) = some l.toNat := by simp [loOf, tr_int, hb.1]
      split at hG
      · rename_i wr g sz cs hk
        rcases br_cases hG with ⟨hb2, hG⟩ | ⟨hb2, hG⟩
        · simp only [std, decide_eq_true_eq] at hb2 hG
          refine ⟨_, _, _, ι, hG, ⟨hx'.1, fun e => ?_⟩, fun _ _ => rfl, Nat.le_refl _, fun w H => ⟨H, ?_⟩⟩
          · have := hx'.2 e
            omega
          · cases hι : ι k with
            | nil p => have := hx'.2 (by rw [hι]; rfl); omega
            | lay b off ex =>
              simp only [tr, trA, trS, trP, hι, Option.map_none]
              rw [run_sliceAt hts w (hei.sizeOf w) _ hlo (hhi (c + ex) (by omega)) (by omega), if_neg (by omega)]
              simp only [Option.map_some, Addr.add_lit, Nat.add_assoc]
              congr 2
              omega
        · simp only [std, decide_eq_false_iff_not] at hb2 hG
          cases hι : ι k with
          | nil p =>
            obtain ⟨rfl, rfl⟩ := hx'.2 (by rw [hι]; rfl)
            have h0 : hN = 0 := by omega
            subst h0
            have hl0 : l = 0 := by omega
            subst hl0
            refine ⟨_, _, _, ins ι nx (.nil p), hG, ⟨by simp, fun _ => ⟨rfl, rfl⟩⟩, fun k hk => ins_lt _ _ hk, by omega, fun w H => ⟨H.more _, ?_⟩⟩
            simp only [tr, trA, trS, trP, hι, Option.map_none, ins_same]
            rw [run_sliceAt hts w (hei.sizeOf w) p (l := 0) (by simp [loOf, tr_int]) (hhi 0 (Nat.le_refl _)) (Nat.le_refl _)]
            simp
          | lay b off ex =>
            refine ⟨_, _, _, ins ι nx (.lay b (off + o + (if c + ex = l.toNat then 0 else l.toNat * ei.size)) ex), hG, ⟨by simp, fun e => by rw [ins_same] at e; cases e⟩, fun k hk => ins_lt _ _ hk, by omega, fun w H => ⟨H.more _, ?_⟩⟩
            simp only [tr, trA, trS, trP, hι, Option.map_none, ins_same]
            rw [run_sliceAt hts w (hei.sizeOf w) _ hlo (hhi (c + ex) (by omega)) (by omega)]
            have e1 : hN - l.toNat = 0 := by omega
            have e2 : c + ex - l.toNat = ex := by omega
            rw [e1, e2]
            by_cases hce : c + ex = l.toNat
            · rw [if_pos hce, if_pos hce]
              simp only [Nat.add_zero, Nat.zero_add]
            · rw [if_neg hce, if_neg hce]
              simp only [Option.map_some, Addr.add_lit, Nat.add_zero, Nat.zero_add]
      · exact hG.elim
    · exact hG.elim
  · rename_i k o n c kk
    split at hl
    case h_2 => exact hl.elim
    rename_i kk' hz
    have hx' : k < nx ∧ ((ι k).isAt = false → n = 0 ∧ c = 0) := hx
    have hsl : ∀ (w : World) (a : Option Addr) (m c' : Nat), (Instr.sliceAt t (.slice a m c') (lo.map (tr ι)) (some (.int kk' 0)) (some (.int kk 0))).run P w = .ok (.slice a 0 0) w := by
      intro w a m c'
      have e1 := isZero_lo (ι := ι) hz
      generalize lo.map (tr ι) = lo' at e1
      cases lo' with
      | none =>
        simp [Instr.sliceAt, run_underlying hts, Instr.slice, Instr.sliceBounds, Instr.sliceBound, asIntOf, hei.sizeOf]
      | some v =>
        cases v <;> simp only [loOf] at e1 <;> try (cases e1; done)
        rename_i k3 i
        split at e1
        case isFalse => cases e1
        have : i = 0 := by injection e1; omega
        subst this
        simp [Instr.sliceAt, run_underlying hts, Instr.slice, Instr.sliceBounds, Instr.sliceBound, asIntOf, hei.sizeOf]
    obtain ⟨p, hp⟩ : ∃ p, ∀ m c', ∃ m' c'', tr ι (.slice (some ⟨k, o, none⟩) m c') = .slice p m' c'' := by
      cases hι : ι k with
      | nil p => exact ⟨p, fun m c' => ⟨m, c', by simp [tr, trA, trS, trP, hι]⟩⟩
      | lay b off ex => exact ⟨some ⟨b, off + o, none⟩, fun m c' => ⟨m, c' + ex, by simp [tr, trA, trS, trP, hι]⟩⟩
    refine ⟨_, _, _, ins ι nx (.nil p), hl, ⟨by simp, fun _ => by simp⟩, fun k hk => ins_lt _ _ hk, by omega, fun w H => ⟨?_, ?_⟩⟩
    · exact H.add .zero (.nil p) trivial trivial (fun k' o' _ _ b hb => by cases hb)
    · obtain ⟨m', c'', e1⟩ := hp n c
      rw [e1]
      have e2 : tr (ins ι nx (.nil p)) (.slice (some ⟨nx, 0, none⟩) 0 0) = .slice p 0 0 := by simp [tr, trA, trS, trP, ins_same]
      rw [e2]
      exact hsl w _ _ _
  · rename_i k o n c kk m hm0
    split at hl
    case h_2 => exact hl.elim
    rename_i k1 l k2 u
    obtain ⟨hb, hG⟩ := must_iff.1 hl
    simp only [std, Bool.and_eq_true, decide_eq_true_eq] at hb hG
    obtain ⟨⟨hb1, hb2⟩, hb3, hb4, hb5⟩ := hb
    have hx' : k < nx ∧ ((ι k).isAt = false → n = 0 ∧ c = 0) := hx
    cases hι : ι k with
    | nil p =>
      have := (hx'.2 (by rw [hι]; rfl)).2
      omega
    | lay b off ex =>
      refine ⟨_, _, _, ins ι nx (.lay b (off + o + (if m.toNat = l.toNat then 0 else l.toNat * ei.size)) 0), hG, ⟨by simp, fun e => by rw [ins_same] at e; cases e⟩, fun k hk => ins_lt _ _ hk, by omega, fun w H => ⟨H.more _, ?_⟩⟩
      have e1 : tr ι (.slice (some ⟨k, o, none⟩) n c) = .slice (some ⟨b, off + o, none⟩) n (c + ex) := by simp [tr, trA, trS, trP, hι]
      have e2 : ∀ n c, tr (ins ι nx (.lay b (off + o + (if m.toNat = l.toNat then 0 else l.toNat * ei.size)) 0)) (.slice (some ⟨nx, 0, none⟩) n c) = .slice (some ⟨b, off + o + (if m.toNat = l.toNat then 0 else l.toNat * ei.size), none⟩) n c := fun n c => by simp [tr, trA, trS, trP, ins_same]
      rw [e1, e2]
      simp only [Option.map_some, tr_int]
      have b1 : ∀ (hi2 : Nat) (wh : _), m ≤ (hi2 : Int) → (Instr.sliceBound (.int kk m) hi2 wh).run P w = .ok m.toNat w := fun hi2 wh hh => by
        simp [run_sliceBound_if, show 0 ≤ m ∧ m ≤ (hi2 : Int) from ⟨by omega, hh⟩]
      have b2 : ∀ (hi2 : Nat) (wh : _), u ≤ (hi2 : Int) → (Instr.sliceBound (.int k2 u) hi2 wh).run P w = .ok u.toNat w := fun hi2 wh hh => by
        simp [run_sliceBound_if, show 0 ≤ u ∧ u ≤ (hi2 : Int) from ⟨by omega, hh⟩]
      have b3 : ∀ (hi2 : Nat) (wh : _), l ≤ (hi2 : Int) → (Instr.sliceBound (.int k1 l) hi2 wh).run P w = .ok l.toNat w := fun hi2 wh hh => by
        simp [run_sliceBound_if, show 0 ≤ l ∧ l ≤ (hi2 : Int) from ⟨by omega, hh⟩]
      simp only [Instr.sliceAt, Sem.run_bind, run_underlying hts, Result.andThen_ok, Instr.slice, Instr.sliceBounds, b1 (c + ex) _ (by omega), b2 m.toNat _ (by omega), b3 u.toNat _ (by omega), hei.sizeOf, Sem.run_pure]
      by_cases hml : m.toNat = l.toNat
      · simp [hml]
      · simp [hml, Addr.add_lit, Nat.add_assoc]
  · exact hl.elim
end
end Go.Aw
end

/-
  Appending: the two sides together. No condition.
-/
set_option linter.unusedSimpArgs false
set_option linter.unusedVariables false
noncomputable section
namespace Go.Aw
open Go.RowKit


def vsrc (h : Heap) (sz : Nat) (x : Value) (G : Nat → List Value → Prop) : Prop :=
  match x with
  | .slice none 0 0 => G 0 []
  | .slice (some ⟨k, o, none⟩) m _ =>
    (match look h k with
    | some (.cells _ _ _ cs) => must (Nat.ble (o + m * sz) cs.length) (G m ((cs.drop o).take (m * sz)))
    | some .zero => (match m with | 0 => G 0 [] | _ => False)
    | none => (match m with | 0 => G 0 [] | _ => False)
    | _ => False)
  | _ => False

/-- make([]T, l, c) -/
def vmakeSlice (A : Ar) (T : Tab) (h : Heap) (nx : Nat) (t : TypeId) (l c : Value) (K : KE) : Prop :=
  match look T t, l, c with
  | some { kind := .sl e, .. }, .int .i64 i, .int .i64 j =>
    (match look T e with
    | some ei => must (A.andB (A.andB (A.le 0 i) (A.le i j)) (A.andB (A.le j 1000000000) (Nat.ble ei.bytes 1000)))
        (K (.slice (some ⟨nx, 0, none⟩) (A.toN i) (A.toN j)) (upd h nx (.cells true false ei.size (rep (A.toN j) ei.zv.cells.toList))) (nx + 1))
    | none => False)
  | _, _, _ => False

def vappend (A : Ar) (T : Tab) (h : Heap) (nx : Nat) (st xt : TypeId) (s x : Value) (K : KE) : Prop :=
  match look T st, look T xt with
  | some { kind := .sl e, .. }, some { kind := .int _, .. } =>
    (match look T e with
    | some ei => (match s, x, Nat.ble ei.bytes 1000 with
      | .slice none 0 0, .int .i64 i, true => must (A.andB (A.lt 0 i) (A.le i 1000000000)) (K (.slice (some ⟨nx, 0, none⟩) (A.toN i) (A.toN i)) (upd h nx (.cells true false ei.size (rep (A.toN i) ei.zv.cells.toList))) (nx + 1))
      | _, _, _ => False)
    | none => False)
  | some { kind := .sl e, .. }, some { kind := .sl _, .. } =>
    (match look T e with
    | none => False
    | some ei =>
      match Nat.ble ei.bytes 1000 with
      | false => False
      | true =>
        vsrc h ei.size x fun m src =>
          (match s with
          | .slice none 0 0 => br (Nat.beq m 0) (fun _ => K (.slice none 0 0) h nx)
              (fun _ => must (Nat.ble m 1000000000) (K (.slice (some ⟨nx, 0, none⟩) m m) (upd h nx (.cells true false ei.size src)) (nx + 1)))
          | .slice (some ⟨k, o, none⟩) n c =>
            (match look h k with
            | some .zero => (match n, c with
              | 0, 0 => br (Nat.beq m 0) (fun _ => K (.slice (some ⟨k, o, none⟩) 0 0) h nx)
                  (fun _ => must (Nat.ble m 1000000000) (K (.slice (some ⟨nx, 0, none⟩) m m) (upd h nx (.cells true false ei.size src)) (nx + 1)))
              | _, _ => False)
            | some (.cells true _ sz cs) =>
              br (Nat.ble (n + m) c)
                (fun _ => must (Nat.ble (o + (n + m) * ei.size) cs.length) (K (.slice (some ⟨k, o, none⟩) (n + m) c) (upd h k (.cells true false sz (putN cs (o + n * ei.size) src))) nx))
                (fun _ => must (A.andB (A.andB (Nat.ble (n + m) 1000000000) (Nat.ble (o + n * ei.size) cs.length)) (A.andB (Nat.beq (o + c * ei.size) cs.length) (Nat.beq sz ei.size)))
                  (K (.slice (some ⟨nx, 0, none⟩) (n + m) (n + m)) (upd (rem h k) nx (.cells true false ei.size ((cs.drop o).take (n * ei.size) ++ src))) (nx + 1)))
            | _ => False)
          | _ => False))
  | _, _ => False

section
variable {P : Program} {T : Tab} {ι : Nat → Loc} {B nx : Nat} {h : Heap}

theorem RelH.drawn {w : World} (H : RelH ι B h nx w) (c : Nat) : RelH ι B h nx { w with drawn := c } :=
  H.keep (fun _ _ _ _ _ => rfl) (Nat.le_refl _)

theorem RelH.win {w : World} (H : RelH ι B h nx w) {k : Nat} {wr g : Bool} {sz : Nat} {cs : List Value} (hk : look h k = some (.cells wr g sz cs)) {b off e : Nat} (hι : ι k = .lay b off e) {o n : Nat} (hl : o + n ≤ cs.length) :
    (loadCells ⟨b, off + o, none⟩ n).run P w = .ok (((cs.drop o).take n).map (trS ι)).toArray w := by
  have hlen : (((cs.drop o).take n).map (trS ι)).length = n := by simp; omega
  have := run_loadCells_list (P := P) w ⟨b, off + o, none⟩ (((cs.drop o).take n).map (trS ι)) (fun j v hj => by
    obtain ⟨u, hu, rfl⟩ := map_getElem?_some hj
    rw [List.getElem?_take] at hu
    split at hu
    case isFalse => cases hu
    rw [List.getElem?_drop] at hu
    obtain ⟨b', off', e', hι', hc⟩ := H.cell hk hu
    rw [hι] at hι'
    injection hι' with e1 e2 e3
    subst e1; subst e2
    rw [Addr.add_lit, Nat.add_assoc]
    exact hc)
  rwa [hlen] at this

theorem vsrc_ok {sz : Nat} {x : Value} {G : Nat → List Value → Prop} (hl : vsrc h sz x G) (hx : scT ι nx x) {w : World} (H : RelH ι B h nx w) :
    ∃ m src, G m src ∧ src.length = m * sz ∧ (∀ v ∈ src, scS ι nx v) ∧ Src P w sz (tr ι x) m (src.map (trS ι)) := by
  unfold vsrc at hl
  split at hl
  · exact ⟨0, [], hl, by simp, by simp, ⟨by simp [tr_slice_none, Builtin.lenOf], fun c => by simp [tr_slice_none, Builtin.firstCells]⟩⟩
  · rename_i k o m c
    have hx' : k < nx ∧ ((ι k).isAt = false → m = 0 ∧ c = 0) := hx
    split at hl
    · rename_i wr g sz' cs hk
      obtain ⟨hb, hG⟩ := must_iff.1 hl
      have hb := Nat.le_of_ble_eq_true hb
      refine ⟨m, _, hG, by simp; omega, fun v hv => H.sc k _ hk v (List.mem_of_mem_drop (List.mem_of_mem_take hv)), ?_⟩
      cases hι : ι k with
      | nil p =>
        obtain ⟨rfl, rfl⟩ := hx'.2 (by rw [hι]; rfl)
        refine ⟨by simp [tr, trA, trS, trP, hι, Builtin.lenOf], fun c => ?_⟩
        cases p with
        | none => simp [tr, trA, trS, trP, hι, Builtin.firstCells]
        | some p => simp [tr, trA, trS, trP, hι, Builtin.firstCells, loadCells, loadCellsFrom]
      | lay b off e =>
        refine ⟨by simp [tr, trA, trS, trP, hι, Builtin.lenOf], fun c => ?_⟩
        simp only [tr, trA, trS, trP, hι, Builtin.firstCells]
        exact (H.drawn c).win hk hι hb
    · rename_i hk
      split at hl
      case h_2 => exact hl.elim
      refine ⟨0, [], hl, by simp, by simp, ?_⟩
      have hob := H.obj k _ hk
      cases hι : ι k with
      | nil p =>
        refine ⟨by simp [tr, trA, trS, trP, hι, Builtin.lenOf], fun c => ?_⟩
        cases p with
        | none => simp [tr, trA, trS, trP, hι, Builtin.firstCells]
        | some p => simp [tr, trA, trS, trP, hι, Builtin.firstCells, loadCells, loadCellsFrom]
      | lay b off e => rw [hι] at hob; exact hob.elim
    · rename_i hk
      split at hl
      case h_2 => exact hl.elim
      refine ⟨0, [], hl, by simp, by simp, ?_⟩
      cases hι : ι k with
      | nil p =>
        refine ⟨by simp [tr, trA, trS, trP, hι, Builtin.lenOf], fun c => ?_⟩
        cases p with
        | none => simp [tr, trA, trS, trP, hι, Builtin.firstCells]
        | some p => simp [tr, trA, trS, trP, hι, Builtin.firstCells, loadCells, loadCellsFrom]
      | lay b off e =>
        refine ⟨by simp [tr, trA, trS, trP, hι, Builtin.lenOf], fun c => ?_⟩
        simp [tr, trA, trS, trP, hι, Builtin.firstCells, loadCells, loadCellsFrom]
    · exact hl.elim
  · exact hl.elim

/-- The row that a growing append lays. -/
theorem RelH.grown {w : World} (H : RelH ι B h nx w) (e : TypeId) (cs : List Value) (sz cap need : Nat) (zs : List Value) (hz : zs.length = (cap - need) * sz) (hs : ∀ v ∈ cs, scS ι nx v) :
    RelH (ins ι nx (.lay w.heap.size 0 (cap - need))) B (upd h nx (.cells true false sz cs)) (nx + 1) (w.alloc (.cells (cs.map (trS ι) ++ zs).toArray e)) := by
  refine (H.ext (below_alloc w _)).add _ _ ?_ ?_ (fun k o' hk _ b hb e' => ?_)
  · refine ⟨H.size, by simp, _, e, (MapKept.heap_alloc w _).1, by simp [hz], fun i v hv => ?_⟩
    have hlt := (List.getElem?_eq_some_iff.1 hv).1
    rw [Nat.zero_add, List.getElem?_toArray, List.getElem?_append_left (by simpa using hlt), List.getElem?_map, hv]
    simp only [Option.map_some]
    rw [trS_eq (ι := ι) (fun k hk => ins_lt _ _ hk) (hs v (List.mem_of_getElem? hv))]
  · intro v hv
    exact scS_mono (by omega) (fun k hk => ins_lt _ _ hk) (hs v hv)
  · have h1 := (H.obj k o' hk).lt e'
    have : w.heap.size = b := by simpa [Loc.blk] using hb
    omega

theorem putN_nil {cs : List Value} {o : Nat} : putN cs o [] = cs := by simp [putN]

theorem RelH.put' {w : World} (H : RelH ι B h nx w) {k : Nat} {g : Bool} {sz : Nat} {cs : List Value} (hk : look h k = some (.cells true g sz cs)) {b off e : Nat} (hι : ι k = .lay b off e) {o : Nat} {vs : List Value} (ho : o + vs.length ≤ cs.length)
    (hs : ∀ v ∈ vs, scS ι nx v) :
    ∃ w', (storeCells ⟨b, off + o, none⟩ (vs.map (trS ι))).run P w = .ok () w' ∧ Bel B w w' ∧ RelH ι B (upd h k (.cells true false sz (putN cs o vs))) nx w' := by
  by_cases hne : vs = []
  · subst hne
    refine ⟨w, by simp [storeCells], Bel.refl _ _, ?_⟩
    rw [putN_nil]
    have hob := H.obj k _ hk
    rw [hι] at hob
    refine H.set hk rfl ?_ (fun v hv => H.scell hk hv) rfl (fun _ _ => rfl) (Nat.le_refl _)
    rw [hι]
    exact ⟨hob.1, by simp, hob.2.2⟩
  · obtain ⟨b', off', e', w', hι', h1, h2, h3⟩ := H.put (P := P) hk ho hs hne
    rw [hι] at hι'
    injection hι' with e1 e2 e3
    subst e1; subst e2
    exact ⟨w', h1, h2, h3⟩
end
end Go.Aw
end

/-
  Appending: what it leaves. No condition.
-/
set_option linter.unusedSimpArgs false
set_option linter.unusedVariables false
noncomputable section
namespace Go.Aw
open Go.RowKit

section
variable {P : Program} {T : Tab} {ι : Nat → Loc} {B nx : Nat} {h : Heap}

theorem vsrc_nil {sz m : Nat} {src : List Value} (h1 : src.length = m * sz) (h0 : m = 0) : src = [] := by
  subst h0
  cases src with
  | nil => rfl
  | cons a r => simp at h1

theorem vappend_new {st xt e : TypeId} {ei si : TyI} {d : TypeDesc} (hds : P.underlying st = some (.slice e)) (hdx : P.underlying xt = some d) (hd : ∀ k, d ≠ .int k) (hT : TabOK P T) (he : look T e = some ei) (hby : ei.bytes ≤ 1000)
    {ty : TypeId} {x : Value} {m : Nat} {src olds : List Value} (hlen : src.length = m * ei.size) (hsc : ∀ v ∈ src, scS ι nx v)
    {w : World} (H : RelH ι B h nx w) (hsrc : Src P w ei.size x m (src.map (trS ι))) {base : Option Addr} {n c : Nat} (hlo : olds.length = n * ei.size) (hos : ∀ v ∈ olds, scS ι nx v)
    (hold : (Builtin.firstCells ei.size n (.slice base n c)).run P w.drew = .ok (olds.map (trS ι)).toArray w.drew) (hroom : c < n + m) (hm : n + m ≤ 1000000000) {K : KE}
    (hK : K (.slice (some ⟨nx, 0, none⟩) (n + m) (n + m)) (upd h nx (.cells true false ei.size (olds ++ src))) (nx + 1)) :
    Does P ι B nx w (Builtin.append_ #[st, xt] ty #[.slice base n c, x]) K := by
  have hei := hT e _ he
  obtain ⟨inf, hi, h1, h2, h3⟩ := hei.info
  obtain ⟨cap, hc, hrun⟩ := run_append_out (ty := ty) hds hdx hd hi h3 w base n c m x (src.map (trS ι)) (olds.map (trS ι)) (by rw [h1]; exact hsrc) (by rw [h1]; exact hold) hroom (by omega) hm
  have H' : RelH ι B h nx w.drew := H.drawn _
  have hg := H'.grown e (olds ++ src) ei.size cap (n + m) (Builtin.zeroCells ei.zv.cells (cap - (n + m))).toList (by
    rw [Array.length_toList, size_zeroCells, hei.zs]) (by
    intro v hv
    rcases List.mem_append.1 hv with hv | hv
    · exact hos v hv
    · exact hsc v hv)
  refine ⟨_, _, _, _, _, hK, ?_, hg, ?_, fun k hk => ins_lt _ _ hk, by omega, ?_⟩
  · simp [scT, scA, scS, scP, ins_same, Loc.isAt]
  · exact Bel.trans (⟨rfl, rfl, rfl, Nat.le_refl _, fun _ _ => rfl, Nat.le_succ _⟩ : Bel B w w.drew) ((below_alloc w.drew _).mono H.size)
  · rw [hrun]
    simp only [tr, trA, trS, trP, ins_same, List.map_append, Nat.add_zero]
    congr 2
    · omega

theorem vmakeSlice_ok (hT : TabOK P T) {t : TypeId} {l c : Value} {K : KE} (hl : vmakeSlice std T h nx t l c K) {w : World} (H : RelH ι B h nx w) :
    Does P ι B nx w (Instr.makeSlice t (tr ι l) (tr ι c)) K := by
  unfold vmakeSlice at hl
  split at hl
  case h_2 => exact hl.elim
  rename_i e s1 b1 z1 i j ht
  split at hl
  case h_2 => exact hl.elim
  rename_i ei he
  obtain ⟨hb, hK⟩ := must_iff.1 hl
  simp only [std, Bool.and_eq_true, decide_eq_true_eq] at hb hK
  obtain ⟨⟨hb1, hb2⟩, hb3, hb4⟩ := hb
  have hb4 := Nat.le_of_ble_eq_true hb4
  have hts := (hT t _ ht).sl rfl
  have hei := hT e _ he
  obtain ⟨inf, hi, hi1, hi2, hi3⟩ := hei.info
  have hz := zv_cells hT he
  have hrep : ∀ v ∈ rep j.toNat ei.zv.cells.toList, gS v = true := by
    intro v hv
    simp only [rep, List.mem_flatten, List.mem_replicate] at hv
    obtain ⟨l, ⟨_, rfl⟩, hv⟩ := hv
    exact hz v hv
  have hcells : madeCells ei.zv.cells (j.toNat * inf.size) = (rep j.toNat ei.zv.cells.toList).toArray := by
    have := zeroCells_rep ei.zv.cells j.toNat
    rw [← this, hi1, ← hei.zs]
    rfl
  have h3 : (inf.bytes : Int) * j ≤ 281474976710656 := by
    have h3 : inf.bytes * j.toNat ≤ 1000 * 1000000000 := Nat.mul_le_mul (by omega) (by omega)
    have h4 : ((inf.bytes * j.toNat : Nat) : Int) = inf.bytes * j := by rw [Int.natCast_mul, Int.toNat_of_nonneg (by omega)]
    omega
  have hrun := run_make (P := P) w t e inf ei.zv hts hi hi3 .i64 .i64 i j hb1 hb2 h3 (by omega)
  have hf := H.fresh e (madeCells ei.zv.cells (j.toNat * inf.size)) (rep j.toNat ei.zv.cells.toList) ei.size (by rw [hcells, map_trS_of hrep]) (fun v hv => scS_g (hrep v hv))
  refine ⟨_, _, _, _, _, hK, ?_, hf, ?_, fun k hk => ins_lt _ _ hk, by omega, ?_⟩
  · simp [scT, scA, scS, scP, ins_same, Loc.isAt]
  · exact (below_alloc w _).mono H.size
  · rw [tr_int, tr_int, hrun]
    simp [tr, trA, trS, trP, ins_same]

theorem vappend_ok (hT : TabOK P T) {st xt ty : TypeId} {s x : Value} {K : KE} (hl : vappend std T h nx st xt s x K) (hs : scT ι nx s) (hx : scT ι nx x) {w : World} (H : RelH ι B h nx w) :
    Does P ι B nx w (Builtin.append_ #[st, xt] ty #[tr ι s, tr ι x]) K := by
  unfold vappend at hl
  split at hl
  case h_3 => exact hl.elim
  case h_1 =>
    rename_i e s1 b1 z1 ik s2 b2 z2 hst hxt
    split at hl
    case h_2 => exact hl.elim
    rename_i ei he
    split at hl
    case h_2 => exact hl.elim
    rename_i i hby
    have hby := Nat.le_of_ble_eq_true hby
    obtain ⟨hb, hK⟩ := must_iff.1 hl
    simp only [std, Bool.and_eq_true, decide_eq_true_eq] at hb hK
    have hds := (hT st _ hst).sl rfl
    have hdx := (hT xt _ hxt).int rfl
    have hei := hT e _ he
    obtain ⟨inf, hi, hi1, hi2, hi3⟩ := hei.info
    have hz := zv_cells hT he
    have hrep : ∀ v ∈ rep i.toNat ei.zv.cells.toList, gS v = true := by
      intro v hv
      simp only [rep, List.mem_flatten, List.mem_replicate] at hv
      obtain ⟨l, ⟨_, rfl⟩, hv⟩ := hv
      exact hz v hv
    have hg := (H.drawn (w.drawn + 1)).grown e (rep i.toNat ei.zv.cells.toList) ei.size (grownCap w i.toNat 0 e) i.toNat (Builtin.zeroCells ei.zv.cells (grownCap w i.toNat 0 e - i.toNat)).toList (by
      rw [Array.length_toList, size_zeroCells, hei.zs]) (fun v hv => scS_g (hrep v hv))
    refine ⟨_, _, _, _, _, hK, ?_, hg, ?_, fun k hk => ins_lt _ _ hk, by omega, ?_⟩
    · simp [scT, scA, scS, scP, ins_same, Loc.isAt]
    · exact Bel.trans (⟨rfl, rfl, rfl, Nat.le_refl _, fun _ _ => rfl, Nat.le_succ _⟩ : Bel B w w.drew) ((below_alloc w.drew _).mono H.size)
    · have hn0 : i.toNat ≠ 0 := by omega
      have hpos := hei.pos
      have hns : ¬ (i.toNat * ei.size = 0) := Nat.pos_iff_ne_zero.1 (Nat.mul_pos (by omega) hpos)
      have hwr : IntKind.i64.wrap i = i := IntWalk.i64_in i ⟨by omega, by omega⟩
      have hfit : Builtin.nextslicecap i.toNat 0 * inf.bytes ≤ 281474976710656 := growslice_fits (by omega) (by
        have := Nat.mul_le_mul (show i.toNat ≤ 1000000000 by omega) (show inf.bytes ≤ 1000 by omega); omega)
      have c1 : ¬ (i < 0) := by omega
      have c2 : ¬ (281474976710656 < i * (inf.bytes : Int)) := by
        have h3 : i.toNat * inf.bytes ≤ 1000000000 * 1000 := Nat.mul_le_mul (by omega) (by omega)
        have h4 : ((i.toNat * inf.bytes : Nat) : Int) = i * inf.bytes := by rw [Int.natCast_mul, Int.toNat_of_nonneg (by omega)]
        omega
      have c3 : ¬ (i.toNat = 0) := hn0
      have c4 : ¬ (9223372036854775807 < (i.toNat : Int)) := by omega
      have c5 : ¬ (281474976710656 < Builtin.nextslicecap i.toNat 0 * inf.bytes) := by omega
      have c6 : ¬ (i.toNat = 0 ∨ inf.size = 0) := by omega
      have hz' : (Builtin.zeroCells ei.zv.cells i.toNat).toList = rep i.toNat ei.zv.cells.toList := zeroCells_rep _ _
      rw [tr_slice_none, tr_int]
      simp only [tr, trA, trS, trP, ins_same, Nat.add_zero]
      simp [Builtin.append_, run_underlying hds, run_underlying hdx, sizeOf, typeInfo, zeroValue, asInt, asIntOf, hi, hi3, hwr, c1, c2, c3, c4, c5, c6, Question.forced, newRow, grownCap, Builtin.firstCells, map_trS_of hrep]
      have d1 : ¬ (i ≤ 0) := by omega
      have d2 : ¬ (9223372036854775807 < max i 0) := by omega
      have d3 : ¬ (i.toNat * inf.size = 0) := by rw [hi1]; exact hns
      have d4 : i.toNat + (grownCap w i.toNat 0 e - i.toNat) = grownCap w i.toNat 0 e := by
        have := grownCap_ge w i.toNat 0 e
        omega
      simp only [grownCap] at d4
      rw [if_neg d1, if_neg d2, if_neg d3, d4, ← hz', ← Array.toList_append]
  rename_i e s1 b1 z1 e' s2 b2 z2 hst hxt
  split at hl
  · exact hl.elim
  rename_i ei he
  split at hl
  · exact hl.elim
  rename_i hby
  have hby := Nat.le_of_ble_eq_true hby
  have hds := (hT st _ hst).sl rfl
  have hdx := (hT xt _ hxt).sl rfl
  have hd : ∀ k, TypeDesc.slice e' ≠ .int k := fun k e => by cases e
  have hei := hT e _ he
  obtain ⟨inf, hi, hi1, hi2, hi3⟩ := hei.info
  obtain ⟨m, src, hG, hlen, hsc, hsrc⟩ := vsrc_ok (P := P) hl hx H
  have hfirst0 : ∀ (p : Option Addr), (Builtin.firstCells ei.size 0 (.slice p 0 0)).run P w.drew = .ok (([] : List Value).map (trS ι)).toArray w.drew := by
    intro p
    cases p <;> simp [Builtin.firstCells, loadCells, loadCellsFrom]
  split at hG
  · rcases br_cases hG with ⟨hm, hK⟩ | ⟨hm, hK⟩
    · have hm := beq_true hm
      have := vsrc_nil hlen hm
      subst this; subst hm
      refine ⟨_, _, _, ι, w, hK, by simp [scT, scA, scS, scP], H, Bel.refl _ _, fun _ _ => rfl, Nat.le_refl _, ?_⟩
      rw [tr_slice_none, run_append_in hds hdx hd hi w none 0 0 0 (tr ι x) [] (by rw [hi1]; exact hsrc) (by omega)]
      rfl
    · obtain ⟨h1, hK⟩ := must_iff.1 hK
      have hm := beq_false hm
      have h1 := Nat.le_of_ble_eq_true h1
      rw [tr_slice_none]
      exact vappend_new (si := ei) (olds := []) hds hdx hd hT he hby hlen hsc H hsrc (by simp) (by simp) (hfirst0 none) (by omega) (by omega) (by simpa using hK)
  · rename_i k o n c
    have hs' : k < nx ∧ ((ι k).isAt = false → n = 0 ∧ c = 0) := hs
    split at hG
    · rename_i hk
      split at hG
      case h_2 => exact hG.elim
      have hob := H.obj k _ hk
      cases hι : ι k with
      | lay b off ex => rw [hι] at hob; exact hob.elim
      | nil p =>
        have htr : tr ι (.slice (some ⟨k, o, none⟩) 0 0) = .slice p 0 0 := by simp [tr, trA, trS, trP, hι]
        rw [htr]
        rcases br_cases hG with ⟨hm, hK⟩ | ⟨hm, hK⟩
        · have hm := beq_true hm
          have := vsrc_nil hlen hm
          subst this; subst hm
          refine ⟨_, _, _, ι, w, hK, hs, H, Bel.refl _ _, fun _ _ => rfl, Nat.le_refl _, ?_⟩
          rw [htr, run_append_in hds hdx hd hi w p 0 0 0 (tr ι x) [] (by rw [hi1]; exact hsrc) (by omega)]
          cases p <;> simp [storeCells]
        · obtain ⟨h1, hK⟩ := must_iff.1 hK
          have hm := beq_false hm
          have h1 := Nat.le_of_ble_eq_true h1
          exact vappend_new (si := ei) (olds := []) hds hdx hd hT he hby hlen hsc H hsrc (by simp) (by simp) (hfirst0 p) (by omega) (by omega) (by simpa using hK)
    · rename_i g sz cs hk
      rcases br_cases hG with ⟨hm, hK⟩ | ⟨hm, hK⟩
      · obtain ⟨hb, hK⟩ := must_iff.1 hK
        have hb := Nat.le_of_ble_eq_true hb
        have hm := Nat.le_of_ble_eq_true hm
        have hmul : (n + m) * ei.size = n * ei.size + m * ei.size := Nat.add_mul _ _ _
        cases hι : ι k with
        | nil p =>
          obtain ⟨rfl, rfl⟩ := hs'.2 (by rw [hι]; rfl)
          have hm0 : m = 0 := by omega
          have := vsrc_nil hlen hm0
          subst this; subst hm0
          have htr : tr ι (.slice (some ⟨k, o, none⟩) 0 0) = .slice p 0 0 := by simp [tr, trA, trS, trP, hι]
          rw [putN_nil] at hK
          refine ⟨_, _, _, ι, w, hK, by exact ⟨hs'.1, fun _ => ⟨rfl, rfl⟩⟩, ?_, Bel.refl _ _, fun _ _ => rfl, Nat.le_refl _, ?_⟩
          · refine H.set hk rfl ?_ (fun v hv => H.scell hk hv) rfl (fun _ _ => rfl) (Nat.le_refl _)
            have hob := H.obj k _ hk
            rw [hι] at hob ⊢
            exact hob
          · rw [htr, run_append_in hds hdx hd hi w p 0 0 0 (tr ι x) [] (by rw [hi1]; exact hsrc) (by omega)]
            cases p <;> simp [storeCells, tr, trA, trS, trP, hι]
        | lay b off ex =>
          obtain ⟨w', h1, h2, h3⟩ := H.put' (P := P) hk hι (o := o + n * ei.size) (vs := src) (by omega) hsc
          have htr : ∀ n c, tr ι (.slice (some ⟨k, o, none⟩) n c) = .slice (some ⟨b, off + o, none⟩) n (c + ex) := fun n c => by simp [tr, trA, trS, trP, hι]
          refine ⟨_, _, _, ι, w', hK, ⟨hs'.1, fun h => by rw [hι] at h; cases h⟩, h3, h2, fun _ _ => rfl, Nat.le_refl _, ?_⟩
          rw [htr, htr, run_append_in hds hdx hd hi w (some ⟨b, off + o, none⟩) n (c + ex) m (tr ι x) (src.map (trS ι)) (by rw [hi1]; exact hsrc) (by omega)]
          simp only [hi1, Addr.add_lit, Nat.add_assoc] at h1 ⊢
          rw [h1]
          rfl
      · obtain ⟨hb, hK'⟩ := must_iff.1 hK
        clear hK
        simp only [std, Bool.and_eq_true] at hb
        obtain ⟨⟨hb1, hb2⟩, hb3, hb4⟩ := hb
        have hb1 := Nat.le_of_ble_eq_true hb1
        have hb2 := Nat.le_of_ble_eq_true hb2
        have hb3 := beq_true hb3
        have hb4 := beq_true hb4
        subst hb4
        have hm : ¬ (n + m ≤ c) := fun hle => by
          have := Nat.ble_eq_true_of_le hle
          rw [hm] at this; cases this
        have hmul : (n + m) * ei.size = n * ei.size + m * ei.size := Nat.add_mul _ _ _
        have hoc : ∀ v ∈ (cs.drop o).take (n * ei.size), scS ι nx v := fun v hv => H.scell hk (List.mem_of_mem_drop (List.mem_of_mem_take hv))
        have hol : ((cs.drop o).take (n * ei.size)).length = n * ei.size := by simp; omega
        cases hι : ι k with
        | nil p =>
          obtain ⟨rfl, rfl⟩ := hs'.2 (by rw [hι]; rfl)
          have htr : tr ι (.slice (some ⟨k, o, none⟩) 0 0) = .slice p 0 0 := by simp [tr, trA, trS, trP, hι]
          rw [htr]
          refine vappend_new (si := ei) (olds := []) hds hdx hd hT he hby hlen hsc (H.rem k) hsrc (by simp) (by simp) (hfirst0 p) (by omega) (by omega) ?_
          simpa using hK'
        | lay b off ex =>
          have htr : tr ι (.slice (some ⟨k, o, none⟩) n c) = .slice (some ⟨b, off + o, none⟩) n (c + ex) := by simp [tr, trA, trS, trP, hι]
          rw [htr]
          by_cases hin : n + m ≤ c + ex
          · -- in place, beyond what was known
            have hob := H.obj k _ hk
            rw [hι] at hob
            obtain ⟨hB, _, arr, t, a1, a2, a3⟩ := hob
            have hone : ∀ v ∈ src.map (trS ι), v.oneCell' = true := by
              intro v hv
              obtain ⟨u, hu, rfl⟩ := List.mem_map.1 hv
              exact (trS_oneCell (hsc u hu)).1
            have hroom2 : (n + m) * ei.size ≤ (c + ex) * ei.size := Nat.mul_le_mul_right _ hin
            have hcx : (c + ex) * ei.size = c * ei.size + ex * ei.size := Nat.add_mul _ _ _
            obtain ⟨w', arr', e1, e2, e3, e4, e5⟩ := run_storeCells (P := P) (off := off + (o + n * ei.size)) (src.map (trS ι)) 0 w arr hone a1 (by simp; omega)
            have Hr : RelH ι B (rem h k) nx w' := by
              refine (H.rem k).keep (fun j o' b' hj hb' => e2.other b' (fun e => ?_)) (Nat.le_of_eq e2.size.symm)
              subst e
              rw [look_rem] at hj
              split at hj
              · cases hj
              · rename_i hjk
                exact H.sep k j _ o' hk hj (fun e => hjk e.symm) rfl b' (by rw [hι]; rfl) hb'
            have hnew := Hr.add (.cells true false ei.size ((cs.drop o).take (n * ei.size) ++ src)) (.lay b (off + o) (c + ex - (n + m))) (by
              refine ⟨hB, by simp, arr', t, e3, ?_, fun i v hv => ?_⟩
              · have : (c + ex - (n + m)) * ei.size = (c + ex) * ei.size - (n + m) * ei.size := Nat.sub_mul _ _ _
                rw [e4, List.length_append, hol, hlen]
                omega
              · rw [e5]
                simp only [List.length_map, Nat.add_zero]
                have hmem := List.mem_of_getElem? hv
                have hscv : scS ι nx v := by
                  rcases List.mem_append.1 hmem with hv | hv
                  · exact hoc v hv
                  · exact hsc v hv
                rw [trS_eq (fun k hk => ins_lt _ _ hk) hscv]
                by_cases hi' : i < n * ei.size
                · rw [List.getElem?_append_left (by omega)] at hv
                  rw [List.getElem?_take_of_lt hi', List.getElem?_drop] at hv
                  rw [if_neg (by omega), Nat.add_assoc]
                  exact a3 _ v hv
                · rw [List.getElem?_append_right (by omega), hol] at hv
                  have := (List.getElem?_eq_some_iff.1 hv).1
                  rw [if_pos (by omega), show off + o + i - (off + (o + n * ei.size)) = i - n * ei.size by omega, List.getElem?_map, hv]
                  rfl) (by
              intro v hv
              refine scS_mono (by omega) (fun k hk => ins_lt _ _ hk) ?_
              rcases List.mem_append.1 hv with hv | hv
              · exact hoc v hv
              · exact hsc v hv) (by
              intro j o' hj _ b' hb'
              have : b = b' := by simpa [Loc.blk] using hb'
              subst this
              rw [look_rem] at hj
              split at hj
              · cases hj
              · rename_i hjk
                exact H.sep k j _ o' hk hj (fun e => hjk e.symm) rfl b (by rw [hι]; rfl))
            refine ⟨_, _, _, _, w', hK', ?_, hnew, e2.below hB, fun k hk => ins_lt _ _ hk, by omega, ?_⟩
            · simp [scT, scA, scS, scP, ins_same, Loc.isAt]
            · rw [run_append_in hds hdx hd hi w (some ⟨b, off + o, none⟩) n (c + ex) m (tr ι x) (src.map (trS ι)) (by rw [hi1]; exact hsrc) hin]
              simp only [hi1, Addr.add_lit, Nat.add_assoc] at e1 ⊢
              rw [e1]
              simp only [Result.andThen_ok, tr, trA, trS, trP, ins_same, Nat.add_zero]
              congr 2
              omega
          · refine vappend_new (si := ei) (olds := (cs.drop o).take (n * ei.size)) hds hdx hd hT he hby hlen hsc (H.rem k) hsrc hol hoc ?_ (by omega) (by omega) hK'
            simp only [Builtin.firstCells]
            exact (H.drawn _).win hk hι (by omega)
    · exact hG.elim
  · exact hG.elim
end
end Go.Aw
end

/-
  Maps with keys of one struct of plain fields; clearing a slice. No condition.
-/
set_option linter.unusedSimpArgs false
set_option linter.unusedVariables false
noncomputable section
namespace Go.Aw
open Go.RowKit

def keyFields (T : Tab) (cs : List Value) : List (Nat × TypeId) → Bool
  | [] => true
  | (o, t) :: r => match look T t, nth cs o with
    | some fi, some _ => (match fi.kind with
      | .int _ => keyFields T cs r
      | .bool => keyFields T cs r
      | _ => false)
    | _, _ => false

def vfind (A : Ar) (T : Tab) (kt : TypeId) (key : Value) : List (Value × Value) → Option (Option Value)
  | [] => some none
  | (k, v) :: r => match veq A T 100 kt key k with
    | none => none
    | some true => some (some v)
    | some false => vfind A T kt key r

def vmakeMap (h : Heap) (nx : Nat) (K : KE) : Prop := K (.map (some nx)) (upd h nx (.map [])) (nx + 1)

def vlookup (A : Ar) (T : Tab) (h : Heap) (t : TypeId) (x key : Value) (ok : Bool) (K : Value → Prop) : Prop :=
  match look T t, x, key with
  | some { kind := .mp kt et, .. }, .map (some k), .agg cs =>
    (match look T kt, look T et, look h k with
    | some { kind := .st fs, .. }, some ei, some (.map es) =>
      (match keyFields T cs.toList fs, allG cs.toList, vfind A T kt (.agg cs) es with
      | true, true, some r =>
        (match ok, r with
        | true, some v => K (.tuple #[v, .bool true])
        | true, none => K (.tuple #[ei.zv, .bool false])
        | false, some v => K v
        | false, none => K ei.zv)
      | _, _, _ => False)
    | _, _, _ => False)
  | _, _, _ => False

def vmapUpdate (A : Ar) (T : Tab) (h : Heap) (nx : Nat) (t : TypeId) (x key v : Value) (K : KE) : Prop :=
  match look T t, x, key, (match v with | .agg _ => false | .tuple _ => false | _ => true) with
  | some { kind := .mp kt _, .. }, .map (some k), .agg cs, true =>
    (match look T kt, look h k with
    | some { kind := .st fs, .. }, some (.map es) =>
      (match keyFields T cs.toList fs, allG cs.toList, vfind A T kt (.agg cs) es with
      | true, true, some none => K undef (upd h k (.map (es ++ [(.agg cs, v)]))) nx
      | _, _, _ => False)
    | _, _ => False)
  | _, _, _, _ => False

def vclear (T : Tab) (h : Heap) (nx : Nat) (t : TypeId) (x : Value) (K : KE) : Prop :=
  match look T t, x with
  | some { kind := .sl _, .. }, .slice none 0 0 => K (.tuple #[]) h nx
  | some { kind := .sl e, .. }, .slice (some ⟨k, o, none⟩) n _ =>
    (match n with
    | 0 => K (.tuple #[]) h nx
    | _ => (match look T e, look h k with
      | some ei, some (.cells true _ sz cs) => must (Nat.ble (o + n * ei.size) cs.length) (K (.tuple #[]) (upd h k (.cells true false sz (putN cs o (rep n ei.zv.cells.toList)))) nx)
      | _, _ => False))
  | _, _ => False

section
variable {P : Program} {T : Tab} {ι : Nat → Loc} {B nx : Nat} {h : Heap}

theorem checkKey_ok (hT : TabOK P T) {t : TypeId} {fs : List (Nat × TypeId)} {s1 b1 : Nat} {z1 : Value} (ht : look T t = some ⟨.st fs, s1, b1, z1⟩) {cs : Array Value} (hk : keyFields T cs.toList fs = true) (em : Bool) (d : Nat) (w : World) :
    (Instr.checkKey em (d + 2) t (.agg cs)).run P w = .ok () w := by
  have hti := hT t _ ht
  obtain ⟨f, hd, hfs, hn⟩ := hti.st rfl
  rw [show d + 2 = (d + 1) + 1 from rfl, Instr.checkKey]
  simp only [Sem.run_bind, run_underlying hd, Result.andThen_ok]
  rw [← Array.forIn_toList]
  subst hfs
  clear hd ht hti
  generalize f.toList = L at hk hn
  induction L with
  | nil => simp
  | cons x L ih =>
    have hname : x.name ≠ "_" := hn x (by simp)
    simp only [List.map_cons, keyFields] at hk
    split at hk
    case h_2 => cases hk
    rename_i fi v hfi hv
    have hleaf : (∃ d, P.underlying x.type = some d ∧ ((∃ k, d = .int k) ∨ d = .bool)) ∧ fi.isAgg = false ∧ keyFields T cs.toList (L.map fun f => (f.offset, f.type)) = true := by
      split at hk
      · rename_i k hki
        exact ⟨⟨_, (hT _ _ hfi).int hki, .inl ⟨_, rfl⟩⟩, by simp [TyI.isAgg, hki], hk⟩
      · rename_i hki
        exact ⟨⟨_, (hT _ _ hfi).bool hki, .inr rfl⟩, by simp [TyI.isAgg, hki], hk⟩
      · cases hk
    obtain ⟨⟨dd, hdd, hdk⟩, hagg, hk'⟩ := hleaf
    have e1 := run_part_one (P := P) hT hfi hagg hv w
    simp only [Array.toArray_toList] at e1
    have e2 : (Instr.checkKey em (d + 1) x.type v).run P w = .ok () w := by
      rw [Instr.checkKey]
      simp only [Sem.run_bind, run_underlying hdd, Result.andThen_ok]
      rcases hdk with ⟨k, rfl⟩ | rfl <;> simp
    simp only [List.forIn_cons, Sem.run_bind, hname, ne_eq, not_false_eq_true, if_true, e1, Result.andThen_ok, e2, Sem.run_pure]
    exact ih hk' (fun y hy => hn y (by simp [hy]))

theorem findAsking_ok (hT : TabOK P T) {kt : TypeId} {key : Value} : ∀ (ents : List MapEntry) (es : List (Value × Value)) (f : Value → Value) (r : Option Value) (i : Nat), (∀ e ∈ es, gA e.1 = true) →
    ents.map (fun e => (e.key, e.val)) = es.map (fun e => (e.1, f e.2)) → vfind std T kt key es = some r → ∀ w,
    ∃ j, (Instr.findAsking kt key ents i).run P w = .ok (r.map fun v => (j, f v)) w
  | [], es, f, r, i, hg, he, hr, w => by
    cases es with
    | nil => simp [vfind] at hr; subst hr; exact ⟨0, by simp [Instr.findAsking]⟩
    | cons a b => simp at he
  | e :: ents, es, f, r, i, hg, he, hr, w => by
    cases es with
    | nil => simp at he
    | cons a es =>
      obtain ⟨k, v⟩ := a
      simp only [List.map_cons, List.cons.injEq, Prod.mk.injEq] at he
      obtain ⟨⟨he1, he2⟩, he3⟩ := he
      simp only [vfind] at hr
      split at hr
      · cases hr
      · rename_i hq
        have : (Op.equal kt key k).run P w = .ok _ w := veq_ok (P := P) hT 100 _ _ _ _ hq 10000 (by omega) w
        injection hr with hr
        subst hr
        refine ⟨i, ?_⟩
        simp only [Instr.findAsking, Sem.run_bind, he1, this, Result.andThen_ok, if_true, Sem.run_pure, he2, Option.map_some]
      · rename_i hq
        have : (Op.equal kt key k).run P w = .ok _ w := veq_ok (P := P) hT 100 _ _ _ _ hq 10000 (by omega) w
        obtain ⟨j, hj⟩ := findAsking_ok hT ents es f r (i + 1) (fun e he => hg e (by simp [he])) he3 hr w
        refine ⟨j, ?_⟩
        simp only [Instr.findAsking, Sem.run_bind, he1, this, Result.andThen_ok, Bool.false_eq_true, if_false, hj]

theorem findKey_ok (hT : TabOK P T) {kt : TypeId} {fs : List (Nat × TypeId)} {s1 b1 : Nat} {z1 : Value} (ht : look T kt = some ⟨.st fs, s1, b1, z1⟩) {key : Value} {ents : List MapEntry} {es : List (Value × Value)} {f : Value → Value} {r : Option Value} (hg : ∀ e ∈ es, gA e.1 = true)
    (he : ents.map (fun e => (e.key, e.val)) = es.map (fun e => (e.1, f e.2))) (hr : vfind std T kt key es = some r) (w : World) :
    ∃ j, (Instr.findKey kt key ents).run P w = .ok (r.map fun v => (j, f v)) w := by
  obtain ⟨fl, hd, _, _⟩ := (hT kt _ ht).st rfl
  cases ents with
  | nil =>
    cases es with
    | nil => simp [vfind] at hr; subst hr; exact ⟨0, by simp [Instr.findKey, run_underlying hd, Instr.findNow]⟩
    | cons a b => simp at he
  | cons e ents =>
    obtain ⟨j, hj⟩ := findAsking_ok hT (e :: ents) es f r 0 hg he hr w
    exact ⟨j, by simp [Instr.findKey, run_underlying hd, Instr.findNow, Instr.sameNow, hj]⟩

theorem vmakeMap_ok {t : TypeId} {K : KE} (hl : vmakeMap h nx K) {w : World} (H : RelH ι B h nx w) : Does P ι B nx w (Instr.makeMap t none) K := by
  have hf := H.new (.map #[] 0) (.map []) ⟨H.size, #[], 0, (MapKept.heap_alloc w _).1, by simp, by simp⟩ (by intro e he; cases he)
  refine ⟨_, _, _, _, _, hl, ?_, hf, ?_, fun k hk => ins_lt _ _ hk, by omega, ?_⟩
  · simp [scT, scA, scS, scP, ins_same, Loc.isAt]
  · exact (below_alloc w _).mono H.size
  · simp [Instr.makeMap, tr, trA, trS, trP, ins_same]

theorem vlookup_ok (hT : TabOK P T) {t : TypeId} {x key : Value} {ok : Bool} {K : Value → Prop} (hl : vlookup std T h t x key ok K) (hx : scT ι nx x) {w0 : World} (H0 : RelH ι B h nx w0) :
    ∃ v, K v ∧ scT ι nx v ∧ ∀ w, RelH ι B h nx w → (Instr.lookup t (tr ι x) (tr ι key) ok).run P w = .ok (tr ι v) w := by
  unfold vlookup at hl
  split at hl
  case h_2 => exact hl.elim
  rename_i kt et s1 b1 z1 k cs ht
  split at hl
  case h_2 => exact hl.elim
  rename_i fs s2 b2 z2 ei es hkt het hk
  split at hl
  case h_2 => exact hl.elim
  rename_i r hkf hg hfind
  have htr : tr ι (.agg cs) = .agg cs := tr_g (by simpa [gT, gA] using hg)
  have hm := (hT t _ ht).mp rfl
  have hei := hT et _ het
  have hx' : k < nx ∧ (ι k).isAt = true := hx
  have hz : scA ι nx ei.zv := scA_g hei.zg
  have hrun : ∀ w, RelH ι B h nx w → (Instr.lookup t (tr ι (.map (some k))) (tr ι (.agg cs)) ok).run P w =
      .ok (if ok then .tuple #[(match r with | some v => trS ι v | none => ei.zv), .bool r.isSome] else (match r with | some v => trS ι v | none => ei.zv)) w := by
    intro w H
    have hob := H.obj k _ hk
    cases hι : ι k with
    | nil p => rw [hι] at hob; exact hob.elim
    | lay b o e =>
      rw [hι] at hob
      obtain ⟨hB, ents, clock, h1, h2, h3⟩ := hob
      obtain ⟨j, hj⟩ := findKey_ok hT hkt h3 h2 hfind w
      have hck := checkKey_ok hT hkt hkf ents.isEmpty 9998 w
      have e1 : tr ι (.map (some k)) = .map (some b) := by simp [tr, trA, trS, trP, hι]
      rw [e1, htr]
      simp only [Instr.lookup, Sem.run_bind, run_underlying hm, Result.andThen_ok, MapKept.run_getObj_map h1, Sem.run_pure, hck, hj]
      cases r with
      | none => cases ok <;> simp [hei.zero]
      | some v => cases ok <;> simp
  have hsc : ∀ v, r = some v → scS ι nx v := by
    intro v hv
    subst hv
    have hos := H0.sc k _ hk
    clear hrun hl H0 hk
    induction es with
    | nil => simp [vfind] at hfind
    | cons a es ih =>
      obtain ⟨k', v'⟩ := a
      simp only [vfind] at hfind
      split at hfind
      · cases hfind
      · injection hfind with hfind
        injection hfind with hfind
        subst hfind
        exact hos (k', v') (by simp)
      · exact ih hfind (fun e he => hos e (by simp [he]))
  split at hl
  · rename_i v
    have hs := hsc v rfl
    refine ⟨_, hl, ?_, fun w H => ?_⟩
    · intro u hu
      simp at hu
      rcases hu with rfl | rfl
      · exact scA_of_S hs
      · simp [scA, scS, scP]
    · rw [hrun w H]
      have e2 : trA ι (.bool true) = .bool true := rfl
      simp [tr, trA_of_S hs, e2]
  · refine ⟨_, hl, ?_, fun w H => ?_⟩
    · intro u hu
      simp at hu
      rcases hu with rfl | rfl
      · exact hz
      · simp [scA, scS, scP]
    · rw [hrun w H]
      have : trA ι ei.zv = ei.zv := trA_g hei.zg
      simp [tr, this]
      simp [trA, trS, trP]
  · rename_i v
    have hs := hsc v rfl
    exact ⟨_, hl, scT_of_A (scA_of_S hs), fun w H => by rw [hrun w H, tr_of_S hs]; rfl⟩
  · exact ⟨_, hl, scT_of_A hz, fun w H => by rw [hrun w H, tr_of_A hz, trA_g hei.zg]; rfl⟩

theorem vmapUpdate_ok (hT : TabOK P T) {t : TypeId} {x key v : Value} {K : KE} (hl : vmapUpdate std T h nx t x key v K) (hx : scT ι nx x) (hv : scT ι nx v) {w : World} (H : RelH ι B h nx w) :
    ∃ h' w', K undef h' nx ∧ RelH ι B h' nx w' ∧ Bel B w w' ∧ (Instr.mapUpdate t (tr ι x) (tr ι key) (tr ι v)).run P w = .ok () w' := by
  unfold vmapUpdate at hl
  split at hl
  case h_2 => exact hl.elim
  rename_i kt et s1 b1 z1 k cs ht hag
  split at hl
  case h_2 => exact hl.elim
  rename_i fs s2 b2 z2 es hkt hk
  split at hl
  case h_2 => exact hl.elim
  rename_i hkf hg hfind
  have hvS : scS ι nx v := by
    cases v <;> first | exact hv | (simp at hag)
  have htr : tr ι (.agg cs) = .agg cs := tr_g (by simpa [gT, gA] using hg)
  have hm := (hT t _ ht).mp rfl
  have hob := H.obj k _ hk
  cases hι : ι k with
  | nil p => rw [hι] at hob; exact hob.elim
  | lay b o e =>
    rw [hι] at hob
    obtain ⟨hB, ents, clock, h1, h2, h3⟩ := hob
    obtain ⟨j, hj⟩ := findKey_ok hT hkt h3 h2 hfind w
    have hck := checkKey_ok hT hkt hkf false 9998 w
    have e1 : tr ι (.map (some k)) = .map (some b) := by simp [tr, trA, trS, trP, hι]
    refine ⟨_, { w with heap := w.heap.setIfInBounds b (.map (ents.push ⟨.agg cs, trS ι v, clock⟩) (clock + 1)) }, hl, ?_, ?_, ?_⟩
    · refine H.set hk rfl ?_ ?_ rfl (fun c hc => ?_) (by simp)
      · rw [hι]
        have hlt := (Array.getElem?_eq_some_iff.1 h1).1
        refine ⟨hB, ents.push ⟨.agg cs, trS ι v, clock⟩, clock + 1, by simp [Array.getElem?_setIfInBounds_self_of_lt hlt], by simp [h2], fun e he => ?_⟩
        rcases List.mem_append.1 he with he | he
        · exact h3 e he
        · simp at he
          subst he
          simpa [gA] using hg
      · intro e he
        rcases List.mem_append.1 he with he | he
        · exact H.sc k _ hk e he
        · simp at he
          subst he
          exact hvS
      · have : b ≠ c := fun e => hc (by rw [hι, e]; rfl)
        simp [Array.getElem?_setIfInBounds_ne this]
    · exact ⟨rfl, rfl, rfl, by simp, fun c hc => by
        have : b ≠ c := by omega
        simp [Array.getElem?_setIfInBounds_ne this], Nat.le_refl _⟩
    · rw [e1, htr, tr_of_S hvS]
      simp only [Instr.mapUpdate, Sem.run_bind, run_underlying hm, Result.andThen_ok, MapKept.run_getObj_map h1, hck, hj, Option.map_none, MapKept.run_setObj_map _ h1]

theorem vclear_ok (hT : TabOK P T) {t ty : TypeId} {x : Value} {K : KE} (hl : vclear T h nx t x K) (hx : scT ι nx x) {w : World} (H : RelH ι B h nx w) :
    Does P ι B nx w (Builtin.clear_ #[t] ty #[tr ι x]) K := by
  unfold vclear at hl
  split at hl
  case h_3 => exact hl.elim
  · rename_i e s1 b1 z1 ht
    have hd := (hT t _ ht).sl rfl
    refine ⟨_, _, _, ι, w, hl, by simp [scT], H, Bel.refl _ _, fun _ _ => rfl, Nat.le_refl _, ?_⟩
    rw [tr_slice_none]
    simp [Builtin.clear_, run_underlying hd, tr]
  · rename_i e s1 b1 z1 k o n c ht
    have hd := (hT t _ ht).sl rfl
    have hx' : k < nx ∧ ((ι k).isAt = false → n = 0 ∧ c = 0) := hx
    split at hl
    · refine ⟨_, _, _, ι, w, hl, by simp [scT], H, Bel.refl _ _, fun _ _ => rfl, Nat.le_refl _, ?_⟩
      simp only [tr, trA, trS, trP]
      cases ι k with
      | nil p => cases p <;> simp [Builtin.clear_, run_underlying hd]
      | lay b o e => simp [Builtin.clear_, run_underlying hd]
    · rename_i hn0
      split at hl
      case h_2 => exact hl.elim
      rename_i ei g sz cs he hk
      obtain ⟨hb, hK⟩ := must_iff.1 hl
      have hb := Nat.le_of_ble_eq_true hb
      have hei := hT e _ he
      cases hι : ι k with
      | nil p => exact absurd (hx'.2 (by rw [hι]; rfl)).1 hn0
      | lay b off ex =>
        have hz := zv_cells hT he
        have hrep : ∀ v ∈ rep n ei.zv.cells.toList, gS v = true := by
          intro v hv
          simp only [rep, List.mem_flatten, List.mem_replicate] at hv
          obtain ⟨l, ⟨_, rfl⟩, hv⟩ := hv
          exact hz v hv
        have hlen : (rep n ei.zv.cells.toList).length = n * ei.size := by
          rw [← zeroCells_rep, Array.length_toList, size_zeroCells, hei.zs]
        obtain ⟨w', h1, h2, h3⟩ := H.put' (P := P) hk hι (o := o) (vs := rep n ei.zv.cells.toList) (by omega) (fun v hv => scS_g (hrep v hv))
        rw [map_trS_of hrep] at h1
        refine ⟨_, _, _, ι, w', hK, by simp [scT], h3, h2, fun _ _ => rfl, Nat.le_refl _, ?_⟩
        have e1 : tr ι (.slice (some ⟨k, o, none⟩) n c) = .slice (some ⟨b, off + o, none⟩) n (c + ex) := by simp [tr, trA, trS, trP, hι]
        rw [e1]
        cases n with
        | zero => exact absurd rfl hn0
        | succ n => simp [Builtin.clear_, run_underlying hd, hei.zero, zeroCells_rep, h1, tr]
end
end Go.Aw
end

/-
  One operation, whatever it does; lists of operations in their order. No condition.
-/
set_option linter.unusedSimpArgs false
set_option linter.unusedVariables false
noncomputable section
namespace Go.Aw
open Go.RowKit

/-- A call of a function, of these arguments, in this heap. -/
abbrev VC := Nat → List Value → Heap → Nat → KE → Prop
/-- A call of a loop's body. -/
abbrev VY := Nat → List Value → Heap → Nat → KE → Prop
abbrev KS := List (Nat × Value) → Heap → Nat → Prop

def optOK (env : List (Nat × Value)) : Option Operand → Option (Option Value)
  | none => some none
  | some x => match opv env x with | some v => some (some v) | none => none

def capPtr : List Value → Bool
  | [] => true
  | .pointer (some _) :: r => capPtr r
  | _ => false

def vop (A : Ar) (T : Tab) (C : VC) (Y : VY) (env : List (Nat × Value)) (h : Heap) (nx : Nat) (op : Op) (K : KE) : Prop :=
  match op with
  | .store t x y => on (opv env x) fun p => on (opv env y) fun v => vstore T h nx t p v K
  | .alloc t => valloc T h nx t K
  | .box _ x => on (opv env x) fun v => vbox h nx v K
  | .buildSlice t n ps => (match partsOK env ps.toList with | some l => vbuildSlice T h nx t n l K | none => False)
  | .slice t x lo hi mx => on (opv env x) fun v => (match optOK env lo, optOK env hi, optOK env mx with
    | some l, some u, some m => vslice A T h nx t v l u m K
    | _, _, _ => False)
  | .makeMap _ none => vmakeMap h nx K
  | .makeSlice t l c => on (opv env l) fun l => on (opv env c) fun c => vmakeSlice A T h nx t l c K
  | .lookup t m k ok => on (opv env m) fun x => on (opv env k) fun y => vlookup A T h t x y ok (fun v => K v h nx)
  | .mapUpdate t m k u => on (opv env m) fun x => on (opv env k) fun y => on (opv env u) fun v => vmapUpdate A T h nx t x y v K
  | .call c => (match c.callee with
    | .builtin .append => (match c.argTypes.toList, vargs env c.args.toList with | [st, xt], some [s, x] => vappend A T h nx st xt s x K | _, _ => False)
    | .builtin .clear => (match c.argTypes.toList, vargs env c.args.toList with | [t], some [x] => vclear T h nx t x K | _, _ => False)
    | .builtin _ => vlook A T env h op (fun v => K v h nx)
    | .value f => on (opv env f) fun fv => (match vargs env c.args.toList with
      | some l => (match fv with
        | .func (.func g) first cap => (match first.toList, capPtr cap.toList with
          | [], true => C g (l ++ cap.toList) h nx K
          | _, _ => False)
        | .func (.yield q) first _ => (match first.toList with
          | [] => Y q l h nx K
          | _ => False)
        | _ => False)
      | none => False)
    | _ => False)
  | _ => vlook A T env h op (fun v => K v h nx)

def getL {α : Type} : List α → Nat → Option α
  | [], _ => none
  | x :: _, 0 => some x
  | _ :: r, n + 1 => getL r n
theorem getL_eq {α : Type} (l : List α) (n : Nat) : getL l n = l[n]? := by
  induction l generalizing n with
  | nil => rfl
  | cons v r ih => cases n <;> simp [getL, ih]

/-- The operation's guard: on, past it. -/
def vguard (A : Ar) (ops : List Oper) (env : List (Nat × Value)) (g : Option (Nat × Bool)) (Y N : List (Nat × Value) → Prop) : Prop :=
  match g with
  | none => Y env
  | some (j, want) => match getL ops j with
    | some o => (match o.dst with
      | some t => (match look env t with
        | some (.bool b) => br (A.eqB b want) (fun _ => Y (put env t (.bool want))) (fun _ => N (put env t (.bool (!want))))
        | some (.tuple _) => N env
        | _ => False)
      | none => False)
    | none => False

def vput (tn : Nat) (env : List (Nat × Value)) (dst : Option Nat) (v : Value) (K : List (Nat × Value) → Prop) : Prop :=
  match dst with
  | none => K env
  | some d => match Nat.blt d tn with | true => K (put env d v) | false => False

def vops (A : Ar) (T : Tab) (C : VC) (Y : VY) (tn : Nat) (ops : List Oper) (l : List Oper) : List (Nat × Value) → Heap → Nat → KS → Prop :=
  @List.rec Oper (fun _ => List (Nat × Value) → Heap → Nat → KS → Prop) (fun env h nx K => K env h nx)
    (fun o _ ih env h nx K => vguard A ops env o.guard
      (fun env => vop A T C Y env h nx o.op fun v h' nx' => vput tn env o.dst v fun env' => ih env' h' nx' K)
      (fun env => vput tn env o.dst undef fun env' => ih env' h nx K)) l
theorem vops_nil {A : Ar} {T : Tab} {C : VC} {Y : VY} {tn : Nat} {ops : List Oper} {env : List (Nat × Value)} {h : Heap} {nx : Nat} {K : KS} : vops A T C Y tn ops [] env h nx K = K env h nx := rfl
theorem vops_cons {A : Ar} {T : Tab} {C : VC} {Y : VY} {tn : Nat} {ops : List Oper} {o : Oper} {r : List Oper} {env : List (Nat × Value)} {h : Heap} {nx : Nat} {K : KS} : vops A T C Y tn ops (o :: r) env h nx K = vguard A ops env o.guard
      (fun env => vop A T C Y env h nx o.op fun v h' nx' => vput tn env o.dst v fun env' => vops A T C Y tn ops r env' h' nx' K)
      (fun env => vput tn env o.dst undef fun env' => vops A T C Y tn ops r env' h nx K) := rfl

/-! ### What they say of the machine -/
/-- The world's and the state's: what is known at one place. -/
structure Inv (B : Nat) (w0 : World) (ι0 : Nat → Loc) (nx0 tn : Nat) (ds : List Deferred) (ι : Nat → Loc) (env : List (Nat × Value)) (h : Heap) (nx : Nat) (a : Act) (w : World) : Prop where
  env : EnvOK ι nx env a
  heap : RelH ι B h nx w
  below : Bel B w0 w
  old : ∀ k, k < nx0 → ι k = ι0 k
  le : nx0 ≤ nx
  size : a.tmps.size = tn
  defers : a.defers = ds

/-- What a call leaves. -/
def Ret (B : Nat) (w0 : World) (ι0 : Nat → Loc) (nx0 : Nat) (K : KE) : Ending → World → Prop
  | .returned u, w => ∃ v h nx ι, K v h nx ∧ scT ι nx v ∧ RelH ι B h nx w ∧ Bel B w0 w ∧ (∀ k, k < nx0 → ι k = ι0 k) ∧ nx0 ≤ nx ∧ u = tr ι v
  | _, _ => False

def Fr (r : Option Nat) : Fence := { Fence.wide with round := r }

def CallsOK (P : Program) (C : VC) : Prop := ∀ f args h nx K, C f args h nx K → ∀ ι B w, RelH ι B h nx w → (∀ v ∈ args, scT ι nx v) →
  (∃ fn, P.funcs[f]? = some fn ∧ fn.body.isSome = true ∧ (fn.name == "runtime.NumGoroutine") = false) ∧ CallsIn Fence.wide 0 P f (args.map (tr ι)).toArray w (Ret B w ι nx K)
/-- The same of a loop's body. -/
def YieldsOK (P : Program) (Y : VY) : Prop := ∀ l args h nx K, Y l args h nx K → ∀ ι B w, RelH ι B h nx w → (∀ v ∈ args, scT ι nx v) →
  ∀ b o e, ι l = .lay b o e → ∃ f tmps as bd, (Instr.yield b (args.map (tr ι)).toArray).run P w = .ok (.round b f tmps as bd) w ∧ RoundIn Fence.wide 0 P b f tmps as bd w (Ret B w ι nx K)

section
variable {P : Program} {T : Tab} {C : VC} {Y : VY}

theorem EnvOK.upd {ι : Nat → Loc} {n : Nat} {env : List (Nat × Value)} {a : Act} (he : EnvOK ι n env a) {d : Nat} {v : Value} (hd : d < a.tmps.size) (hv : scT ι n v) : EnvOK ι n (put env d v) (a.put (some d) (tr ι v)) := by
  intro t u hu
  rw [look_put] at hu
  by_cases e : t = d
  · subst e
    rw [if_pos rfl] at hu
    injection hu with hu
    subst hu
    exact ⟨by simp [Act.put, Array.getElem?_setIfInBounds_self_of_lt hd], hv⟩
  · rw [if_neg e] at hu
    obtain ⟨h1, h2⟩ := he t u hu
    refine ⟨?_, h2⟩
    simp only [Act.put]
    rw [Array.getElem?_setIfInBounds_ne (fun e' => e e'.symm)]
    exact h1
theorem EnvOK.same {ι : Nat → Loc} {n : Nat} {env : List (Nat × Value)} {a : Act} (he : EnvOK ι n env a) {d : Nat} {v : Value} (hv : look env d = some v) : EnvOK ι n (put env d v) a := by
  intro t u hu
  rw [look_put] at hu
  by_cases e : t = d
  · subst e
    rw [if_pos rfl] at hu
    injection hu with hu
    subst hu
    exact he t v hv
  · rw [if_neg e] at hu
    exact he t u hu
theorem EnvOK.names {ι ι' : Nat → Loc} {n m : Nat} {env : List (Nat × Value)} {a : Act} (he : EnvOK ι n env a) (hle : n ≤ m) (hi : ∀ k, k < n → ι' k = ι k) : EnvOK ι' m env a := by
  intro t u hu
  obtain ⟨h1, h2⟩ := he t u hu
  exact ⟨by rw [tr_eq hi h2]; exact h1, scT_mono hle hi h2⟩

theorem vput_ok {ι : Nat → Loc} {n tn : Nat} {env : List (Nat × Value)} {a : Act} (he : EnvOK ι n env a) (hs : a.tmps.size = tn) {dst : Option Nat} {v : Value} {K : List (Nat × Value) → Prop} (hl : vput tn env dst v K) (hv : scT ι n v) :
    ∃ env', K env' ∧ EnvOK ι n env' (a.put dst (tr ι v)) ∧ (a.put dst (tr ι v)).tmps.size = tn ∧ (a.put dst (tr ι v)).defers = a.defers := by
  unfold vput at hl
  cases dst with
  | none => exact ⟨env, hl, he, hs, rfl⟩
  | some d =>
    simp only at hl
    split at hl
    · rename_i hd
      have hd : d < tn := Nat.le_of_ble_eq_true hd
      exact ⟨_, hl, he.upd (by omega) hv, by simp [Act.put, hs], rfl⟩
    · exact hl.elim

theorem vguard_ok {ι : Nat → Loc} {n : Nat} {env : List (Nat × Value)} {a : Act} (he : EnvOK ι n env a) {ops : Array Oper} {o : Oper} {Yk N : List (Nat × Value) → Prop} (hl : vguard std ops.toList env o.guard Yk N) :
    ∃ env', EnvOK ι n env' a ∧ ((Region.wanted o (yielded ops a.tmps) = true ∧ Yk env') ∨ (Region.wanted o (yielded ops a.tmps) = false ∧ N env')) := by
  unfold vguard at hl
  unfold Region.wanted
  split at hl
  · rename_i hg
    rw [hg]
    exact ⟨env, he, .inl ⟨rfl, hl⟩⟩
  · rename_i j want hg
    rw [hg]
    split at hl
    case h_2 => exact hl.elim
    rename_i q hq
    split at hl
    case h_2 => exact hl.elim
    rename_i t ht
    split at hl
    case h_3 => exact hl.elim
    case h_2 =>
      rename_i vs hb
      rw [getL_eq] at hq
      have hy : yielded ops a.tmps j = none := by
        have hq' : ops[j]? = some q := by simpa using hq
        simp [yielded, hq', ht, (he t _ hb).1, tr]
      exact ⟨_, he, .inr ⟨by simp [hy], hl⟩⟩
    rename_i b hb
    rw [getL_eq] at hq
    have hy : yielded ops a.tmps j = some b := by
      have hq' : ops[j]? = some q := by simpa using hq
      simp [yielded, hq', ht, (he t _ hb).1, tr_bool]
    simp only [hy]
    rcases br_cases hl with ⟨hbw, hk⟩ | ⟨hbw, hk⟩
    · simp only [std, beq_iff_eq] at hbw
      subst hbw
      exact ⟨_, he.same hb, .inl ⟨by simp, hk⟩⟩
    · simp only [std, beq_eq_false_iff_ne, ne_eq] at hbw
      have : b = !want := by cases b <;> cases want <;> simp_all
      subst this
      exact ⟨_, he.same hb, .inr ⟨by simp, hk⟩⟩

theorem semAt_eq {o : Oper} (hd : ∀ c, o.op ≠ .defer c) (r : Option Nat) (ρ : Operand → Value) : o.semAt r ρ = execOp ρ o := by
  cases r with
  | none => exact Oper.semAt_none _ _
  | some l => exact Oper.semAt_some l ρ o hd

/-- One operation, run: what it hands on. -/
def RunK (P : Program) (ι : Nat → Loc) (B nx : Nat) (w : World) (m : Sem Next) (K : KE) : Prop :=
  (∃ v h' nx' ι' w', K v h' nx' ∧ scT ι' nx' v ∧ RelH ι' B h' nx' w' ∧ Bel B w w' ∧ (∀ k, k < nx → ι' k = ι k) ∧ nx ≤ nx' ∧ m.run P w = .ok (.value (tr ι' v)) w') ∨
  (∃ h' w', K undef h' nx ∧ RelH ι B h' nx w' ∧ Bel B w w' ∧ m.run P w = .ok .skip w') ∨
  (∃ f args, m.run P w = .ok (.enter f args) w ∧ CallsIn Fence.wide 0 P f args w (Ret B w ι nx K)) ∨
  (∃ l f tmps as bd, m.run P w = .ok (.round l f tmps as bd) w ∧ RoundIn Fence.wide 0 P l f tmps as bd w (Ret B w ι nx K))

theorem RunK.upon {ι : Nat → Loc} {B nx : Nat} {w : World} {o : Oper} {a a' : Act} {K : KE} (hr : RunK P ι B nx w (execOp a.eval o) K) (hd : ∀ c, o.op ≠ .defer c) (he : execOp a'.eval o = execOp a.eval o)
    (r : Option Nat) (next : Act → World → Prop) (Q : Exit → Act → World → Prop)
    (hn : ∀ v h' nx' ι' w', K v h' nx' → scT ι' nx' v → RelH ι' B h' nx' w' → Bel B w w' → (∀ k, k < nx → ι' k = ι k) → nx ≤ nx' → next (a'.put o.dst (tr ι' v)) w') :
    o.wpIn (Fr r) 0 P a' w next Q := by
  refine ⟨fun _ _ => trivial, ?_⟩
  rw [semAt_eq hd, he]
  rcases hr with ⟨v, h', nx', ι', w', h1, h2, h3, h4, h5, h6, h7⟩ | ⟨h', w', h1, h3, h4, h7⟩ | ⟨f, args, hrun, hcalls⟩ | ⟨l, f, tmps, as, bd, hrun, hround⟩
  · rw [h7]
    exact hn v h' nx' ι' w' h1 h2 h3 h4 h5 h6
  · rw [h7]
    have := hn undef h' nx ι w' h1 (scT_g rfl) h3 h4 (fun _ _ => rfl) (Nat.le_refl _)
    rwa [tr_g (show gT undef = true from rfl)] at this
  · rw [hrun]
    refine ⟨fun hdep => absurd hdep (by simp [Fr, Fence.wide]), ?_⟩
    refine CallsIn.mono (F := Fence.wide) hcalls fun e w' hret => ?_
    cases e with
    | returned u =>
      obtain ⟨v, h', nx', ι', k1, k2, k3, k4, k5, k6, rfl⟩ := hret
      exact hn v h' nx' ι' w' k1 k2 k3 k4 k5 k6
    | panicked c => exact hret.elim
    | outgrown => exact hret.elim
  · rw [hrun]
    refine ⟨fun hdep => absurd hdep (by simp [Fr, Fence.wide]), ?_⟩
    refine RoundIn.mono (F := Fence.wide) hround fun e w' hret => ?_
    cases e with
    | returned u =>
      obtain ⟨v, h', nx', ι', k1, k2, k3, k4, k5, k6, rfl⟩ := hret
      exact hn v h' nx' ι' w' k1 k2 k3 k4 k5 k6
    | panicked c => exact hret.elim
    | outgrown => exact hret.elim

theorem upon_value {ι : Nat → Loc} {B nx : Nat} {w : World} {o : Oper} {a : Act} {K : KE}
    (h : ∃ v h' nx' ι' w', K v h' nx' ∧ scT ι' nx' v ∧ RelH ι' B h' nx' w' ∧ Bel B w w' ∧ (∀ k, k < nx → ι' k = ι k) ∧ nx ≤ nx' ∧ (execOp a.eval o).run P w = .ok (.value (tr ι' v)) w') : RunK P ι B nx w (execOp a.eval o) K := .inl h

theorem upon_skip {ι : Nat → Loc} {B nx : Nat} {w : World} {o : Oper} {a : Act} {K : KE}
    (h : ∃ h' w', K undef h' nx ∧ RelH ι B h' nx w' ∧ Bel B w w' ∧ (execOp a.eval o).run P w = .ok .skip w') : RunK P ι B nx w (execOp a.eval o) K := .inr (.inl h)

theorem optOK_spec {ι : Nat → Loc} {n : Nat} {env : List (Nat × Value)} {a : Act} (he : EnvOK ι n env a) {x : Option Operand} {v : Option Value} (h : optOK env x = some v) : x.map a.eval = v.map (tr ι) := by
  cases x with
  | none => simp [optOK] at h; subst h; rfl
  | some x =>
    simp only [optOK] at h
    split at h
    · rename_i u hu
      injection h with h
      subst h
      simp [(he.opv hu).1]
    · cases h

theorem does_value {ι : Nat → Loc} {B nx : Nat} {w : World} {m : Sem Value} {K : KE} (h : Does P ι B nx w m K) :
    ∃ v h' nx' ι' w', K v h' nx' ∧ scT ι' nx' v ∧ RelH ι' B h' nx' w' ∧ Bel B w w' ∧ (∀ k, k < nx → ι' k = ι k) ∧ nx ≤ nx' ∧ (do pure (.value (← m)) : Sem Next).run P w = .ok (.value (tr ι' v)) w' := by
  obtain ⟨v, h', nx', ι', w', h1, h2, h3, h4, h5, h6, h7⟩ := h
  exact ⟨v, h', nx', ι', w', h1, h2, h3, h4, h5, h6, by simp only [Sem.run_bind, h7, Result.andThen_ok, Sem.run_pure]⟩

theorem vlook_upon (hT : TabOK P T) {ι : Nat → Loc} {B nx : Nat} {w : World} {h : Heap} {env : List (Nat × Value)} {a : Act} (he : EnvOK ι nx env a) (H : RelH ι B h nx w) {o : Oper} {K : KE}
    (hl : vlook std T env h o.op (fun v => K v h nx)) : RunK P ι B nx w (execOp a.eval o) K := by
  obtain ⟨v, h1, h2, h3⟩ := vlook_ok hT he hl H
  exact upon_value ⟨v, h, nx, ι, w, h1, h2, H, Bel.refl _ _, fun _ _ => rfl, Nat.le_refl _, h3 w H⟩

theorem capPtr_spec : ∀ {l : List Value}, capPtr l = true → ∀ v ∈ l, ∃ p, v = .pointer (some p)
  | [], _, v, hv => by cases hv
  | x :: r, h, v, hv => by
    unfold capPtr at h
    split at h
    · rename_i heq; cases heq
    · rename_i p r' heq
      injection heq with e1 e2
      subst e1; subst e2
      rcases List.mem_cons.1 hv with rfl | hv
      · exact ⟨_, rfl⟩
      · exact capPtr_spec h v hv
    · cases h

theorem vop_nodefer {env : List (Nat × Value)} {h : Heap} {nx : Nat} {op : Op} {K : KE} (hl : vop std T C Y env h nx op K) : ∀ c, op ≠ .defer c := by
  rintro c rfl
  exact hl.elim
theorem vop_noselect {env : List (Nat × Value)} {h : Heap} {nx : Nat} {op : Op} {K : KE} (hl : vop std T C Y env h nx op K) : ∀ c b, op ≠ .select c b := by
  rintro c b rfl
  exact hl.elim

theorem vop_ok (hT : TabOK P T) (hC : CallsOK P C) (hY : YieldsOK P Y) {ι : Nat → Loc} {B nx : Nat} {w : World} {h : Heap} {env : List (Nat × Value)} {a : Act} (he : EnvOK ι nx env a) (H : RelH ι B h nx w) {o : Oper} {K : KE}
    (hl : vop std T C Y env h nx o.op K) : RunK P ι B nx w (execOp a.eval o) K := by
  have hl' := hl
  obtain ⟨dst, op, ty, pos, after, guard⟩ := o
  simp only at hl
  cases op
  case store t x y =>
    simp only [vop] at hl
    obtain ⟨p, hp, hl⟩ := on_ok hl
    obtain ⟨v, hv, hl⟩ := on_ok hl
    obtain ⟨e1, e2⟩ := he.opv hp
    obtain ⟨e3, e4⟩ := he.opv hv
    obtain ⟨h', w', h1, h2, h3, h4⟩ := vstore_ok (P := P) hT hl e4 H
    exact upon_skip ⟨h', w', h1, h2, h3, by simp only [execOp, e1, e3, Sem.run_bind, h4, Result.andThen_ok, Sem.run_pure]⟩
  case alloc t =>
    simp only [vop] at hl
    exact upon_value (does_value (valloc_ok hT hl H))
  case box t x =>
    simp only [vop] at hl
    obtain ⟨v, hv, hl⟩ := on_ok hl
    obtain ⟨e3, e4⟩ := he.opv hv
    have := does_value (vbox_ok (P := P) (t := t) hl e4 H)
    rw [← e3] at this
    exact upon_value this
  case buildSlice t n ps =>
    simp only [vop] at hl
    split at hl
    case h_2 => exact hl.elim
    rename_i l hps
    obtain ⟨e1, e2⟩ := partsOK_spec he hps
    have := does_value (vbuildSlice_ok (P := P) hT hl e2 H)
    have e3 : (ps.map fun p => (p.1, a.eval p.2)) = (l.map fun p => (p.1, tr ι p.2)).toArray := by
      apply Array.ext'
      simpa using e1
    rw [← e3] at this
    exact upon_value this
  case slice t x lo hi mx =>
    simp only [vop] at hl
    obtain ⟨v, hv, hl⟩ := on_ok hl
    obtain ⟨e3, e4⟩ := he.opv hv
    split at hl
    case h_2 => exact hl.elim
    rename_i l u m h1 h2 h3
    obtain ⟨v', h', nx', ι', k1, k2, k3, k4, k5⟩ := vslice_ok hT hl e4 H
    obtain ⟨k6, k7⟩ := k5 w H
    rw [← optOK_spec he h1, ← optOK_spec he h2, ← optOK_spec he h3, ← e3] at k7
    refine upon_value ⟨v', h', nx', ι', w, k1, k2, k6, Bel.refl _ _, k3, k4, ?_⟩
    simp only [execOp, Sem.run_bind, k7, Result.andThen_ok, Sem.run_pure]
  case makeSlice t l c =>
    simp only [vop] at hl
    obtain ⟨x, hx, hl⟩ := on_ok hl
    obtain ⟨y, hy, hl⟩ := on_ok hl
    obtain ⟨e1, e2⟩ := he.opv hx
    obtain ⟨e3, e4⟩ := he.opv hy
    have := does_value (vmakeSlice_ok (P := P) hT hl H)
    rw [← e1, ← e3] at this
    exact upon_value this
  case makeMap t r =>
    cases r with
    | none =>
      simp only [vop] at hl
      exact upon_value (does_value (vmakeMap_ok hl H))
    | some r => simp only [vop] at hl; exact vlook_upon (h := h) hT he H (o := ⟨dst, _, ty, pos, after, guard⟩) hl
  case lookup t m k ok =>
    simp only [vop] at hl
    obtain ⟨x, hx, hl⟩ := on_ok hl
    obtain ⟨y, hy, hl⟩ := on_ok hl
    obtain ⟨e1, e2⟩ := he.opv hx
    obtain ⟨e3, e4⟩ := he.opv hy
    obtain ⟨v, h1, h2, h3⟩ := vlookup_ok (P := P) hT hl e2 H
    have := h3 w H
    rw [← e1, ← e3] at this
    exact upon_value ⟨v, h, nx, ι, w, h1, h2, H, Bel.refl _ _, fun _ _ => rfl, Nat.le_refl _, by simp only [execOp, Sem.run_bind, this, Result.andThen_ok, Sem.run_pure]⟩
  case mapUpdate t m k u =>
    simp only [vop] at hl
    obtain ⟨x, hx, hl⟩ := on_ok hl
    obtain ⟨y, hy, hl⟩ := on_ok hl
    obtain ⟨v, hv, hl⟩ := on_ok hl
    obtain ⟨e1, e2⟩ := he.opv hx
    obtain ⟨e3, e4⟩ := he.opv hy
    obtain ⟨e5, e6⟩ := he.opv hv
    obtain ⟨h', w', h1, h2, h3, h4⟩ := vmapUpdate_ok (P := P) hT hl e2 e6 H
    rw [← e1, ← e3, ← e5] at h4
    exact upon_skip ⟨h', w', h1, h2, h3, by simp only [execOp, Sem.run_bind, h4, Result.andThen_ok, Sem.run_pure]⟩
  case call c =>
    obtain ⟨cal, args, ats⟩ := c
    simp only [vop] at hl
    cases cal with
    | invoke r m => exact hl.elim
    | builtin b =>
      by_cases hb1 : b = .append
      · subst hb1
        simp only at hl
        split at hl
        case h_2 => exact hl.elim
        rename_i st xt s x hts hvs
        obtain ⟨e1, e2⟩ := vargs_spec he hvs
        have := does_value (vappend_ok (P := P) (ty := ty) hT hl (e2 s (by simp)) (e2 x (by simp)) H)
        obtain ⟨ats⟩ := ats
        simp only at hts
        subst hts
        have e3 : args.map a.eval = #[tr ι s, tr ι x] := by
          apply Array.ext'
          simpa using e1
        rw [← e3] at this
        exact upon_value this
      · by_cases hb2 : b = .clear
        · subst hb2
          simp only at hl
          split at hl
          case h_2 => exact hl.elim
          rename_i t x hts hvs
          obtain ⟨e1, e2⟩ := vargs_spec he hvs
          have := does_value (vclear_ok (P := P) (ty := ty) hT hl (e2 x (by simp)) H)
          obtain ⟨ats⟩ := ats
          simp only at hts
          subst hts
          have e3 : args.map a.eval = #[tr ι x] := by
            apply Array.ext'
            simpa using e1
          rw [← e3] at this
          exact upon_value this
        · have hl2 : vlook std T env h (.call { callee := .builtin b, args := args, argTypes := ats }) (fun v => K v h nx) := by
            cases b <;> first | exact hl | exact absurd rfl hb1 | exact absurd rfl hb2
          exact vlook_upon hT he H (o := ⟨dst, _, ty, pos, after, guard⟩) hl2
    | value f =>
      simp only at hl
      obtain ⟨fv, hfv, hl⟩ := on_ok hl
      obtain ⟨e1, e2⟩ := he.opv hfv
      split at hl
      case h_2 => exact hl.elim
      rename_i l hvs
      obtain ⟨e3, e4⟩ := vargs_spec he hvs
      have hargs : args.map a.eval = (l.map (tr ι)).toArray := by
        apply Array.ext'
        simpa using e3
      split at hl
      · rename_i g first cap
        split at hl
        case h_2 => exact hl.elim
        rename_i hfirst hcap
        obtain ⟨first⟩ := first
        simp only at hfirst
        subst hfirst
        obtain ⟨⟨fn, hfn, hbody, hname⟩, hcalls⟩ := hC g _ h nx K hl ι B w H (by
          intro v hv
          rcases List.mem_append.1 hv with hv | hv
          · exact e4 v hv
          · have := capPtr_spec hcap v hv
            obtain ⟨p, rfl⟩ := this
            exact e2.2 _ hv)
        have hcapm : cap.map (trP ι) = (cap.toList.map (tr ι)).toArray := by
          apply Array.ext'
          simp only [Array.toList_map]
          apply List.map_congr_left
          intro v hv
          obtain ⟨p, rfl⟩ := capPtr_spec hcap v hv
          rfl
        have hrun : (execOp a.eval ⟨dst, .call ⟨.value f, args, ats⟩, ty, pos, after, guard⟩).run P w = .ok (.enter g ((l ++ cap.toList).map (tr ι)).toArray) w := by
          obtain ⟨bdy, hb'⟩ := Option.isSome_iff_exists.1 hbody
          have hname' : fn.name ≠ "runtime.NumGoroutine" := by simpa using hname
          simp [execOp, resolve, e1, tr, trA, trS, trFn, Deferred.ofValue, invoke, callFunc, hfn, hname', hb', hargs, hcapm]
        exact .inr (.inr (.inl ⟨_, _, hrun, hcalls⟩))
      · rename_i q first cap
        split at hl
        case h_2 => exact hl.elim
        rename_i hfirst
        obtain ⟨first⟩ := first
        simp only at hfirst
        subst hfirst
        have hq : q < nx ∧ (ι q).isAt = true := e2.1
        cases hι : ι q with
        | nil p => rw [hι] at hq; cases hq.2
        | lay b o ex =>
          obtain ⟨f', tmps, as, bd, hy, hround⟩ := hY q l h nx K hl ι B w H e4 b o ex hι
          have hrun : (execOp a.eval ⟨dst, .call ⟨.value f, args, ats⟩, ty, pos, after, guard⟩).run P w = .ok (.round b f' tmps as bd) w := by
            simp [execOp, resolve, e1, tr, trA, trS, trFn, hι, Deferred.ofValue, invoke, hargs, hy]
          exact .inr (.inr (.inr ⟨_, _, _, _, _, hrun, hround⟩))
      · exact hl.elim
  all_goals (simp only [vop] at hl; exact vlook_upon hT he H (o := ⟨dst, _, ty, pos, after, guard⟩) hl)
end
end Go.Aw
end

/-
  Lists of operations in their order, in the machine. No condition.
-/
set_option linter.unusedSimpArgs false
set_option linter.unusedVariables false
noncomputable section
namespace Go.Aw
open Go.RowKit

section
variable {P : Program} {T : Tab} {C : VC} {Y : VY} {B : Nat} {w0 : World} {ι0 : Nat → Loc} {nx0 tn : Nat} {ds : List Deferred}

theorem Inv.step {ι ι' : Nat → Loc} {env env' : List (Nat × Value)} {h h' : Heap} {nx nx' : Nat} {a a' : Act} {w w' : World} (I : Inv B w0 ι0 nx0 tn ds ι env h nx a w) (he : EnvOK ι' nx' env' a') (H : RelH ι' B h' nx' w') (hb : Bel B w w')
    (hi : ∀ k, k < nx → ι' k = ι k) (hn : nx ≤ nx') (hs : a'.tmps.size = tn) (hd : a'.defers = a.defers) : Inv B w0 ι0 nx0 tn ds ι' env' h' nx' a' w' :=
  ⟨he, H, I.below.trans hb, fun k hk => (hi k (Nat.lt_of_lt_of_le hk I.le)).trans (I.old k hk), Nat.le_trans I.le hn, hs, hd.trans I.defers⟩

theorem vops_ok (hT : TabOK P T) (hC : CallsOK P C) (hY : YieldsOK P Y) (r : Option Nat) {ops : Array Oper} {Q : Exit → Act → World → Prop} {K : KS} : ∀ (l : List Oper) (ι : Nat → Loc) (env : List (Nat × Value)) (h : Heap) (nx : Nat) (a : Act) (w : World),
    vops std T C Y tn ops.toList l env h nx K → Inv B w0 ι0 nx0 tn ds ι env h nx a w →
    (∀ ι' env' h' nx' a' w', K env' h' nx' → Inv B w0 ι0 nx0 tn ds ι' env' h' nx' a' w' → Q .normal a' w') → wpListIn (Fr r) 0 P ops Q l a w
  | [], ι, env, h, nx, a, w, hl, I, hQ => hQ ι env h nx a w hl I
  | o :: rest, ι, env, h, nx, a, w, hl, I, hQ => by
    simp only [vops_cons] at hl
    obtain ⟨env1, he1, hcase⟩ := vguard_ok I.env hl
    simp only [wpListIn]
    rcases hcase with ⟨hw, hl⟩ | ⟨hw, hl⟩
    · rw [if_pos hw]
      refine (vop_ok hT hC hY he1 I.heap hl).upon (vop_nodefer hl) rfl r _ _ fun v h' nx' ι' w' k1 k2 k3 k4 k5 k6 => ?_
      obtain ⟨env2, k7, k8, k9, k10⟩ := vput_ok (he1.names k6 k5) I.size k1 k2
      exact vops_ok hT hC hY r rest ι' env2 h' nx' _ w' k7 (I.step k8 k3 k4 k5 k6 k9 k10) hQ
    · rw [hw]
      refine ⟨fun _ _ => trivial, ?_⟩
      obtain ⟨env2, k7, k8, k9, k10⟩ := vput_ok he1 I.size hl (v := undef) (scT_g rfl)
      rw [tr_g (show gT undef = true from rfl)] at k8 k9 k10
      exact vops_ok hT hC hY r rest ι env2 h nx _ w k7 (I.step k8 I.heap (Bel.refl _ _) (fun _ _ => rfl) (Nat.le_refl _) k9 k10) hQ
end
end Go.Aw
end

/-
  Operations whose value does not hang on the order. No condition.
-/
set_option linter.unusedSimpArgs false
set_option linter.unusedVariables false
noncomputable section
namespace Go.Aw
open Go.RowKit

def AObj.closed : AObj → AObj
  | .cells _ g sz cs => .cells false g sz cs
  | .zero => .zero
  | _ => .cells false false 1 []
def shutH : Heap → Heap
  | [] => []
  | (k, o) :: r => (k, o.closed) :: shutH r
theorem look_shutH (h : Heap) (k : Nat) : look (shutH h) k = (look h k).map AObj.closed := by
  induction h with
  | nil => rfl
  | cons x r ih =>
    obtain ⟨j, o⟩ := x
    simp only [shutH, look_cons]
    split
    · rfl
    · exact ih

/-- A call's outcome is one. -/
def DetC (C : VC) : Prop := ∀ f args h nx K, C f args h nx K → ∃ v h' nx', K v h' nx' ∧ ∀ K' : KE, K' v h' nx' → C f args h nx K'

def vquiet (A : Ar) (T : Tab) (C : VC) (hJ : Heap) (nx : Nat) (env : List (Nat × Value)) (op : Op) (K : Value → Nat → Prop) : Prop :=
  match op with
  | .load _ _ => vlook A T env hJ op (fun v => K v nx)
  | .lookup t m k ok => on (opv env m) fun x => on (opv env k) fun y => vlookup A T hJ t x y ok (fun v => K v nx)
  | .slice t x lo hi mx => on (opv env x) fun v => (match optOK env lo, optOK env hi, optOK env mx with
    | some l, some u, some m => vslice A T hJ nx t v l u m (fun v _ nx' => K v nx')
    | _, _, _ => False)
  | .call c => (match c.callee with
    | .builtin _ => vlook A T env [] op (fun v => K v nx)
    | .value f => on (opv env f) fun fv => (match vargs env c.args.toList with
      | some l => (match fv with
        | .func (.func g) first cap => (match first.toList, capPtr cap.toList with
          | [], true => C g (l ++ cap.toList) (shutH hJ) nx (fun v _ _ => match gT v with | true => K v nx | false => False)
          | _, _ => False)
        | _ => False)
      | none => False)
    | _ => False)
  | _ => vlook A T env [] op (fun v => K v nx)

/-- Does it look into the heap? -/
def isPure : Op → Bool
  | .load _ _ => false
  | .lookup _ _ _ _ => false
  | .slice _ _ _ _ _ => false
  | .call c => (match c.callee with | .builtin _ => true | _ => false)
  | _ => true

/-- Must it come ahead of everything that writes? -/
def isStrong : Op → Bool
  | .lookup _ _ _ _ => true
  | .call c => (match c.callee with | .builtin _ => false | _ => true)
  | _ => false

section
variable {P : Program} {T : Tab} {C : VC} {Y : VY} {ι : Nat → Loc} {B nx : Nat}

theorem RelH.shut {h : Heap} {w : World} (H : RelH ι B h nx w) : RelH ι w.heap.size (shutH h) nx w := by
  have key : ∀ k o', look (shutH h) k = some o' → ∃ o, look h k = some o ∧ o' = o.closed := fun k o' hk => by
    rw [look_shutH] at hk
    cases hl : look h k with
    | none => rw [hl] at hk; cases hk
    | some o => rw [hl] at hk; injection hk with hk; exact ⟨o, rfl, hk.symm⟩
  refine ⟨fun k o' hk => ?_, fun k k' o o' h1 h2 hne ha => ?_, fun k o' hk => ?_, Nat.le_refl _, fun k o' hk => ?_⟩
  · obtain ⟨o, hk', rfl⟩ := key k o' hk
    have ho := H.obj k o hk'
    cases hι : ι k with
    | nil p =>
      rw [hι] at ho
      cases o with
      | cells wr g sz cs => exact ⟨ho.1, fun h => ho.2 (h.elim .inl (fun h => by cases h))⟩
      | zero => exact ho
      | _ => exact ho.elim
    | lay b off e =>
      have hb := ho.lt (b := b) (by rw [hι]; rfl)
      rw [hι] at ho
      cases o with
      | cells wr g sz cs =>
        cases wr with
        | false => exact ho
        | true =>
          obtain ⟨_, hg, arr, t, h1, h2, h3⟩ := ho
          exact ⟨hb, hg, fun i v hv => by simp [World.cell?, h1, h3 i v hv]⟩
      | zero => exact ho
      | _ => exact ⟨hb, (fun h => (by cases h)), (fun i v hv => (by simp at hv))⟩
  · obtain ⟨o1, h1, rfl⟩ := key k o h1
    cases o1 <;> cases ha
  · obtain ⟨o, hk', rfl⟩ := key k o' hk
    exact H.low k o hk'
  · obtain ⟨o, hk', rfl⟩ := key k o' hk
    have := H.sc k o hk'
    cases o with
    | cells wr g sz cs => exact this
    | zero => trivial
    | _ => intro v hv; cases hv

/-- What an operation yields, wherever this part of the heap lies. -/
def Run1 (P : Program) (m : Sem Next) (w : World) (u : Value) : Prop :=
  m.run P w = .ok (.value u) w ∨ ∃ f args, m.run P w = .ok (.enter f args) w ∧ CallsIn Fence.wide 0 P f args w fun e w' => e = .returned u ∧ Bel w.heap.size w w'

theorem RelH.none {w : World} (h : B ≤ w.heap.size) : RelH ι B [] nx w :=
  ⟨fun k o hk => (by cases hk), fun k k' o o' hk => (by cases hk), fun k o hk => (by cases hk), h, fun k o hk => (by cases hk)⟩

def heapOf (op : Op) (hJ : Heap) : Heap := match isPure op with | true => [] | false => hJ

theorem vquiet_ok (hT : TabOK P T) (hC : CallsOK P C) (hD : DetC C) {hJ : Heap} {env : List (Nat × Value)} {a : Act} (he : EnvOK ι nx env a) {w0 : World} (H0 : RelH ι B hJ nx w0) {o : Oper} {K : Value → Nat → Prop}
    (hl : vquiet std T C hJ nx env o.op K) :
    ∃ v nx' ι', K v nx' ∧ scT ι' nx' v ∧ (∀ k, k < nx → ι' k = ι k) ∧ nx ≤ nx' ∧ ∀ w, RelH ι B (heapOf o.op hJ) nx w → (isStrong o.op = true → Bel w0.heap.size w0 w) → Run1 P (execOp a.eval o) w (tr ι' v) := by
  obtain ⟨dst, op, ty, pos, after, guard⟩ := o
  simp only at hl
  have hpure : ∀ K : Value → Nat → Prop, isPure op = true → vlook std T env [] op (fun v => K v nx) → ∃ v nx' ι', K v nx' ∧ scT ι' nx' v ∧ (∀ k, k < nx → ι' k = ι k) ∧ nx ≤ nx' ∧ ∀ w, RelH ι B (heapOf op hJ) nx w → (isStrong op = true → Bel w0.heap.size w0 w) → Run1 P (execOp a.eval ⟨dst, op, ty, pos, after, guard⟩) w (tr ι' v) := by
    intro K hp hl
    obtain ⟨v, h1, h2, h3⟩ := vlook_ok (P := P) (h := []) (B := B) (w0 := w0) hT he (o := ⟨dst, op, ty, pos, after, guard⟩) hl (RelH.none H0.size)
    refine ⟨v, nx, ι, h1, h2, fun _ _ => rfl, Nat.le_refl _, fun w H _ => .inl (h3 w ?_)⟩
    simpa [heapOf, hp] using H
  cases op
  case load t x =>
    simp only [vquiet] at hl
    obtain ⟨v, h1, h2, h3⟩ := vlook_ok (P := P) hT he (o := ⟨dst, _, ty, pos, after, guard⟩) hl H0
    exact ⟨v, nx, ι, h1, h2, fun _ _ => rfl, Nat.le_refl _, fun w H _ => .inl (h3 w (by simpa [heapOf, isPure] using H))⟩
  case lookup t m k ok =>
    simp only [vquiet] at hl
    obtain ⟨x, hx, hl⟩ := on_ok hl
    obtain ⟨y, hy, hl⟩ := on_ok hl
    obtain ⟨e1, e2⟩ := he.opv hx
    obtain ⟨e3, e4⟩ := he.opv hy
    obtain ⟨v, h1, h2, h3⟩ := vlookup_ok (P := P) hT hl e2 H0
    refine ⟨v, nx, ι, h1, h2, fun _ _ => rfl, Nat.le_refl _, fun w H _ => .inl ?_⟩
    have := h3 w (by simpa [heapOf, isPure] using H)
    rw [← e1, ← e3] at this
    simp only [execOp, Sem.run_bind, this, Result.andThen_ok, Sem.run_pure]
  case slice t x lo hi mx =>
    simp only [vquiet] at hl
    obtain ⟨v, hv, hl⟩ := on_ok hl
    obtain ⟨e3, e4⟩ := he.opv hv
    split at hl
    case h_2 => exact hl.elim
    rename_i l u m h1 h2 h3
    obtain ⟨v', h', nx', ι', k1, k2, k3, k4, k5⟩ := vslice_ok hT hl e4 H0
    refine ⟨v', nx', ι', k1, k2, k3, k4, fun w H hb => .inl ?_⟩
    obtain ⟨k6, k7⟩ := k5 w (by simpa [heapOf, isPure] using H)
    rw [← optOK_spec he h1, ← optOK_spec he h2, ← optOK_spec he h3, ← e3] at k7
    simp only [execOp, Sem.run_bind, k7, Result.andThen_ok, Sem.run_pure]
  case call c =>
    obtain ⟨cal, args, ats⟩ := c
    simp only [vquiet] at hl
    cases cal with
    | invoke r m => exact hl.elim
    | builtin b => exact hpure K rfl hl
    | value f =>
      simp only at hl
      obtain ⟨fv, hfv, hl⟩ := on_ok hl
      obtain ⟨e1, e2⟩ := he.opv hfv
      split at hl
      case h_2 => exact hl.elim
      rename_i l hvs
      obtain ⟨e3, e4⟩ := vargs_spec he hvs
      have hargs : args.map a.eval = (l.map (tr ι)).toArray := by
        apply Array.ext'
        simpa using e3
      split at hl
      case h_2 => exact hl.elim
      rename_i g first cap
      split at hl
      case h_2 => exact hl.elim
      rename_i hfirst hcap
      obtain ⟨first⟩ := first
      simp only at hfirst
      subst hfirst
      obtain ⟨v, h', nx', k1, k2⟩ := hD _ _ _ _ _ hl
      split at k1
      case h_2 => exact k1.elim
      rename_i hg
      refine ⟨v, nx, ι, k1, scT_g hg, fun _ _ => rfl, Nat.le_refl _, fun w H _ => .inr ?_⟩
      have H : RelH ι B hJ nx w := by simpa [heapOf, isPure] using H
      have hl' := k2 (fun v' _ _ => v' = v) rfl
      obtain ⟨⟨fn, hfn, hbody, hname⟩, hcalls⟩ := hC g _ _ nx _ hl' ι w.heap.size w H.shut (by
        intro v hv
        rcases List.mem_append.1 hv with hv | hv
        · exact e4 v hv
        · obtain ⟨p, rfl⟩ := capPtr_spec hcap v hv
          exact e2.2 _ hv)
      have hcapm : cap.map (trP ι) = (cap.toList.map (tr ι)).toArray := by
        apply Array.ext'
        simp only [Array.toList_map]
        apply List.map_congr_left
        intro v hv
        obtain ⟨p, rfl⟩ := capPtr_spec hcap v hv
        rfl
      refine ⟨g, ((l ++ cap.toList).map (tr ι)).toArray, ?_, ?_⟩
      · obtain ⟨bdy, hb'⟩ := Option.isSome_iff_exists.1 hbody
        have hname' : fn.name ≠ "runtime.NumGoroutine" := by simpa using hname
        simp [execOp, resolve, e1, tr, trA, trS, trFn, Deferred.ofValue, invoke, callFunc, hfn, hname', hb', hargs, hcapm]
      · refine CallsIn.mono hcalls fun e w' hret => ?_
        cases e with
        | returned u =>
          obtain ⟨v', h'', nx'', ι', rfl, k2, k3, k4, k5, k6, rfl⟩ := hret
          exact ⟨by rw [tr_g hg, tr_g hg], k4⟩
        | panicked c => exact hret.elim
        | outgrown => exact hret.elim
  all_goals exact hpure K rfl hl
end
end Go.Aw
end
