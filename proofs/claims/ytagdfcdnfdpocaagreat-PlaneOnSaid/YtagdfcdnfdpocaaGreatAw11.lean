/-
  Slices: parts of them, and appending: the two sides together. No condition.
-/
import Derived.Test.YtagdfcdnfdpocaaGreatAw10
set_option linter.unusedSimpArgs false
set_option linter.unusedVariables false
noncomputable section
namespace Go.Aw
open Go.RowKit

def vhi (A : Ar) (n c : Nat) (hi : Option Value) (G : Nat → Prop) : Prop :=
  match hi with
  | none => G n
  | some (.int _ i) => must (A.andB (A.le 0 i) (A.le i (A.num c))) (G (A.toN i))
  | _ => False
def isZero : Option Value → Bool
  | none => true
  | some (.int _ 0) => true
  | _ => false

def vslice (A : Ar) (T : Tab) (h : Heap) (nx : Nat) (t : TypeId) (x : Value) (lo hi mx : Option Value) (K : KE) : Prop :=
  match look T t with
  | some { kind := .sl e, .. } =>
    (match look T e with
    | none => False
    | some ei =>
      match x, mx with
      | .slice none 0 0, none => (match isZero lo, isZero hi with | true, true => K (.slice none 0 0) h nx | _, _ => False)
      | .slice (some ⟨k, o, none⟩) n c, none =>
        vhi A n c hi fun hN =>
          (match lo with
          | none => K (.slice (some ⟨k, o, none⟩) hN c) h nx
          | some (.int _ l) => must (A.andB (A.andB (A.le 0 l) (A.le l (A.num hN))) (A.le (A.num hN) (A.num c)))
              (match look h k with
              | some (.cells true _ _ _) => must (A.lt l (A.num c)) (K (.slice (some ⟨k, A.ix o l ei.size, none⟩) (A.subN hN (A.toN l)) (A.subN c (A.toN l))) h nx)
              | some (.cells false _ sz cs) => K (.slice (some ⟨nx, 0, none⟩) (A.subN hN (A.toN l)) (A.subN c (A.toN l)))
                  (upd h nx (.cells false false sz ((cs.drop (A.ix o l ei.size)).take (A.subN hN (A.toN l) * ei.size)))) (nx + 1)
              | _ => False)
          | _ => False)
      | .slice (some ⟨k, o, none⟩) n c, some (.int _ 0) =>
        (match isZero lo, hi with | true, some (.int _ 0) => K (.slice (some ⟨nx, 0, none⟩) 0 0) (upd h nx .zero) (nx + 1) | _, _ => False)
      | .slice (some ⟨k, o, none⟩) n c, some (.int _ m) =>
        (match lo, hi with
        | some (.int _ l), some (.int _ u) => must (A.andB (A.andB (A.le 0 l) (A.le l u)) (A.andB (A.le u m) (A.andB (A.le 1 m) (A.le m (A.num c))))) (K (.slice (some ⟨nx, 0, none⟩) (A.subN (A.toN u) (A.toN l)) (A.subN (A.toN m) (A.toN l))) h (nx + 1))
        | _, _ => False)
      | _, _ => False)
  | _ => False

section
variable {P : Program} {T : Tab} {ι : Nat → Loc} {B nx : Nat} {h : Heap}

def loOf : Option Value → Option Nat
  | none => some 0
  | some (.int _ i) => if 0 ≤ i then some i.toNat else none
  | _ => none
def hiOf (n c : Nat) : Option Value → Option Nat
  | none => some n
  | some (.int _ i) => if 0 ≤ i ∧ i ≤ c then some i.toNat else none
  | _ => none

theorem run_sliceAt {t e : TypeId} {s : Nat} (ht : P.underlying t = some (.slice e)) (w : World) (hs : (sizeOf e).run P w = .ok s w) (a : Option Addr) {n c : Nat} {lo hi : Option Value} {l hN : Nat}
    (hl : loOf lo = some l) (hh : hiOf n c hi = some hN) (hle : l ≤ hN) :
    (Instr.sliceAt t (.slice a n c) lo hi none).run P w = .ok (.slice (if c = l then a else a.map (·.add (l * s))) (hN - l) (c - l)) w := by
  have e1 : (match hi with | some v => Instr.sliceBound v c .sliceAcap | none => pure n : Sem Nat).run P w = .ok hN w := by
    cases hi with
    | none => simp [hiOf] at hh; subst hh; simp
    | some v =>
      cases v <;> simp only [hiOf] at hh <;> try (cases hh; done)
      rename_i k i
      split at hh
      · rename_i hb
        injection hh with hh
        subst hh
        simp [run_sliceBound_if, hb]
      · cases hh
  have e2 : (match lo with | some v => Instr.sliceBound v hN .sliceB | none => pure 0 : Sem Nat).run P w = .ok l w := by
    cases lo with
    | none => simp [loOf] at hl; subst hl; simp
    | some v =>
      cases v <;> simp only [loOf] at hl <;> try (cases hl; done)
      rename_i k i
      split at hl
      · rename_i hb
        injection hl with hl
        subst hl
        have : 0 ≤ i ∧ i ≤ hN := ⟨hb, by omega⟩
        simp [run_sliceBound_if, this]
      · cases hl
  have e3 : (Instr.sliceBounds true n c lo hi none).run P w = .ok (l, hN, c) w := by
    unfold Instr.sliceBounds
    cases hi with
    | none =>
      simp at e1
      subst e1
      cases lo with
      | none => simp at e2; subst e2; simp
      | some v => simp at e2 ⊢; rw [e2]; simp
    | some v =>
      simp at e1
      cases lo with
      | none => simp at e2; subst e2; simp [e1]
      | some v => simp at e2 ⊢; rw [e1]; simp [e2]
  simp only [Instr.sliceAt, Sem.run_bind, run_underlying ht, Result.andThen_ok, Instr.slice, e3, hs, Sem.run_pure]

theorem vhi_ok {n c : Nat} {hi : Option Value} {G : Nat → Prop} (hl : vhi std n c hi G) : ∃ hN, G hN ∧ (∀ c', c ≤ c' → hiOf n c' (hi.map (tr ι)) = some hN) ∧ (hN = n ∨ hN ≤ c) := by
  unfold vhi at hl
  split at hl
  · exact ⟨n, hl, fun _ _ => rfl, .inl rfl⟩
  · rename_i k i
    obtain ⟨hb, hG⟩ := must_iff.1 hl
    simp only [std, Bool.and_eq_true, decide_eq_true_eq] at hb hG
    refine ⟨i.toNat, hG, fun c' hc => ?_, .inr (by omega)⟩
    simp only [Option.map_some, tr_int, hiOf]
    rw [if_pos ⟨hb.1, by omega⟩]
  · exact hl.elim

theorem isZero_lo {lo : Option Value} (h : isZero lo = true) : loOf (lo.map (tr ι)) = some 0 := by
  unfold isZero at h
  split at h
  · rfl
  · rfl
  · cases h
theorem isZero_hi {hi : Option Value} {c : Nat} (h : isZero hi = true) : hiOf 0 c (hi.map (tr ι)) = some 0 := by
  unfold isZero at h
  split at h
  · rfl
  · simp [hiOf, tr_int]
  · cases h

/-- What a step leaves that lays no block: names alone. -/
def Names (P : Program) (ι : Nat → Loc) (B nx : Nat) (w0 : World) (h : Heap) (m : Sem Value) (K : KE) : Prop :=
  ∃ v h' nx' ι', K v h' nx' ∧ scT ι' nx' v ∧ (∀ k, k < nx → ι' k = ι k) ∧ nx ≤ nx' ∧ ∀ w, RelH ι B h nx w → Below w0.heap.size w0 w → RelH ι' B h' nx' w ∧ m.run P w = .ok (tr ι' v) w

theorem vslice_ok (hT : TabOK P T) {t : TypeId} {x : Value} {lo hi mx : Option Value} {K : KE} (hl : vslice std T h nx t x lo hi mx K) (hx : scT ι nx x) {w0 : World} (H0 : RelH ι B h nx w0) :
    Names P ι B nx w0 h (Instr.sliceAt t (tr ι x) (lo.map (tr ι)) (hi.map (tr ι)) (mx.map (tr ι))) K := by
  unfold vslice at hl
  split at hl
  case h_2 => exact hl.elim
  rename_i e s1 b1 z1 ht
  split at hl
  · exact hl.elim
  rename_i ei he
  have hti := hT t _ ht
  have hei := hT e _ he
  have hts := hti.sl rfl
  split at hl
  · split at hl
    case h_2 => exact hl.elim
    rename_i hz1 hz2
    refine ⟨_, _, _, ι, hl, by simp [scT, scA, scS, scP], fun _ _ => rfl, Nat.le_refl _, fun w H _ => ⟨H, ?_⟩⟩
    rw [tr_slice_none, Option.map_none, run_sliceAt hts w (hei.sizeOf w) none (isZero_lo hz1) (isZero_hi hz2) (Nat.le_refl _)]
    simp
  · rename_i k o n c
    have hx' : k < nx ∧ ((ι k).isAt = false → n = 0 ∧ c = 0) := hx
    obtain ⟨hN, hG, hhi, hle⟩ := vhi_ok (ι := ι) hl
    split at hG
    · refine ⟨_, _, _, ι, hG, ⟨hx'.1, fun e => ?_⟩, fun _ _ => rfl, Nat.le_refl _, fun w H _ => ⟨H, ?_⟩⟩
      · have := hx'.2 e
        omega
      · cases hι : ι k with
        | nil p =>
          obtain ⟨rfl, rfl⟩ := hx'.2 (by rw [hι]; rfl)
          have h0 : hN = 0 := by omega
          subst h0
          simp only [tr, trA, trS, trP, hι, Option.map_none]
          rw [run_sliceAt hts w (hei.sizeOf w) p (l := 0) rfl (hhi 0 (Nat.le_refl _)) (Nat.le_refl _)]
          simp
        | «at» b off ex =>
          simp only [tr, trA, trS, trP, hι, Option.map_none]
          rw [run_sliceAt hts w (hei.sizeOf w) _ (l := 0) rfl (hhi (c + ex) (by omega)) (Nat.zero_le _)]
          simp [Addr.add_zero']
    · rename_i kk l
      obtain ⟨hb, hG⟩ := must_iff.1 hG
      simp only [std, Bool.and_eq_true, decide_eq_true_eq] at hb
      obtain ⟨hb, hbc⟩ := hb
      have hlo : loOf ((some (Value.int kk l)).map (tr ι)) = some l.toNat := by simp [loOf, tr_int, hb.1]
      split at hG
      · rename_i g sz cs hk
        obtain ⟨hb2, hG⟩ := must_iff.1 hG
        simp only [std, decide_eq_true_eq] at hb2 hG
        refine ⟨_, _, _, ι, hG, ⟨hx'.1, fun e => ?_⟩, fun _ _ => rfl, Nat.le_refl _, fun w H _ => ⟨H, ?_⟩⟩
        · have := hx'.2 e
          omega
        · cases hι : ι k with
          | nil p => have := hx'.2 (by rw [hι]; rfl); omega
          | «at» b off ex =>
            simp only [tr, trA, trS, trP, hι, Option.map_none]
            rw [run_sliceAt hts w (hei.sizeOf w) _ hlo (hhi (c + ex) (by omega)) (by omega), if_neg (by omega)]
            simp only [Option.map_some, Addr.add_lit, Nat.add_assoc]
            congr 2
            omega
      · rename_i g sz cs hk
        simp only [std] at hG
        have hob := H0.obj k _ hk
        cases hι : ι k with
        | nil p =>
          obtain ⟨rfl, rfl⟩ := hx'.2 (by rw [hι]; rfl)
          have h0 : hN = 0 := by omega
          subst h0
          have hl0 : l = 0 := by omega
          subst hl0
          refine ⟨_, _, _, ins ι nx (.nil p), hG, ⟨by simp, fun _ => by simp [std]⟩, fun k hk => ins_lt _ _ hk, by omega, fun w H _ => ⟨?_, ?_⟩⟩
          · refine H.add _ (.nil p) ?_ ?_ (fun k' o' _ _ b hb => by cases hb)
            · simp [ORel]
            · intro v hv
              simp at hv
          · simp only [tr, trA, trS, trP, hι, Option.map_none, ins_same]
            rw [run_sliceAt hts w (hei.sizeOf w) p (l := 0) (by simp [loOf, tr_int]) (hhi 0 (Nat.le_refl _)) (Nat.le_refl _)]
            simp
        | «at» b off ex =>
          rw [hι] at hob
          obtain ⟨hlt, _, hcell⟩ := hob
          have hmem : ∀ v ∈ (cs.drop (o + l.toNat * ei.size)).take ((hN - l.toNat) * ei.size), v ∈ cs := fun v hv => List.mem_of_mem_drop (List.mem_of_mem_take hv)
          refine ⟨_, _, _, ins ι nx (.at b (off + o + (if c + ex = l.toNat then 0 else l.toNat * ei.size)) ex), hG, ⟨by simp, fun e => by rw [ins_same] at e; cases e⟩, fun k hk => ins_lt _ _ hk, by omega, fun w H hbel => ⟨?_, ?_⟩⟩
          · have hob' := H.obj k _ hk
            rw [hι] at hob'
            refine H.add _ _ ⟨hob'.1, by simp, fun i v hv => ?_⟩ ?_ ?_
            · have hv' := hv
              rw [List.getElem?_take] at hv
              split at hv
              case isFalse => cases hv
              rename_i hi
              rw [List.getElem?_drop] at hv
              have hsv := H.sc k _ hk v (List.mem_of_getElem? hv)
              rw [trS_eq (fun k hk => ins_lt _ _ hk) hsv]
              have := hob'.2.2 _ v hv
              split
              · rename_i hce
                have : hN - l.toNat = 0 := by omega
                rw [this] at hi
                simp at hi
              · rw [← this]
                congr 2
                omega
            · intro v hv
              exact scS_mono (by omega) (fun k hk => ins_lt _ _ hk) (H.sc k _ hk v (hmem v hv))
            · intro k' o' hk' ha b' hb' e
              have e1 : b = b' := by simpa [Loc.blk] using hb'
              subst e1
              rcases ha with ha | ha
              · cases ha
              · by_cases hkk : k' = k
                · subst hkk
                  rw [hk] at hk'
                  injection hk' with hk'
                  subst hk'
                  cases ha
                · exact H.sep k' k o' _ hk' hk hkk ha b e (by rw [hι]; rfl)
          · simp only [tr, trA, trS, trP, hι, Option.map_none, ins_same]
            rw [run_sliceAt hts w (hei.sizeOf w) _ hlo (hhi (c + ex) (by omega)) (by omega)]
            by_cases hce : c + ex = l.toNat
            · rw [if_pos hce, if_pos hce]
              simp only [Nat.add_zero, std]
              congr 2
              omega
            · rw [if_neg hce, if_neg hce]
              simp only [Option.map_some, Addr.add_lit, std, Nat.add_zero]
              congr 2
              omega
      · exact hG.elim
    · exact hG.elim
  · rename_i k o n c kk
    split at hl
    case h_2 => exact hl.elim
    rename_i kk' hz
    have hx' : k < nx ∧ ((ι k).isAt = false → n = 0 ∧ c = 0) := hx
    have hsl : ∀ (w : World) (a : Option Addr) (m c' : Nat), (Instr.sliceAt t (.slice a m c') (lo.map (tr ι)) (some (.int kk' 0)) (some (.int kk 0))).run P w = .ok (.slice a 0 0) w := by
      intro w a m c'
      have e1 := isZero_lo (ι := ι) hz
      generalize lo.map (tr ι) = lo' at e1
      cases lo' with
      | none =>
        simp [Instr.sliceAt, run_underlying hts, Instr.slice, Instr.sliceBounds, Instr.sliceBound, asIntOf, hei.sizeOf]
      | some v =>
        cases v <;> simp only [loOf] at e1 <;> try (cases e1; done)
        rename_i k3 i
        split at e1
        case isFalse => cases e1
        have : i = 0 := by injection e1; omega
        subst this
        simp [Instr.sliceAt, run_underlying hts, Instr.slice, Instr.sliceBounds, Instr.sliceBound, asIntOf, hei.sizeOf]
    obtain ⟨p, hp⟩ : ∃ p, ∀ m c', ∃ m' c'', tr ι (.slice (some ⟨k, o, none⟩) m c') = .slice p m' c'' := by
      cases hι : ι k with
      | nil p => exact ⟨p, fun m c' => ⟨m, c', by simp [tr, trA, trS, trP, hι]⟩⟩
      | «at» b off ex => exact ⟨some ⟨b, off + o, none⟩, fun m c' => ⟨m, c' + ex, by simp [tr, trA, trS, trP, hι]⟩⟩
    refine ⟨_, _, _, ins ι nx (.nil p), hl, ⟨by simp, fun _ => by simp⟩, fun k hk => ins_lt _ _ hk, by omega, fun w H _ => ⟨?_, ?_⟩⟩
    · exact H.add .zero (.nil p) trivial trivial (fun k' o' _ _ b hb => by cases hb)
    · obtain ⟨m', c'', e1⟩ := hp n c
      rw [e1]
      have e2 : tr (ins ι nx (.nil p)) (.slice (some ⟨nx, 0, none⟩) 0 0) = .slice p 0 0 := by simp [tr, trA, trS, trP, ins_same]
      rw [e2]
      exact hsl w _ _ _
  · rename_i k o n c kk m hm0
    split at hl
    case h_2 => exact hl.elim
    rename_i k1 l k2 u
    obtain ⟨hb, hG⟩ := must_iff.1 hl
    simp only [std, Bool.and_eq_true, decide_eq_true_eq] at hb hG
    obtain ⟨⟨hb1, hb2⟩, hb3, hb4, hb5⟩ := hb
    have hx' : k < nx ∧ ((ι k).isAt = false → n = 0 ∧ c = 0) := hx
    cases hι : ι k with
    | nil p =>
      have := (hx'.2 (by rw [hι]; rfl)).2
      omega
    | «at» b off ex =>
      refine ⟨_, _, _, ins ι nx (.at b (off + o + (if m.toNat = l.toNat then 0 else l.toNat * ei.size)) 0), hG, ⟨by simp, fun e => by rw [ins_same] at e; cases e⟩, fun k hk => ins_lt _ _ hk, by omega, fun w H _ => ⟨H.more _, ?_⟩⟩
      have e1 : tr ι (.slice (some ⟨k, o, none⟩) n c) = .slice (some ⟨b, off + o, none⟩) n (c + ex) := by simp [tr, trA, trS, trP, hι]
      have e2 : ∀ n c, tr (ins ι nx (.at b (off + o + (if m.toNat = l.toNat then 0 else l.toNat * ei.size)) 0)) (.slice (some ⟨nx, 0, none⟩) n c) = .slice (some ⟨b, off + o + (if m.toNat = l.toNat then 0 else l.toNat * ei.size), none⟩) n c := fun n c => by simp [tr, trA, trS, trP, ins_same]
      rw [e1, e2]
      simp only [Option.map_some, tr_int]
      have b1 : ∀ (hi2 : Nat) (wh : _), m ≤ (hi2 : Int) → (Instr.sliceBound (.int kk m) hi2 wh).run P w = .ok m.toNat w := fun hi2 wh hh => by
        simp [run_sliceBound_if, show 0 ≤ m ∧ m ≤ (hi2 : Int) from ⟨by omega, hh⟩]
      have b2 : ∀ (hi2 : Nat) (wh : _), u ≤ (hi2 : Int) → (Instr.sliceBound (.int k2 u) hi2 wh).run P w = .ok u.toNat w := fun hi2 wh hh => by
        simp [run_sliceBound_if, show 0 ≤ u ∧ u ≤ (hi2 : Int) from ⟨by omega, hh⟩]
      have b3 : ∀ (hi2 : Nat) (wh : _), l ≤ (hi2 : Int) → (Instr.sliceBound (.int k1 l) hi2 wh).run P w = .ok l.toNat w := fun hi2 wh hh => by
        simp [run_sliceBound_if, show 0 ≤ l ∧ l ≤ (hi2 : Int) from ⟨by omega, hh⟩]
      simp only [Instr.sliceAt, Sem.run_bind, run_underlying hts, Result.andThen_ok, Instr.slice, Instr.sliceBounds, b1 (c + ex) _ (by omega), b2 m.toNat _ (by omega), b3 u.toNat _ (by omega), hei.sizeOf, Sem.run_pure]
      by_cases hml : m.toNat = l.toNat
      · simp [hml]
      · simp [hml, Addr.add_lit, Nat.add_assoc]
  · exact hl.elim
end
end Go.Aw
