/-
  Operations that lay or write cells. No condition.
-/
import Derived.Test.YtagdfcdnfdpocaaGreatAw7
set_option linter.unusedSimpArgs false
set_option linter.unusedVariables false
noncomputable section
namespace Go.Aw
open Go.RowKit

/-- Two worlds that part in one block alone. -/
structure Wrote (w w' : World) (b : Nat) : Prop where
  os : w'.os = w.os
  tape : w'.tape = w.tape
  output : w'.output = w.output
  size : w'.heap.size = w.heap.size
  other : ∀ c, c ≠ b → w'.heap[c]? = w.heap[c]?

theorem Wrote.refl (w : World) (b : Nat) : Wrote w w b := ⟨rfl, rfl, rfl, rfl, fun _ _ => rfl⟩
theorem Wrote.trans {a b c : World} {x : Nat} (h : Wrote a b x) (k : Wrote b c x) : Wrote a c x :=
  ⟨k.os.trans h.os, k.tape.trans h.tape, k.output.trans h.output, k.size.trans h.size, fun y hy => (k.other y hy).trans (h.other y hy)⟩
theorem Wrote.below {w w' : World} {b B : Nat} (h : Wrote w w' b) (hb : B ≤ b) : Below B w w' :=
  ⟨h.os, h.tape, h.output, Nat.le_of_eq h.size.symm, fun k hk => h.other k (by omega)⟩

theorem setCell_wrote (w : World) {b o : Nat} {arr : Array Value} {t : TypeId} {fz : Nat × Nat} (v : Value) (hb : w.heap[b]? = some (.cells arr t fz)) :
    Wrote w (w.setCell ⟨b, o, none⟩ v) b ∧ (w.setCell ⟨b, o, none⟩ v).heap[b]? = some (.cells (arr.setIfInBounds o v) t fz) := by
  refine ⟨⟨rfl, rfl, rfl, by simp [World.setCell], fun c hc => Below.heap_setCell _ _ _ _ hc⟩, ?_⟩
  simp [World.setCell, Array.getElem?_modify, hb]

theorem run_storeCells {P : Program} {b off : Nat} {t : TypeId} : ∀ (vs : List Value) (i : Nat) (w : World) (arr : Array Value), (∀ v ∈ vs, v.oneCell' = true) →
    w.heap[b]? = some (.cells arr t (0, 0)) → off + i + vs.length ≤ arr.size →
    ∃ w' arr', (storeCells ⟨b, off, none⟩ vs i).run P w = .ok () w' ∧ Wrote w w' b ∧ w'.heap[b]? = some (.cells arr' t (0, 0)) ∧ arr'.size = arr.size ∧
      ∀ j, arr'[j]? = if off + i ≤ j ∧ j < off + i + vs.length then vs[j - (off + i)]? else arr[j]?
  | [], i, w, arr, _, hb, _ => ⟨w, arr, by simp [storeCells], Wrote.refl _ _, hb, rfl, fun j => by rw [if_neg (by simp only [List.length_nil]; omega)]⟩
  | v :: vs, i, w, arr, hv, hb, hs => by
    simp only [List.length_cons] at hs
    have hc : w.cell? ⟨b, off + i, none⟩ = some (arr[off + i]'(by omega)) := by
      simp [World.cell?, hb]
    have hf : w.frozen? ⟨b, off + i, none⟩ = false := by simp [World.frozen?, hb]
    obtain ⟨hw1, hb1⟩ := setCell_wrote (o := off + i) w v hb
    obtain ⟨w', arr', h1, h2, h3, h4, h5⟩ := run_storeCells (P := P) (off := off) (t := t) vs (i + 1) (w.setCell ⟨b, off + i, none⟩ v) (arr.setIfInBounds (off + i) v) (fun u hu => hv u (by simp [hu])) hb1 (by simp; omega)
    refine ⟨w', arr', ?_, hw1.trans h2, h3, by simp [h4], fun j => ?_⟩
    · simp only [storeCells, Sem.run_bind]
      rw [Addr.add_lit, run_store _ _ _ _ _ (hv v (by simp)), hc]
      simp only [hf, Bool.false_eq_true, if_false, Result.andThen_ok, h1]
    · rw [h5 j]
      simp only [List.length_cons]
      by_cases hj : j = off + i
      · subst hj
        rw [if_neg (by omega), if_pos (by omega)]
        rw [Array.getElem?_setIfInBounds_self_of_lt (by omega)]
        simp
      · by_cases hj2 : off + (i + 1) ≤ j ∧ j < off + (i + 1) + vs.length
        · rw [if_pos hj2, if_pos (by omega)]
          rw [show j - (off + i) = (j - (off + (i + 1))) + 1 by omega]
          simp
        · rw [if_neg hj2, if_neg (by omega)]
          rw [Array.getElem?_setIfInBounds_ne (by omega)]

/-- A list with a part of it put anew. -/
def putN (cs : List Value) (o : Nat) (vs : List Value) : List Value := cs.take o ++ vs ++ cs.drop (o + vs.length)
theorem putN_length {cs vs : List Value} {o : Nat} (h : o + vs.length ≤ cs.length) : (putN cs o vs).length = cs.length := by
  simp [putN]; omega
theorem putN_get {cs vs : List Value} {o : Nat} (h : o + vs.length ≤ cs.length) (j : Nat) : (putN cs o vs)[j]? = if o ≤ j ∧ j < o + vs.length then vs[j - o]? else cs[j]? := by
  unfold putN
  rw [List.append_assoc]
  by_cases h1 : j < o
  · rw [List.getElem?_append_left (by simp; omega), List.getElem?_take_of_lt h1, if_neg (by omega)]
  · rw [List.getElem?_append_right (by simp; omega)]
    simp only [List.length_take]
    rw [Nat.min_eq_left (by omega)]
    by_cases h2 : j < o + vs.length
    · rw [List.getElem?_append_left (by omega), if_pos (by omega)]
    · rw [List.getElem?_append_right (by omega), List.getElem?_drop, if_neg (by omega)]
      congr 1; omega
theorem putN_mem {cs vs : List Value} {o : Nat} {v : Value} (h : v ∈ putN cs o vs) : v ∈ cs ∨ v ∈ vs := by
  unfold putN at h
  rcases List.mem_append.1 h with h | h
  · rcases List.mem_append.1 h with h | h
    · exact .inl (List.mem_of_mem_take h)
    · exact .inr h
  · exact .inl (List.mem_of_mem_drop h)

section
variable {P : Program} {T : Tab} {ι : Nat → Loc} {B nx : Nat} {h : Heap}

/-- Cells of an object of one's own are written. -/
theorem RelH.put {w : World} (H : RelH ι B h nx w) {k : Nat} {g : Bool} {sz : Nat} {cs : List Value} (hk : look h k = some (.cells true g sz cs)) {o : Nat} {vs : List Value} (ho : o + vs.length ≤ cs.length)
    (hs : ∀ v ∈ vs, scS ι nx v) (hne : vs ≠ []) :
    ∃ b off e w', ι k = .at b off e ∧ (storeCells ⟨b, off + o, none⟩ (vs.map (trS ι))).run P w = .ok () w' ∧ Below B w w' ∧
      RelH ι B (upd h k (.cells true false sz (putN cs o vs))) nx w' := by
  have hob := H.obj k _ hk
  have hlen : 0 < vs.length := by cases vs with | nil => exact absurd rfl hne | cons _ _ => simp
  cases hι : ι k with
  | nil =>
    rw [hι] at hob
    have : cs = [] := hob
    subst this
    simp only [List.length_nil] at ho; omega
  | «at» b off e =>
    rw [hι] at hob
    obtain ⟨hB, _, arr, t, h1, h2, h3⟩ := hob
    have hone : ∀ v ∈ vs.map (trS ι), v.oneCell' = true := by
      intro v hv
      obtain ⟨u, hu, rfl⟩ := List.mem_map.1 hv
      exact (trS_oneCell (hs u hu)).1
    obtain ⟨w', arr', e1, e2, e3, e4, e5⟩ := run_storeCells (P := P) (off := off + o) (vs.map (trS ι)) 0 w arr hone h1 (by simp; omega)
    refine ⟨b, off, e, w', rfl, e1, e2.below hB, ?_⟩
    refine H.set hk rfl ?_ ?_ rfl (fun c hc => e2.other c (fun e => hc (by rw [hι, e]; rfl))) (Nat.le_of_eq e2.size.symm)
    · rw [hι]
      refine ⟨hB, by simp, arr', t, e3, ?_, fun i v hv => ?_⟩
      · rw [putN_length ho, e4]; exact h2
      · rw [putN_get ho] at hv
        rw [e5]
        simp only [List.length_map, Nat.add_zero]
        by_cases hi : o ≤ i ∧ i < o + vs.length
        · rw [if_pos hi] at hv
          rw [if_pos (by omega), show off + i - (off + o) = i - o by omega, List.getElem?_map, hv]
          rfl
        · rw [if_neg hi] at hv
          rw [if_neg (by omega)]
          exact h3 i v hv
    · intro v hv
      rcases putN_mem hv with hv | hv
      · exact H.sc k _ hk v hv
      · exact hs v hv

/-- New cells of one's own. -/
theorem RelH.fresh {w : World} (H : RelH ι B h nx w) (t : TypeId) (arr : Array Value) (cs : List Value) (sz : Nat) (ha : arr.toList = cs.map (trS ι)) (hs : ∀ v ∈ cs, scS ι nx v) :
    RelH (ins ι nx (.at w.heap.size 0 0)) B (upd h nx (.cells true false sz cs)) (nx + 1) (w.alloc (.cells arr t)) := by
  have hsz : arr.size = cs.length := by rw [← Array.length_toList, ha, List.length_map]
  refine H.new (.cells arr t) (.cells true false sz cs) ?_ ?_
  · refine ⟨H.size, by simp, arr, t, (MapKept.heap_alloc w _).1, by omega, fun i v hv => ?_⟩
    rw [Nat.zero_add, ← Array.getElem?_toList, ha, List.getElem?_map, hv]
    simp only [Option.map_some]
    rw [trS_eq (ι := ι) (fun k hk => ins_lt _ _ hk) (hs v (List.mem_of_getElem? hv))]
  · intro v hv
    exact scS_mono (by omega) (fun k hk => ins_lt _ _ hk) (hs v hv)
end
end Go.Aw
