/-
  A round of a loop over a function, in the machine. No condition.
-/
import Derived.Test.YtagdfcdnfdpocaaGreatAw30
set_option linter.unusedSimpArgs false
set_option linter.unusedVariables false
noncomputable section
namespace Go.Aw
open Go.RowKit

section
variable {P : Program} {T : Tab} {C : VC} {Y : VY}

theorem loop_set {ι : Nat → Loc} {B nx : Nat} {h : Heap} {w : World} (H : RelH ι B h nx w) {l : Nat} {la : LoopA} (hl : look h l = some (.loop la)) {b o e : Nat} (hι : ι l = .at b o e) :
    ∃ r : Loop, w.heap[b]? = some (.loop r) ∧ r.state = la.state ∧ r.pending = la.pending ∧ B ≤ b ∧ ∀ st pd, RelH ι B (upd h l (.loop { la with state := st, pending := pd })) nx { w with heap := w.heap.setIfInBounds b (.loop { r with state := st, pending := pd }) } ∧
      Below B w { w with heap := w.heap.setIfInBounds b (.loop { r with state := st, pending := pd }) } := by
  have ho := H.obj l _ hl
  rw [hι] at ho
  obtain ⟨h0, r, h1, h2, h3, h4, h5, h6, h7, h8, h9, h10⟩ := ho
  have hlt := (Array.getElem?_eq_some_iff.1 h1).1
  refine ⟨r, h1, h2, h3, h0, fun st pd => ⟨?_, ⟨rfl, rfl, rfl, by simp, fun c hc => by simp [Array.getElem?_setIfInBounds_ne (show b ≠ c by omega)]⟩⟩⟩
  refine H.set hl rfl ?_ (show OSc ι nx (.loop { la with state := st, pending := pd }) from ⟨(H.sc l _ hl).1, (H.sc l _ hl).2⟩) rfl (fun c hc => ?_) (by simp)
  · rw [hι]
    exact ⟨h0, { r with state := st, pending := pd }, by simp [Array.getElem?_setIfInBounds_self_of_lt hlt], rfl, rfl, trivial, h5, h6, h7, h8, h9, h10⟩
  · have : b ≠ c := fun e => hc (by rw [hι, e]; rfl)
    simp [Array.getElem?_setIfInBounds_ne this]

theorem zipPut_ok {ι : Nat → Loc} {n tn : Nat} : ∀ (ps : List Nat) (args : List Value) (e e0 : List (Nat × Value)) (tm : Array Value) (ds : List Deferred), zipPut tn e ps args = some e0 → EnvOK ι n e { tmps := tm, defers := ds } → tm.size = tn → (∀ v ∈ args, scT ι n v) →
    ps.length = args.length ∧ EnvOK ι n e0 { tmps := (ps.zip (args.map (tr ι))).foldl (fun tmps q => tmps.setIfInBounds q.1 q.2) tm, defers := ds } ∧ ((ps.zip (args.map (tr ι))).foldl (fun tmps q => tmps.setIfInBounds q.1 q.2) tm).size = tn
  | [], [], e, e0, tm, ds, h, he, hs, _ => by simp [zipPut] at h; subst h; exact ⟨rfl, he, hs⟩
  | [], _ :: _, _, _, _, _, h, _, _, _ => by simp [zipPut] at h
  | _ :: _, [], _, _, _, _, h, _, _, _ => by simp [zipPut] at h
  | t :: ts, v :: vs, e, e0, tm, ds, h, he, hs, ha => by
    simp only [zipPut] at h
    split at h
    · rename_i ht
      have ht := blt_true ht
      have := he.upd (d := t) (v := v) (by show t < tm.size; omega) (ha v (by simp))
      obtain ⟨h1, h2, h3⟩ := zipPut_ok ts vs (put e t v) e0 (tm.setIfInBounds t (tr ι v)) ds h this (by simp [hs]) (fun u hu => ha u (by simp [hu]))
      exact ⟨by simp [h1], h2, h3⟩
    · cases h

theorem vfin_ok {ι0 ι : Nat → Loc} {B0 nx0 nx tn : Nat} {w0 : World} {e : List (Nat × Value)} {h : Heap} {a : Act} {w : World} (I : CInv B0 w0 ι0 nx0 tn ι e h nx a w) {q : Nat} {K : KE} {j : Option Code} {b o ex : Nat} (hq : q < nx0) (hι : ι0 q = .at b o ex) (hl : vfin q K j e h nx) :
    ∃ v w', (Instr.endRound b j).run P w = .ok v w' ∧ Ret B0 w0 ι0 nx0 K (.returned v) w' := by
  obtain ⟨B, w1, ι1, nx1, ds, h1, h2, h3, h4, h5, J⟩ := I
  unfold vfin at hl
  split at hl
  case h_2 => exact hl.elim
  rename_i la hk
  have hold : ∀ k, k < nx0 → ι k = ι0 k := fun k hk => (J.old k (Nat.lt_of_lt_of_le hk h4)).trans (h3 k hk)
  obtain ⟨r, k1, k2, k3, k4, k5⟩ := loop_set J.heap hk ((hold q hq).trans hι)
  obtain ⟨k6, k7⟩ := k5 (if j.isNone then .ready else .done) j
  refine ⟨.bool j.isNone, _, ?_, .bool j.isNone, _, nx, ι, hl, by simp [scT, scA, scS, scP], k6.down h1, ?_, hold, Nat.le_trans h4 J.le, rfl⟩
  · simp only [Instr.endRound, Sem.run_bind, run_getLoop k1, Result.andThen_ok, run_setLoop k1, Sem.run_pure]
  · exact h2.trans ((J.below.trans k7).mono h1)

theorem noRange_ok {r : Option Nat} {tn : Nat} : RangeOK P r tn noRange := fun g ps as bd kn kx kr e h nx hl => hl.elim
theorem noRange_mono : RMono noRange := fun g ps as bd kn kn' kx kx' kr kr' e h nx _ _ _ hl => hl.elim

theorem vround_ok (hT : TabOK P T) (hC : CallsOK P C) (hY : YieldsOK P Y) (hD : DetC C) (hDY : DetC Y) (hm : P.follows .mixedOrders = true) {PL : Nat → Nat → Option Plan} {M : Nat} : YieldsOK P (vround std T C Y PL (.fuel M)) := by
  intro q args h nx K hl ι B w H hs b o ex hι
  unfold vround at hl
  split at hl
  case h_2 => exact hl.elim
  rename_i la hk
  split at hl
  case h_2 => exact hl.elim
  rename_i e0 hz hpl
  simp only [Bool.and_eq_true] at hpl
  have hq : q < nx := H.low q _ hk
  have ho := H.obj q _ hk
  rw [hι] at ho
  obtain ⟨g0, r, g1, g2, g3, g4, g5, g6, g7, g8, g9, g10⟩ := ho
  have henv : EnvOK ι nx la.env { tmps := r.tmps, defers := [] } := fun t v hv => ⟨g6 t v hv, (H.sc q _ hk).1 t v hv⟩
  obtain ⟨z1, z2, z3⟩ := zipPut_ok la.params args la.env e0 r.tmps [] hz henv g5 hs
  have hsz : (args.map (tr ι)).toArray.size = r.params.size := by
    rw [← Array.length_toList (xs := r.params), g7]
    simp [z1]
  refine ⟨r.fn, (la.params.zip (args.map (tr ι))).foldl (fun tmps q => tmps.setIfInBounds q.1 q.2) r.tmps, r.assign, r.body, ?_, ?_⟩
  · have hf : (r.params.zip (args.map (tr ι)).toArray).foldl (fun tmps x => match x with | (t, a) => tmps.setIfInBounds t a) r.tmps = (la.params.zip (args.map (tr ι))).foldl (fun tmps q => tmps.setIfInBounds q.1 q.2) r.tmps := by
      rw [← Array.foldl_toList, ← g7]
      simp
    simp only [Instr.yield, Sem.run_bind, run_getLoop g1, Result.andThen_ok, hsz, ne_eq, not_true_eq_false, if_false, Sem.run_ite, Sem.run_pure]
    rw [← hf]
  · refine roundIn_of_wpIn trivial ?_
    rw [g8]
    have hbase : CInv B w ι nx la.tn ι e0 h nx { tmps := (la.params.zip (args.map (tr ι))).foldl (fun tmps q => tmps.setIfInBounds q.1 q.2) r.tmps, defers := [] } w :=
      ⟨B, w, ι, nx, [], Nat.le_refl _, Below.refl _ _, fun _ _ => rfl, Nat.le_refl _, ⟨[], rfl, by simp, by simp⟩, z2, H, Below.refl _ _, fun _ _ => rfl, Nat.le_refl _, z3, rfl⟩
    refine vcode_ok hT hC hY hD hDY hm (some b) noRange_ok noRange_mono la.assign hpl.1 _ _ _ e0 h nx hl B w ι nx _ trivial ⟨?_, fun id ι e h nx a w hk _ => hk.elim, fun ι e h nx a w hk _ => hk.elim⟩ ι _ w hbase
    intro ι1 e1 h1 nx1 a1 w1 hk1 I1
    obtain ⟨B1, wb, ιb, nxb, ds, i1, i2, i3, i4, i5, J⟩ := I1
    split at hk1
    case h_2 => exact hk1.elim
    rename_i l1 hl1
    split at hk1
    case h_2 => exact hk1.elim
    rename_i hst
    have hold : ∀ k, k < nx → ι1 k = ι k := fun k hk => (J.old k (Nat.lt_of_lt_of_le hk i4)).trans (i3 k hk)
    obtain ⟨r1, k1, k2, k3, k4, k5⟩ := loop_set J.heap hl1 ((hold q hq).trans hι)
    obtain ⟨k6, k7⟩ := k5 .busy r1.pending
    rw [show ({ l1 with state := .busy, pending := r1.pending } : LoopA) = { l1 with state := .busy } by rw [k3]] at k6
    refine ⟨{ w1 with heap := w1.heap.setIfInBounds b (.loop { r1 with state := .busy }) }, ?_, ?_⟩
    · have hr : r1.state = .ready := k2.trans hst
      simp [Instr.beginRound, run_getLoop k1, run_setLoop k1, hr]
    · rw [g9]
      have I2 : CInv B w ι nx la.tn ι1 e1 (upd h1 q (.loop { l1 with state := .busy })) nx1 a1 { w1 with heap := w1.heap.setIfInBounds b (.loop { r1 with state := .busy }) } :=
        ⟨B1, wb, ιb, nxb, ds, i1, i2, i3, i4, i5, J.step J.env k6 k7 (fun _ _ => rfl) (Nat.le_refl _) J.size rfl⟩
      refine vcode_ok hT hC hY hD hDY hm (some b) noRange_ok noRange_mono la.body hpl.2 _ _ _ e1 _ nx1 hk1 B w ι nx _ trivial ⟨?_, ?_, ?_⟩ ι1 a1 _ I2
      · exact fun ι e h nx a w hk I => vfin_ok I hq hι hk
      · exact fun id ι e h nx a w hk I => vfin_ok I hq hι hk
      · exact fun ι e h nx a w hk I => vfin_ok I hq hι hk
end
end Go.Aw
