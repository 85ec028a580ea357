/-
  A range over a function, in the machine. No condition.
-/
import Derived.Test.YtagdfcdnfdpocaaGreatAw29
set_option linter.unusedSimpArgs false
set_option linter.unusedVariables false
noncomputable section
namespace Go.Aw
open Go.RowKit

section
variable {P : Program} {T : Tab} {C : VC} {Y : VY}

theorem run_getLoop {w : World} {l : Nat} {r : Loop} (h : w.heap[l]? = some (.loop r)) : (Instr.getLoop l).run P w = .ok r w := by
  simp [Instr.getLoop, getObj, Sem.run, h]
theorem run_setLoop {w : World} {l : Nat} {r : Loop} (h : w.heap[l]? = some (.loop r)) (o : Obj) : (setObj l o).run P w = .ok () { w with heap := w.heap.setIfInBounds l o } := by
  simp [setObj, Sem.run, h]

theorem vrange_ok (hC : CallsOK P C) {f tn : Nat} : RangeOK P none tn (vrange C f tn) := by
  intro g ps as bd kn kx kr e h nx hl B0 w0 ι0 nx0 Q E ι a w I
  obtain ⟨B, w1, ι1, nx1, ds, h1, h2, h3, h4, ⟨bs, hds, hnd, hbs⟩, J⟩ := I
  unfold vrange at hl
  obtain ⟨gv, hgv, hl⟩ := on_ok hl
  obtain ⟨e1, e2⟩ := J.env.opv hgv
  split at hl
  case h_2 => exact hl.elim
  rename_i q first cap
  split at hl
  case h_2 => exact hl.elim
  rename_i hfirst hcap
  obtain ⟨first⟩ := first
  simp only at hfirst
  subst hfirst
  refine wpIn_rangeFunc fun fnid _ => ?_
  -- the records
  have H := J.heap
  have hA := H.new (.deferred (some [])) .deferred ⟨H.size, (MapKept.heap_alloc w _).1⟩ trivial
  generalize hι2 : ins ι nx (.at w.heap.size 0 0) = ι2 at hA
  generalize hwA : w.alloc (.deferred (some [])) = wA at hA
  have hbA : Below w.heap.size w wA := by rw [← hwA]; exact below_alloc w _
  have hi2 : ∀ k, k < nx → ι2 k = ι k := fun k hk => by rw [← hι2]; exact ins_lt _ _ hk
  have hmark : ι2 nx = .at w.heap.size 0 0 := by rw [← hι2]; exact ins_same _ _ _
  let rec_ : Loop := { state := .ready, pending := none, fn := fnid, tmps := a.tmps, params := ps, assign := as, body := bd, defers := w.heap.size }
  let la : LoopA := { state := .ready, pending := none, fn := f, env := e, tn := tn, params := ps.toList, assign := as, body := bd, defers := nx }
  have hi3' : ∀ k, k < nx → ins ι2 (nx + 1) (.at wA.heap.size 0 0) k = ι k := fun k hk => by rw [ins_lt _ _ (by omega)]; exact hi2 k hk
  have hB := hA.new (.loop rec_) (.loop la) (by
    refine ⟨hA.size, rec_, (MapKept.heap_alloc wA _).1, rfl, rfl, trivial, J.size, fun t v hv => ?_, rfl, rfl, rfl, ?_⟩
    · obtain ⟨k1, k2⟩ := J.env t v hv
      rw [tr_eq hi3' k2]
      exact k1
    · show (ins ι2 (nx + 1) (.at wA.heap.size 0 0) nx).blk = some w.heap.size
      rw [ins_lt _ _ (by omega), hmark]
      rfl) ⟨fun t v hv => scT_mono (by omega) hi3' (J.env t v hv).2, by show nx < nx + 1 + 1; omega⟩
  generalize hι3 : ins ι2 (nx + 1) (.at wA.heap.size 0 0) = ι3 at hB hi3'
  generalize hwB : wA.alloc (.loop rec_) = wB at hB
  have hbB : Below wA.heap.size wA wB := by rw [← hwB]; exact below_alloc wA _
  have hl3 : ι3 (nx + 1) = .at wA.heap.size 0 0 := by rw [← hι3]; exact ins_same _ _ _
  have hm3 : ι3 nx = .at w.heap.size 0 0 := by rw [← hι3, ins_lt _ _ (by omega)]; exact hmark
  have hwA1 : w.heap.size < wA.heap.size := by rw [← hwA]; exact (Array.getElem?_eq_some_iff.1 (MapKept.heap_alloc w _).1).1
  -- the call
  obtain ⟨⟨fn, hfn, hbody, hname⟩, hcalls⟩ := hC q _ _ _ _ hl ι3 B wB hB (by
    intro v hv
    rcases List.mem_cons.1 hv with rfl | hv
    · simp [scT, scA, scS, scFn, hl3, Loc.isAt]
    · obtain ⟨p, rfl⟩ := capPtr_spec hcap v hv
      exact scT_mono (by omega) hi3' (show scT ι nx (.pointer (some p)) from e2.2 _ hv))
  have hcapm : cap.map (trP ι) = (cap.toList.map (tr ι3)).toArray := by
    apply Array.ext'
    simp only [Array.toList_map]
    apply List.map_congr_left
    intro v hv
    obtain ⟨p, rfl⟩ := capPtr_spec hcap v hv
    exact (tr_eq hi3' (show scT ι nx (.pointer (some p)) from e2.2 _ hv)).symm
  have hy : tr ι3 (.func (.yield (nx + 1)) #[] #[]) = .func (.yield wA.heap.size) #[] #[] := by simp [tr, trA, trS, trFn, hl3]
  obtain ⟨bdy, hb'⟩ := Option.isSome_iff_exists.1 hbody
  have hname' : fn.name ≠ "runtime.NumGoroutine" := by simpa using hname
  refine ⟨wA.heap.size, [markOf w.heap.size], wB, { target := .fn (.func q) (cap.map (trP ι)), args := #[.func (.yield wA.heap.size) #[] #[]] }, wB, q, ((Value.func (.yield (nx + 1)) #[] #[] :: cap.toList).map (tr ι3)).toArray, wB, ?_, ?_, fun _ _ => trivial, ?_, fun hdep => absurd hdep (by simp [Fr, Fence.wide]), ?_⟩
  · have hr : (Fr none).round = none := rfl
    rw [hr]
    subst hwB
    subst hwA
    simp [Instr.enterLoop, markOf, rec_]
  · have he1 : a.eval g = .func (.func q) #[] (cap.map (trP ι)) := e1
    have hc : ∀ v, a.eval (.const v) = v := fun _ => rfl
    simp [resolve, rangeCall, he1, hc, Deferred.ofValue]
  · simp [invoke, callFunc, hfn, hname', hb', hcapm, hy]
  · refine CallsIn.mono (F := Fence.wide) hcalls fun en w3 hret => ?_
    cases en with
    | panicked c => exact hret.elim
    | outgrown => exact hret.elim
    | returned u =>
      obtain ⟨v, h', nx', ι', k1, k2, k3, k4, k5, k6, rfl⟩ := hret
      split at k1
      case h_2 => exact k1.elim
      rename_i l' hl1 hl2
      have hι'l : ι' (nx + 1) = .at wA.heap.size 0 0 := (k5 _ (by omega)).trans hl3
      have hι'm : ι' nx = .at w.heap.size 0 0 := (k5 _ (by omega)).trans hm3
      have ho := k3.obj _ _ hl1
      rw [hι'l] at ho
      obtain ⟨o1, r', o2, o3, o4, _⟩ := ho
      have hd := k3.obj _ _ hl2
      rw [hι'm] at hd
      have hnb : l'.state ≠ .busy := by
        intro hs
        simp [hs] at k1
      have hend : (Instr.endLoop wA.heap.size).run P w3 = .ok l'.pending { w3 with heap := w3.heap.setIfInBounds wA.heap.size (.loop { r' with state := .exhausted }) } := by
        have hne : r'.state ≠ .busy := by rw [o3]; exact hnb
        have hbeq : (r'.state == .busy) = false := by simpa using hne
        simp [Instr.endLoop, run_getLoop o2, run_setLoop o2, hbeq, o4]
        exact fun h => absurd h hne
      -- past it
      generalize hw4 : ({ w3 with heap := w3.heap.setIfInBounds wA.heap.size (.loop { r' with state := .exhausted }) } : World) = w4 at hend
      have hoth : ∀ c, c ≠ wA.heap.size → w4.heap[c]? = w3.heap[c]? := fun c hc => by rw [← hw4]; simp [Array.getElem?_setIfInBounds_ne (fun e => hc e.symm)]
      have hsz4 : w4.heap.size = w3.heap.size := by rw [← hw4]; simp
      have hb4 : Below B w3 w4 := ⟨by rw [← hw4], by rw [← hw4], by rw [← hw4], by omega, fun c hc => hoth c (by omega)⟩
      have hR : RelH ι' B (rem (rem h' (nx + 1)) nx) nx' w4 := by
        refine ((k3.rem (nx + 1)).rem nx).keep (fun k o b hk hkb => hoth b fun e => ?_) (by omega)
        rw [look_rem] at hk
        split at hk
        · cases hk
        · rw [look_rem] at hk
          split at hk
          · cases hk
          · rename_i hne
            exact k3.sep (nx + 1) k _ o hl1 hk (fun e => hne e.symm) rfl wA.heap.size (by rw [hι'l]; rfl) (by rw [hkb, e])
      have hBw : Below B w w4 := ((hbA.mono H.size).trans (hbB.mono hA.size)).trans (k4.trans hb4)
      have hi' : ∀ k, k < nx → ι' k = ι k := fun k hk => (k5 k (by omega)).trans (hi3' k hk)
      have I' : CInv B0 w0 ι0 nx0 tn ι' e (afterLoop h' nx) nx' { a with defers := [markOf w.heap.size] ++ a.defers } w4 := by
        refine ⟨w4.heap.size, w4, ι', nx', markOf w.heap.size :: ds, ?_, ?_, fun k hk => ?_, ?_, ⟨w.heap.size :: bs, by rw [hds]; rfl, ?_, fun b hb => ?_⟩, J.env.names (by omega) hi', hR.shut, Below.refl _ _, fun _ _ => rfl, Nat.le_refl _, J.size, by rw [← J.defers]; rfl⟩
        · exact Nat.le_trans h1 hR.size
        · exact h2.trans ((J.below.mono h1).trans (hBw.mono h1))
        · have q1 : k < nx1 := Nat.lt_of_lt_of_le hk h4
          exact (hi' k (Nat.lt_of_lt_of_le q1 J.le)).trans ((J.old k q1).trans (h3 k hk))
        · have := J.le; omega
        · rw [List.nodup_cons]
          refine ⟨fun hm => ?_, hnd⟩
          have := (hbs _ hm).2.1
          have := H.size
          omega
        · rcases List.mem_cons.1 hb with rfl | hb
          · have := H.size
            have hsz := hBw.size
            have hk := k4.size
            have hk2 := hbB.size
            refine ⟨by omega, by omega, ?_⟩
            rw [hoth _ (by omega)]
            exact hd.2
          · obtain ⟨q1, q2, q3⟩ := hbs b hb
            have := hR.size
            refine ⟨q1, by omega, ?_⟩
            rw [hBw.block b q2, J.below.block b q2]
            exact q3
      refine ⟨_, w4, hend, ?_⟩
      split at k1
      · exact k1.elim
      · rename_i hp _; rw [hp]; exact E.n _ _ _ _ _ _ k1 I'
      · rename_i hp _; rw [hp]; exact wpIn_exit (E.x _ _ _ _ _ _ _ k1 I')
      · rename_i hp _; rw [hp]; exact wpIn_ret (E.r _ _ _ _ _ _ k1 I')
      · exact k1.elim
end
end Go.Aw
