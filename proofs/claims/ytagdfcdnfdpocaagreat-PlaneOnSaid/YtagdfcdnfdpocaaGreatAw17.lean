/-
  Operations whose value does not hang on the order. No condition.
-/
import Derived.Test.YtagdfcdnfdpocaaGreatAw16
import Derived.OrdersIn
set_option linter.unusedSimpArgs false
set_option linter.unusedVariables false
noncomputable section
namespace Go.Aw
open Go.RowKit

def AObj.closed : AObj → AObj
  | .cells _ g sz cs => .cells false g sz cs
  | .zero => .zero
  | _ => .cells false false 1 []
def shutH : Heap → Heap
  | [] => []
  | (k, o) :: r => (k, o.closed) :: shutH r
theorem look_shutH (h : Heap) (k : Nat) : look (shutH h) k = (look h k).map AObj.closed := by
  induction h with
  | nil => rfl
  | cons x r ih =>
    obtain ⟨j, o⟩ := x
    simp only [shutH, look_cons]
    split
    · rfl
    · exact ih

/-- A call's outcome is one. -/
def DetC (C : VC) : Prop := ∀ f args h nx K, C f args h nx K → ∃ v h' nx', K v h' nx' ∧ ∀ K' : KE, K' v h' nx' → C f args h nx K'

def vquiet (A : Ar) (T : Tab) (C : VC) (hJ : Heap) (nx : Nat) (env : List (Nat × Value)) (op : Op) (K : Value → Prop) : Prop :=
  match op with
  | .load _ _ => vlook A T env hJ op K
  | .lookup t m k ok => on (opv env m) fun x => on (opv env k) fun y => vlookup A T hJ t x y ok K
  | .slice t x lo hi mx => on (opv env x) fun v => (match optOK env lo, optOK env hi, optOK env mx with
    | some l, some u, some m => vslice A T hJ nx t v l u m (fun v _ nx' => match Nat.beq nx' nx with | true => K v | false => False)
    | _, _, _ => False)
  | .call c => (match c.callee with
    | .builtin _ => vlook A T env [] op K
    | .value f => on (opv env f) fun fv => (match vargs env c.args.toList with
      | some l => (match fv with
        | .func (.func g) first cap => (match first.toList, capPtr cap.toList with
          | [], true => C g (l ++ cap.toList) (shutH hJ) nx (fun v _ _ => match gT v with | true => K v | false => False)
          | _, _ => False)
        | _ => False)
      | none => False)
    | _ => False)
  | _ => vlook A T env [] op K

/-- Does it look into the heap? -/
def isPure : Op → Bool
  | .load _ _ => false
  | .lookup _ _ _ _ => false
  | .slice _ _ _ _ _ => false
  | .call c => (match c.callee with | .builtin _ => true | _ => false)
  | _ => true

/-- Must it come ahead of everything that writes? -/
def isStrong : Op → Bool
  | .lookup _ _ _ _ => true
  | .slice _ _ _ _ _ => true
  | .call c => (match c.callee with | .builtin _ => false | _ => true)
  | _ => false

section
variable {P : Program} {T : Tab} {C : VC} {Y : VY} {ι : Nat → Loc} {B nx : Nat}

theorem RelH.shut {h : Heap} {w : World} (H : RelH ι B h nx w) : RelH ι w.heap.size (shutH h) nx w := by
  have key : ∀ k o', look (shutH h) k = some o' → ∃ o, look h k = some o ∧ o' = o.closed := fun k o' hk => by
    rw [look_shutH] at hk
    cases hl : look h k with
    | none => rw [hl] at hk; cases hk
    | some o => rw [hl] at hk; injection hk with hk; exact ⟨o, rfl, hk.symm⟩
  refine ⟨fun k o' hk => ?_, fun k k' o o' h1 h2 hne ha => ?_, fun k o' hk => ?_, Nat.le_refl _, fun k o' hk => ?_⟩
  · obtain ⟨o, hk', rfl⟩ := key k o' hk
    have ho := H.obj k o hk'
    cases hι : ι k with
    | nil p =>
      rw [hι] at ho
      cases o with
      | cells wr g sz cs => exact ho
      | zero => exact ho
      | _ => exact ho.elim
    | «at» b off e =>
      have hb := ho.lt (b := b) (by rw [hι]; rfl)
      rw [hι] at ho
      cases o with
      | cells wr g sz cs =>
        cases wr with
        | false => exact ho
        | true =>
          obtain ⟨_, hg, arr, t, h1, h2, h3⟩ := ho
          exact ⟨hb, hg, fun i v hv => by simp [World.cell?, h1, h3 i v hv]⟩
      | zero => exact ho
      | _ => exact ⟨hb, (fun h => (by cases h)), (fun i v hv => (by simp at hv))⟩
  · obtain ⟨o1, h1, rfl⟩ := key k o h1
    cases o1 <;> cases ha
  · obtain ⟨o, hk', rfl⟩ := key k o' hk
    exact H.low k o hk'
  · obtain ⟨o, hk', rfl⟩ := key k o' hk
    have := H.sc k o hk'
    cases o with
    | cells wr g sz cs => exact this
    | zero => trivial
    | _ => intro v hv; cases hv

/-- What an operation yields, wherever this part of the heap lies. -/
def Run1 (P : Program) (m : Sem Next) (w : World) (u : Value) : Prop :=
  m.run P w = .ok (.value u) w ∨ ∃ f args, m.run P w = .ok (.enter f args) w ∧ CallsIn Fence.wide 0 P f args w fun e w' => e = .returned u ∧ Below w.heap.size w w'

theorem RelH.none {w : World} (h : B ≤ w.heap.size) : RelH ι B [] nx w :=
  ⟨fun k o hk => (by cases hk), fun k k' o o' hk => (by cases hk), fun k o hk => (by cases hk), h, fun k o hk => (by cases hk)⟩

def heapOf (op : Op) (hJ : Heap) : Heap := match isPure op with | true => [] | false => hJ

theorem vquiet_ok (hT : TabOK P T) (hC : CallsOK P C) (hD : DetC C) {hJ : Heap} {env : List (Nat × Value)} {a : Act} (he : EnvOK ι nx env a) {w0 : World} (H0 : RelH ι B hJ nx w0) {o : Oper} {K : Value → Prop}
    (hl : vquiet std T C hJ nx env o.op K) :
    ∃ v, K v ∧ scT ι nx v ∧ ∀ w, RelH ι B (heapOf o.op hJ) nx w → (isStrong o.op = true → Below w0.heap.size w0 w) → Run1 P (execOp a.eval o) w (tr ι v) := by
  obtain ⟨dst, op, ty, pos, after, guard⟩ := o
  simp only at hl
  have hpure : ∀ K : Value → Prop, isPure op = true → vlook std T env [] op K → ∃ v, K v ∧ scT ι nx v ∧ ∀ w, RelH ι B (heapOf op hJ) nx w → (isStrong op = true → Below w0.heap.size w0 w) → Run1 P (execOp a.eval ⟨dst, op, ty, pos, after, guard⟩) w (tr ι v) := by
    intro K hp hl
    obtain ⟨v, h1, h2, h3⟩ := vlook_ok (P := P) (h := []) (B := B) (w0 := w0) hT he (o := ⟨dst, op, ty, pos, after, guard⟩) hl (RelH.none H0.size)
    refine ⟨v, h1, h2, fun w H _ => .inl (h3 w ?_)⟩
    simpa [heapOf, hp] using H
  cases op
  case load t x =>
    simp only [vquiet] at hl
    obtain ⟨v, h1, h2, h3⟩ := vlook_ok (P := P) hT he (o := ⟨dst, _, ty, pos, after, guard⟩) hl H0
    exact ⟨v, h1, h2, fun w H _ => .inl (h3 w (by simpa [heapOf, isPure] using H))⟩
  case lookup t m k ok =>
    simp only [vquiet] at hl
    obtain ⟨x, hx, hl⟩ := on_ok hl
    obtain ⟨y, hy, hl⟩ := on_ok hl
    obtain ⟨e1, e2⟩ := he.opv hx
    obtain ⟨e3, e4⟩ := he.opv hy
    obtain ⟨v, h1, h2, h3⟩ := vlookup_ok (P := P) hT hl e2 H0
    refine ⟨v, h1, h2, fun w H _ => .inl ?_⟩
    have := h3 w (by simpa [heapOf, isPure] using H)
    rw [← e1, ← e3] at this
    simp only [execOp, Sem.run_bind, this, Result.andThen_ok, Sem.run_pure]
  case slice t x lo hi mx =>
    simp only [vquiet] at hl
    obtain ⟨v, hv, hl⟩ := on_ok hl
    obtain ⟨e3, e4⟩ := he.opv hv
    split at hl
    case h_2 => exact hl.elim
    rename_i l u m h1 h2 h3
    obtain ⟨v', h', nx', ι', k1, k2, k3, k4, k5⟩ := vslice_ok hT hl e4 H0
    split at k1
    case h_2 => exact k1.elim
    rename_i hnx
    have hnx := beq_true hnx
    subst hnx
    have hsc : scT ι nx' v' := scT_mono (Nat.le_refl _) (fun k hk => (k3 k hk).symm) k2
    refine ⟨v', k1, hsc, fun w H hb => .inl ?_⟩
    obtain ⟨k6, k7⟩ := k5 w (by simpa [heapOf, isPure] using H) (hb rfl)
    rw [← optOK_spec he h1, ← optOK_spec he h2, ← optOK_spec he h3, ← e3] at k7
    simp only [execOp, Sem.run_bind, k7, Result.andThen_ok, Sem.run_pure, tr_eq k3 hsc]
  case call c =>
    obtain ⟨cal, args, ats⟩ := c
    simp only [vquiet] at hl
    cases cal with
    | invoke r m => exact hl.elim
    | builtin b => exact hpure K rfl hl
    | value f =>
      simp only at hl
      obtain ⟨fv, hfv, hl⟩ := on_ok hl
      obtain ⟨e1, e2⟩ := he.opv hfv
      split at hl
      case h_2 => exact hl.elim
      rename_i l hvs
      obtain ⟨e3, e4⟩ := vargs_spec he hvs
      have hargs : args.map a.eval = (l.map (tr ι)).toArray := by
        apply Array.ext'
        simpa using e3
      split at hl
      case h_2 => exact hl.elim
      rename_i g first cap
      split at hl
      case h_2 => exact hl.elim
      rename_i hfirst hcap
      obtain ⟨first⟩ := first
      simp only at hfirst
      subst hfirst
      obtain ⟨v, h', nx', k1, k2⟩ := hD _ _ _ _ _ hl
      split at k1
      case h_2 => exact k1.elim
      rename_i hg
      refine ⟨v, k1, scT_g hg, fun w H _ => .inr ?_⟩
      have H : RelH ι B hJ nx w := by simpa [heapOf, isPure] using H
      have hl' := k2 (fun v' _ _ => v' = v) rfl
      obtain ⟨⟨fn, hfn, hbody, hname⟩, hcalls⟩ := hC g _ _ nx _ hl' ι w.heap.size w H.shut (by
        intro v hv
        rcases List.mem_append.1 hv with hv | hv
        · exact e4 v hv
        · obtain ⟨p, rfl⟩ := capPtr_spec hcap v hv
          exact e2.2 _ hv)
      have hcapm : cap.map (trP ι) = (cap.toList.map (tr ι)).toArray := by
        apply Array.ext'
        simp only [Array.toList_map]
        apply List.map_congr_left
        intro v hv
        obtain ⟨p, rfl⟩ := capPtr_spec hcap v hv
        rfl
      refine ⟨g, ((l ++ cap.toList).map (tr ι)).toArray, ?_, ?_⟩
      · obtain ⟨bdy, hb'⟩ := Option.isSome_iff_exists.1 hbody
        have hname' : fn.name ≠ "runtime.NumGoroutine" := by simpa using hname
        simp [execOp, resolve, e1, tr, trA, trS, trFn, Deferred.ofValue, invoke, callFunc, hfn, hname', hb', hargs, hcapm]
      · refine CallsIn.mono hcalls fun e w' hret => ?_
        cases e with
        | returned u =>
          obtain ⟨v', h'', nx'', ι', rfl, k2, k3, k4, k5, k6, rfl⟩ := hret
          exact ⟨by rw [tr_g hg, tr_g hg], k4⟩
        | panicked c => exact hret.elim
        | outgrown => exact hret.elim
  all_goals exact hpure K rfl hl
end
end Go.Aw
