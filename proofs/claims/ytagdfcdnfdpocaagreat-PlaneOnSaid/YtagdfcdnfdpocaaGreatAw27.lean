/-
  A function's results; its end. No condition.
-/
import Derived.Test.YtagdfcdnfdpocaaGreatAw26
import Derived.RangeFuncLeaves
set_option linter.unusedSimpArgs false
set_option linter.unusedVariables false
noncomputable section
namespace Go.Aw
open Go.RowKit

def vresults (T : Tab) (e : List (Nat × Value)) (h : Heap) (l : List ResultVar) : (List Value → Prop) → Prop :=
  @List.rec ResultVar (fun _ => (List Value → Prop) → Prop) (fun K => K [])
    (fun x _ ih K => match x with
      | .tmp t => on (look e t) fun v => ih fun l => K (v :: l)
      | .cell a t => on (look e a) fun p => vload T h t p fun v => ih fun l => K (v :: l)) l
theorem vresults_tmp {T : Tab} {e : List (Nat × Value)} {h : Heap} {t : Nat} {r : List ResultVar} {K : List Value → Prop} : vresults T e h (.tmp t :: r) K = on (look e t) fun v => vresults T e h r fun l => K (v :: l) := rfl
theorem vresults_cell {T : Tab} {e : List (Nat × Value)} {h : Heap} {a : Nat} {t : TypeId} {r : List ResultVar} {K : List Value → Prop} : vresults T e h (.cell a t :: r) K = on (look e a) fun p => vload T h t p fun v => vresults T e h r fun l => K (v :: l) := rfl

def noTup : List Value → Bool
  | [] => true
  | .tuple _ :: _ => false
  | _ :: r => noTup r

def vend (T : Tab) (fn : Func) (K : KE) : KS := fun e h nx => vresults T e h fn.results.toList fun l =>
  match l with
  | [v] => K v h nx
  | l => match noTup l with | true => K (.tuple l.toArray) h nx | false => False

def resOne (tmps : Array Value) : ResultVar → Sem Value
  | .tmp t => pure (tmps.getD t undef)
  | .cell b t => do loadVar t (← asAddr (tmps.getD b undef))
theorem results_eq (fn : Func) (tmps : Array Value) : results fn tmps = (do let vs ← fn.results.mapM (resOne tmps); pure (if h : vs.size = 1 then vs[0] else .tuple vs)) := by
  unfold results
  congr 1

section
variable {P : Program} {T : Tab}

theorem vresults_ok (hT : TabOK P T) {ι : Nat → Loc} {B nx : Nat} {e : List (Nat × Value)} {h : Heap} {a : Act} (he : EnvOK ι nx e a) {w : World} (H : RelH ι B h nx w) : ∀ (l : List ResultVar) (K : List Value → Prop), vresults T e h l K →
    ∃ vs, K vs ∧ vs.length = l.length ∧ (∀ v ∈ vs, scT ι nx v) ∧ ∀ w', RelH ι B h nx w' → (l.mapM (resOne a.tmps)).run P w' = .ok (vs.map (tr ι)) w'
  | [], K, hl => ⟨[], hl, rfl, by simp, fun w' _ => by simp⟩
  | .tmp t :: r, K, hl => by
    simp only [vresults_tmp, vresults_cell] at hl
    obtain ⟨v, hv, hl⟩ := on_ok hl
    obtain ⟨vs, h1, h2, h3, h4⟩ := vresults_ok hT he H r _ hl
    obtain ⟨e1, e2⟩ := he t v hv
    refine ⟨v :: vs, h1, by simp [h2], fun u hu => ?_, fun w' H' => ?_⟩
    · rcases List.mem_cons.1 hu with rfl | hu
      · exact e2
      · exact h3 u hu
    · have := h4 w' H'
      have h6 : (resOne a.tmps (.tmp t)).run P w' = .ok (tr ι v) w' := by simp [resOne, e1]
      simp only [List.mapM_cons, Sem.run_bind, Sem.run_pure, Result.andThen_ok, this, h6, List.map_cons]
  | .cell b t :: r, K, hl => by
    simp only [vresults_tmp, vresults_cell] at hl
    obtain ⟨p, hp, hl⟩ := on_ok hl
    obtain ⟨v, hk, hv, hrun⟩ := vload_ok (P := P) hT hl H
    obtain ⟨vs, h1, h2, h3, h4⟩ := vresults_ok hT he H r _ hk
    obtain ⟨e1, e2⟩ := he b p hp
    refine ⟨v :: vs, h1, by simp [h2], fun u hu => ?_, fun w' H' => ?_⟩
    · rcases List.mem_cons.1 hu with rfl | hu
      · exact scT_of_A hv
      · exact h3 u hu
    · have := h4 w' H'
      have e3 : a.tmps.getD b undef = tr ι p := by simp [e1]
      have h5 := hrun w' H'
      have hptr : ∃ ad, tr ι p = .pointer (some ad) := by
        unfold vload at hl
        split at hl
        · rename_i k o
          simp only [tr_pointer]
          split at hl
          · rename_i ti wr g sz cs ht hlk
            have hsc : k < nx ∧ (ι k).isAt = true := e2
            cases hι : ι k with
            | nil q => rw [hι] at hsc; cases hsc.2
            | «at» b o e => exact ⟨_, rfl⟩
          · exact hl.elim
        · exact hl.elim
      obtain ⟨ad, had⟩ := hptr
      rw [had] at h5
      simp only [Instr.loadAt, Instr.sureAddr, Sem.run_bind, Sem.run_pure, Result.andThen_ok] at h5
      have h6 : (resOne a.tmps (.cell b t)).run P w' = .ok (tr ι v) w' := by
        simp only [resOne, e3, had, asAddr, Sem.run_bind, Sem.run_pure, Result.andThen_ok, h5]
      simp only [List.mapM_cons, Sem.run_bind, Sem.run_pure, Result.andThen_ok, h6, this, List.map_cons]

theorem vend_ok (hT : TabOK P T) {fn : Func} {K : KE} {ι : Nat → Loc} {B nx : Nat} {e : List (Nat × Value)} {h : Heap} {a : Act} (he : EnvOK ι nx e a) {w : World} (H : RelH ι B h nx w) (hl : vend T fn K e h nx) :
    ∃ v, K v h nx ∧ scT ι nx v ∧ ∀ w', RelH ι B h nx w' → (results fn a.tmps).run P w' = .ok (tr ι v) w' := by
  unfold vend at hl
  obtain ⟨vs, h1, h2, h3, h4⟩ := vresults_ok hT he H _ _ hl
  have hres : ∀ w', RelH ι B h nx w' → (results fn a.tmps).run P w' = .ok (if h : (vs.map (tr ι)).toArray.size = 1 then (vs.map (tr ι)).toArray[0] else .tuple (vs.map (tr ι)).toArray) w' := by
    intro w' H'
    have := h4 w' H'
    rw [results_eq, Array.mapM_eq_mapM_toList]
    simp only [Sem.run_bind, Sem.run_map, this, Result.andThen_ok, Sem.run_pure]
  split at h1
  · rename_i v
    exact ⟨v, h1, h3 v (by simp), fun w' H' => by rw [hres w' H']; simp⟩
  · rename_i hne
    split at h1
    case h_2 => exact h1.elim
    rename_i hnt
    have hA : ∀ v ∈ vs, scA ι nx v := by
      clear h4 hres hne h2 hl h1
      induction vs with
      | nil => simp
      | cons x r ih =>
        intro v hv
        have hx : (∀ c, x ≠ .tuple c) ∧ noTup r = true := by
          cases x <;> first | exact ⟨fun c e => (by cases e), hnt⟩ | (simp [noTup] at hnt)
        rcases List.mem_cons.1 hv with rfl | hv
        · exact scA_of_T hx.1 (h3 v (by simp))
        · exact ih (fun u hu => h3 u (by simp [hu])) hx.2 v hv
    refine ⟨_, h1, fun v hv => hA v (by simpa using hv), fun w' H' => ?_⟩
    rw [hres w' H']
    have hlen : vs.length ≠ 1 := by
      intro e
      obtain ⟨v, rfl⟩ := List.length_eq_one_iff.1 e
      exact hne v rfl
    rw [dif_neg (by simpa using hlen)]
    simp only [tr]
    congr 2
    apply Array.ext'
    simp only [List.map_toArray]
    apply List.map_congr_left
    intro v hv
    exact tr_of_A (hA v hv)
end
end Go.Aw
