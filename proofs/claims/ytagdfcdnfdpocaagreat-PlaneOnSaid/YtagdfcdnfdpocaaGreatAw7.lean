/-
  Whatever only looks yields in the machine what it yields here. No condition.
-/
import Derived.Test.YtagdfcdnfdpocaaGreatAw6
set_option linter.unusedSimpArgs false
set_option linter.unusedVariables false
noncomputable section
namespace Go.Aw
open Go.RowKit

section
variable {P : Program} {T : Tab} {ι : Nat → Loc} {B nx : Nat} {h : Heap}

theorem vmm_max {v : Value} {r : List Value} {u : Value} (hu : vmm std.max v r = some u) (w : World) : gS u = true ∧ (r.foldlM Builtin.max2 v).run P w = .ok u w := by
  induction r generalizing v with
  | nil =>
    cases v <;> simp [vmm] at hu
    subst hu
    exact ⟨rfl, by simp⟩
  | cons x r ih =>
    cases v <;> cases x <;> simp only [vmm] at hu <;> try (cases hu; done)
    rename_i k a k' b
    split at hu
    · rename_i hk
      have hk' := kEq_true hk
      subst hk'
      obtain ⟨h1, h2⟩ := ih hu
      refine ⟨h1, ?_⟩
      rw [← h2]
      simp [List.foldlM_cons, Builtin.max2, std]
    · cases hu
theorem vmm_min {v : Value} {r : List Value} {u : Value} (hu : vmm std.min v r = some u) (w : World) : gS u = true ∧ (r.foldlM Builtin.min2 v).run P w = .ok u w := by
  induction r generalizing v with
  | nil =>
    cases v <;> simp [vmm] at hu
    subst hu
    exact ⟨rfl, by simp⟩
  | cons x r ih =>
    cases v <;> cases x <;> simp only [vmm] at hu <;> try (cases hu; done)
    rename_i k a k' b
    split at hu
    · rename_i hk
      have hk' := kEq_true hk
      subst hk'
      obtain ⟨h1, h2⟩ := ih hu
      refine ⟨h1, ?_⟩
      rw [← h2]
      simp [List.foldlM_cons, Builtin.min2, std]
    · cases hu

theorem vmm_ints {f : Int → Int → Int} {v : Value} {r : List Value} {u : Value} (hu : vmm f v r = some u) : r.map (tr ι) = r ∧ tr ι v = v := by
  induction r generalizing v with
  | nil =>
    cases v <;> simp [vmm] at hu
    exact ⟨rfl, rfl⟩
  | cons x r ih =>
    cases v <;> cases x <;> simp only [vmm] at hu <;> try (cases hu; done)
    split at hu
    · obtain ⟨h1, _⟩ := ih hu
      exact ⟨by simp [h1, tr_int], rfl⟩
    · cases hu

theorem vbuiltin_ok (hT : TabOK P T) {b : Builtin} {ts : Array TypeId} {vs : List Value} {K : Value → Prop} (hl : vbuiltin std T b ts vs K) (hs : ∀ v ∈ vs, scT ι nx v) :
    ∃ v, K v ∧ scT ι nx v ∧ ∀ (ty : TypeId) (cs : Array Bool) w, RelH ι B h nx w → (builtin b ts ty cs (vs.map (tr ι)).toArray).run P w = .ok (.value (tr ι v)) w := by
  unfold vbuiltin at hl
  split at hl
  · rename_i t a n c hts
    split at hl
    case h_2 => exact hl.elim
    rename_i e s1 b1 z1 ht
    have hd := (hT t _ ht).sl rfl
    obtain ⟨ts⟩ := ts
    simp only at hts
    subst hts
    have hsl : ∃ a' c', tr ι (.slice a n c) = .slice a' n c' := by
      cases a with
      | none => exact ⟨_, _, rfl⟩
      | some a =>
        simp only [tr, trA, trS, trP]
        split
        · exact ⟨_, _, rfl⟩
        · exact ⟨_, _, rfl⟩
    obtain ⟨a', c', hsl⟩ := hsl
    exact ⟨_, hl, by simp [scT, scA, scS, scP], fun ty cs w H => by simp [builtin, hsl, Builtin.len_, run_underlying hd, goInt, tr_int, std]⟩
  · rename_i t n c hts
    split at hl
    case h_2 => exact hl.elim
    rename_i e s1 b1 z1 ht
    have hd := (hT t _ ht).sl rfl
    obtain ⟨ts⟩ := ts
    simp only at hts
    subst hts
    exact ⟨_, hl, by simp [scT, scA, scS, scP], fun ty cs w H => by simp [builtin, tr_slice_none, Builtin.cap_, run_underlying hd, goInt, tr_int, std]⟩
  · rename_i x v r
    obtain ⟨u, hu, hK⟩ := on_ok hl
    obtain ⟨e1, e2⟩ := vmm_ints (ι := ι) hu
    refine ⟨u, hK, scT_g (by
      have := (vmm_max (P := P) hu default).1
      cases u <;> first | exact this | (simp [gS] at this)), fun ty cs w H => ?_⟩
    obtain ⟨h1, h2⟩ := vmm_max (P := P) hu w
    have : tr ι u = u := tr_g (by cases u <;> first | exact h1 | (simp [gS] at h1))
    simp only [builtin, List.map_cons, e1, e2, Builtin.max_, Sem.run_bind, h2, Result.andThen_ok, Sem.run_pure, this]
  · rename_i x v r
    obtain ⟨u, hu, hK⟩ := on_ok hl
    obtain ⟨e1, e2⟩ := vmm_ints (ι := ι) hu
    refine ⟨u, hK, scT_g (by
      have := (vmm_min (P := P) hu default).1
      cases u <;> first | exact this | (simp [gS] at this)), fun ty cs w H => ?_⟩
    obtain ⟨h1, h2⟩ := vmm_min (P := P) hu w
    have : tr ι u = u := tr_g (by cases u <;> first | exact h1 | (simp [gS] at h1))
    simp only [builtin, List.map_cons, e1, e2, Builtin.min_, Sem.run_bind, h2, Result.andThen_ok, Sem.run_pure, this]
  · exact hl.elim

theorem looks_value {m : Sem Value} {v : Value} (hm : Looks P ι B nx h m v) : scT ι nx v ∧ ∀ w, RelH ι B h nx w → (do pure (.value (← m)) : Sem Next).run P w = .ok (.value (tr ι v)) w :=
  ⟨scT_of_A hm.1, fun w H => by simp only [Sem.run_bind, hm.2 w H, Result.andThen_ok, Sem.run_pure]⟩

theorem gT_of_S {v : Value} (h : gS v = true) : gT v = true := by
  cases v <;> first | exact h | (simp [gS] at h)

theorem vlook_ok (hT : TabOK P T) {env : List (Nat × Value)} {a : Act} (he : EnvOK ι nx env a) {o : Oper} {K : Value → Prop} (hl : vlook std T env h o.op K) {w0 : World} (H0 : RelH ι B h nx w0) :
    ∃ v, K v ∧ scT ι nx v ∧ ∀ w, RelH ι B h nx w → (execOp a.eval o).run P w = .ok (.value (tr ι v)) w := by
  obtain ⟨dst, op, ty, pos, after, guard⟩ := o
  simp only at hl
  cases op <;> simp only [vlook] at hl <;> try (exact hl.elim)
  case move x =>
    obtain ⟨u, hu, hK⟩ := on_ok hl
    obtain ⟨e1, e2⟩ := he.opv hu
    exact ⟨u, hK, e2, fun w H => by simp [execOp, e1]⟩
  case assign x =>
    obtain ⟨u, hu, hK⟩ := on_ok hl
    obtain ⟨e1, e2⟩ := he.opv hu
    exact ⟨u, hK, e2, fun w H => by simp [execOp, e1]⟩
  case pick c x y =>
    obtain ⟨u, hu, hK⟩ := on_ok hl
    obtain ⟨e1, e2⟩ := he.opv hu
    split at hK
    case h_2 => exact hK.elim
    rename_i t
    rcases br_cases hK with ⟨rfl, hb⟩ | ⟨rfl, hb⟩
    · obtain ⟨v, hv, hK⟩ := on_ok hb
      obtain ⟨e3, e4⟩ := he.opv hv
      exact ⟨v, hK, e4, fun w H => by simp [execOp, e1, e3, tr_bool, asBool]⟩
    · obtain ⟨v, hv, hK⟩ := on_ok hb
      obtain ⟨e3, e4⟩ := he.opv hv
      exact ⟨v, hK, e4, fun w H => by simp [execOp, e1, e3, tr_bool, asBool]⟩
  case build t ps =>
    split at hl
    case h_2 => exact hl.elim
    rename_i l hps
    obtain ⟨e1, e2⟩ := partsOK_spec he hps
    obtain ⟨v, hv, hm⟩ := vbuild_ok (ι := ι) (B := B) (h := h) hT hl e2
    have e3 : (ps.map fun p => (p.1, a.eval p.2)) = (l.map fun p => (p.1, tr ι p.2)).toArray := by
      apply Array.ext'
      simpa using e1
    rw [← e3] at hm
    exact ⟨v, hv, looks_value hm⟩
  case load t x =>
    obtain ⟨u, hu, hK⟩ := on_ok hl
    obtain ⟨e1, e2⟩ := he.opv hu
    obtain ⟨v, hv, hm⟩ := vload_ok (P := P) hT hK H0
    rw [← e1] at hm
    exact ⟨v, hv, looks_value hm⟩
  case nilCheck x =>
    obtain ⟨u, hu, hK⟩ := on_ok hl
    obtain ⟨e1, e2⟩ := he.opv hu
    split at hK
    · rename_i ad
      refine ⟨_, hK, e2, fun w H => ?_⟩
      have : ad.block < nx ∧ (ι ad.block).isAt = true := e2
      cases hι : ι ad.block with
      | nil p => rw [hι] at this; cases this.2
      | «at» b o e => simp [execOp, e1, tr, trA, trS, trP, hι]
    · exact ⟨_, hK, e2, fun w H => by simp [execOp, e1, tr, trA, trS, trFn]⟩
    · rename_i l fi c
      refine ⟨_, hK, e2, fun w H => ?_⟩
      simp only [execOp, e1, tr, trA, trS, trFn]
      cases ι l <;> simp
    · exact hK.elim
  case binOp op xt x y yt =>
    obtain ⟨u, hu, hK⟩ := on_ok hl
    obtain ⟨v, hv, hK⟩ := on_ok hK
    obtain ⟨e1, e2⟩ := he.opv hu
    obtain ⟨e3, e4⟩ := he.opv hv
    split at hK
    · rename_i m c
      obtain ⟨r, h1, h2, h3⟩ := vnil_ok (P := P) (ι := ι) (B := B) (n := m) (c := c) (p := x) (q := y) hT hK
      refine ⟨r, h1, scT_g (gT_of_S h2), fun w H => ?_⟩
      have := h3 w H
      simp only [execOp, e1, e3, tr_slice_none, Sem.run_bind, tr_g (gT_of_S h2)] at this ⊢
      rw [this]
      rfl
    obtain ⟨r, h1, h2, h3⟩ := vbin_ok (P := P) (ι := ι) (p := x) (q := y) hT hK
    refine ⟨r, h1, scT_g (gT_of_S h2), fun w H => ?_⟩
    have := h3 w
    simp only [execOp, e1, e3, Sem.run_bind, tr_g (gT_of_S h2)] at this ⊢
    rw [this]
    rfl
  case unOp op xt x =>
    obtain ⟨u, hu, hK⟩ := on_ok hl
    obtain ⟨e1, e2⟩ := he.opv hu
    obtain ⟨r, h1, h2, h3⟩ := vun_ok (P := P) (ι := ι) hK
    refine ⟨r, h1, scT_g (gT_of_S h2), fun w H => ?_⟩
    simp only [execOp, e1, Sem.run_bind, h3 w, Result.andThen_ok, Sem.run_pure, tr_g (gT_of_S h2)]
  case convert s d x =>
    obtain ⟨u, hu, hK⟩ := on_ok hl
    obtain ⟨e1, e2⟩ := he.opv hu
    split at hK
    case h_2 => exact hK.elim
    rename_i k0 n si k s1 b1 z1 hs hd
    obtain ⟨h1, h2⟩ := must_iff.1 hK
    obtain ⟨ds, hds, _⟩ := (hT s _ hs).desc
    have hdd := (hT d _ hd).int rfl
    refine ⟨_, h2, by simp [scT, scA, scS, scP], fun w H => ?_⟩
    simp [execOp, e1, tr_int, convert, run_underlying hds, run_underlying hdd, Conv.intToInt, wrap_fits h1]
  case makeFunc fn first cap =>
    split at hl
    case h_2 => exact hl.elim
    rename_i f hfirst
    split at hl
    case h_2 => exact hl.elim
    rename_i l hc
    obtain ⟨e1, e2⟩ := capOK_spec he hc
    obtain ⟨first⟩ := first
    simp only at hfirst
    subst hfirst
    refine ⟨_, hl, ⟨trivial, fun v hv => e2 v (by simpa using hv)⟩, fun w H => ?_⟩
    have : cap.map a.eval = (l.map (trP ι)).toArray := by
      apply Array.ext'
      simpa using e1
    simp [execOp, Instr.makeFunc, tr, trA, trS, trFn, this]
  case fieldAddr s x f =>
    obtain ⟨u, hu, hK⟩ := on_ok hl
    obtain ⟨e1, e2⟩ := he.opv hu
    have hx : scA ι nx u := by
      cases u <;> first | exact e2 | (simp [vfieldAddr] at hK)
    obtain ⟨v, hv, hm⟩ := vfieldAddr_ok (P := P) (B := B) (h := h) hT hK hx
    rw [← e1] at hm
    exact ⟨v, hv, looks_value hm⟩
  case field s x f =>
    obtain ⟨u, hu, hK⟩ := on_ok hl
    obtain ⟨e1, e2⟩ := he.opv hu
    have hx : scA ι nx u := by
      cases u <;> first | exact e2 | (simp [vfield] at hK)
    obtain ⟨v, hv, hm⟩ := vfield_ok (P := P) (B := B) (h := h) hT hK hx
    rw [← e1] at hm
    exact ⟨v, hv, looks_value hm⟩
  case indexAddr t x i =>
    obtain ⟨u, hu, hK⟩ := on_ok hl
    obtain ⟨j, hj, hK⟩ := on_ok hK
    obtain ⟨e1, e2⟩ := he.opv hu
    obtain ⟨e3, e4⟩ := he.opv hj
    have hx : scA ι nx u := by
      cases u <;> first | exact e2 | (unfold vindexAddr at hK; split at hK <;> simp_all)
    obtain ⟨v, hv, hm⟩ := vindexAddr_ok (P := P) (B := B) (h := h) hT hK hx
    rw [← e1, ← e3] at hm
    exact ⟨v, hv, looks_value hm⟩
  case index t x i =>
    obtain ⟨u, hu, hK⟩ := on_ok hl
    obtain ⟨j, hj, hK⟩ := on_ok hK
    obtain ⟨e1, e2⟩ := he.opv hu
    obtain ⟨e3, e4⟩ := he.opv hj
    have hx : scA ι nx u := by
      cases u <;> first | exact e2 | (unfold vindex at hK; split at hK <;> simp_all)
    obtain ⟨v, hv, hm⟩ := vindex_ok (P := P) (B := B) (h := h) hT hK hx
    rw [← e1, ← e3] at hm
    exact ⟨v, hv, looks_value hm⟩
  case extract x i =>
    obtain ⟨u, hu, hK⟩ := on_ok hl
    obtain ⟨e1, e2⟩ := he.opv hu
    split at hK
    case h_2 => exact hK.elim
    rename_i vs
    obtain ⟨v, hv, hK⟩ := on_ok hK
    have hm := e2 v (List.mem_of_getElem? hv)
    refine ⟨v, hK, scT_of_A hm, fun w H => ?_⟩
    have : (vs.map (trA ι))[i]? = some (trA ι v) := by
      rw [Array.getElem?_map, ← Array.getElem?_toList, hv]; rfl
    have hx : Instr.extract (tr ι (.tuple vs)) i = pure (trA ι v) := by simp only [tr, Instr.extract, this]
    simp only [execOp, e1, hx, Sem.run_bind, Sem.run_pure, Result.andThen_ok, tr_of_A hm]
  case call c =>
    obtain ⟨cal, args, ats⟩ := c
    simp only at hl
    split at hl
    case h_2 => exact hl.elim
    rename_i b
    split at hl
    case h_2 => exact hl.elim
    rename_i vs hvs
    obtain ⟨e1, e2⟩ := vargs_spec he hvs
    obtain ⟨v, h1, h2, h3⟩ := vbuiltin_ok (ι := ι) (B := B) (h := h) hT hl e2
    refine ⟨v, h1, h2, fun w H => ?_⟩
    have : args.map a.eval = (vs.map (tr ι)).toArray := by
      apply Array.ext'
      simpa using e1
    rw [← this] at h3
    simp only [execOp, resolve, Sem.run_bind, Sem.run_pure, Result.andThen_ok, invoke]
    exact h3 _ _ w H
end
end Go.Aw
