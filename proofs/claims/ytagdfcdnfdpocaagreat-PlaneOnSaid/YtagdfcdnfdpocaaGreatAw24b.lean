/-
  Names renamed: a part of what is known, by other names. No condition.
-/
import Derived.Test.YtagdfcdnfdpocaaGreatAw24
set_option linter.unusedSimpArgs false
set_option linter.unusedVariables false
noncomputable section
namespace Go.Aw
open Go.RowKit

def at0 (ρ : Nat → Nat) : Nat → Loc := fun k => .at (ρ k) 0 0
/-- A value by other names. -/
def ren (ρ : Nat → Nat) : Value → Value := tr (at0 ρ)
def ren1 (ρ : Nat → Nat) : Value → Value := trS (at0 ρ)
/-- All names are below n. -/
def nmT (n : Nat) : Value → Prop := scT (at0 id) n
def nmS (n : Nat) : Value → Prop := scS (at0 id) n

def ObjRen (ρ : Nat → Nat) (n : Nat) : AObj → AObj → Prop
  | .cells wr0 g0 sz0 cs0, .cells wr g sz cs => wr0 = wr ∧ g0 = g ∧ sz0 = sz ∧ cs = cs0.map (ren1 ρ) ∧ ∀ v ∈ cs0, nmS n v
  | .map es0, .map es => es = es0.map (fun e => (e.1, ren1 ρ e.2)) ∧ ∀ e ∈ es0, nmS n e.2
  | .zero, .zero => True
  | _, _ => False

structure RenOK (b : Nat) (ρ : Nat → Nat) (e0 : List (Nat × Value)) (h0 : Heap) (n0 : Nat) (e : List (Nat × Value)) (h : Heap) (nx : Nat) : Prop where
  env : ∀ t v, look e0 t = some v → look e t = some (ren ρ v) ∧ nmT n0 v
  heap : ∀ k o, look h0 k = some o → k < n0 ∧ ∃ o', look h (ρ k) = some o' ∧ ObjRen ρ n0 o o'
  inj : ∀ k k' o o', look h0 k = some o → look h0 k' = some o' → ρ k = ρ k' → k = k'
  fix : ∀ k, k < b → ρ k = k
  le : b ≤ n0

section
variable {ι : Nat → Loc} {ρ : Nat → Nat} {n m : Nat}

theorem trP_ren (v : Value) : trP ι (trP (at0 ρ) v) = trP (fun k => ι (ρ k)) v := by
  cases v with
  | pointer a =>
    cases a with
    | none => rfl
    | some a =>
      simp only [trP, at0, Nat.zero_add]
  | slice a n c =>
    cases a with
    | none => rfl
    | some a =>
      simp only [trP, at0, Nat.zero_add, Nat.add_zero]
  | map a =>
    cases a with
    | none => rfl
    | some a => simp only [trP, at0]
  | _ => rfl
theorem trFn_ren {f : Fn} (h : scFn ι n (trFn (at0 ρ) f)) : trFn ι (trFn (at0 ρ) f) = trFn (fun k => ι (ρ k)) f := by
  cases f with
  | yield l =>
    have h := h.2
    simp only [trFn, at0]
    cases hl : ι (ρ l) with
    | nil p => rw [hl] at h; cases h
    | «at» b o e => rfl
  | _ => rfl
theorem trS_ren {v : Value} (h : scS ι n (trS (at0 ρ) v)) : trS ι (trS (at0 ρ) v) = trS (fun k => ι (ρ k)) v := by
  cases v with
  | func f a c =>
    have h1 := trFn_ren (ι := ι) (n := n) (f := f) h.1
    simp only [trS, h1, Array.map_map]
    congr 2
    funext x
    exact trP_ren x
  | pointer a => have := trP_ren (ι := ι) (ρ := ρ) (.pointer a); cases a <;> exact this
  | slice a n c => have := trP_ren (ι := ι) (ρ := ρ) (.slice a n c); cases a <;> exact this
  | map a => have := trP_ren (ι := ι) (ρ := ρ) (.map a); cases a <;> exact this
  | _ => rfl
theorem trA_ren {v : Value} (h : scA ι n (trA (at0 ρ) v)) : trA ι (trA (at0 ρ) v) = trA (fun k => ι (ρ k)) v := by
  cases v with
  | agg cs =>
    simp only [trA, Array.map_map]
    congr 1
    apply Array.map_congr_left
    intro x hx
    exact trS_ren (n := n) (h (trS (at0 ρ) x) (by simp only [Array.toList_map, List.mem_map]; exact ⟨x, by simpa using hx, rfl⟩))
  | pointer a => have := trS_ren (ι := ι) (ρ := ρ) (n := n) (v := .pointer a); cases a <;> exact this h
  | slice a l c => have := trS_ren (ι := ι) (ρ := ρ) (n := n) (v := .slice a l c); cases a <;> exact this h
  | map a => have := trS_ren (ι := ι) (ρ := ρ) (n := n) (v := .map a); cases a <;> exact this h
  | func f a c => exact trS_ren (ι := ι) (ρ := ρ) (n := n) (v := .func f a c) h
  | _ => rfl
theorem tr_ren {v : Value} (h : scT ι n (ren ρ v)) : tr ι (ren ρ v) = tr (fun k => ι (ρ k)) v := by
  unfold ren at h ⊢
  cases v with
  | tuple cs =>
    simp only [tr, Array.map_map]
    congr 1
    apply Array.map_congr_left
    intro x hx
    exact trA_ren (n := n) (h (trA (at0 ρ) x) (by simp only [Array.toList_map, List.mem_map]; exact ⟨x, by simpa using hx, rfl⟩))
  | pointer a => have := trA_ren (ι := ι) (ρ := ρ) (n := n) (v := .pointer a); cases a <;> exact this h
  | slice a l c => have := trA_ren (ι := ι) (ρ := ρ) (n := n) (v := .slice a l c); cases a <;> exact this h
  | map a => have := trA_ren (ι := ι) (ρ := ρ) (n := n) (v := .map a); cases a <;> exact this h
  | func f a c => exact trA_ren (ι := ι) (ρ := ρ) (n := n) (v := .func f a c) h
  | agg c => exact trA_ren (ι := ι) (ρ := ρ) (n := n) (v := .agg c) h
  | _ => rfl

theorem scP_ren {v : Value} (h : scP ι n (trP (at0 ρ) v)) (hm : scP (at0 id) m v) : scP (fun k => ι (ρ k)) m v := by
  cases v with
  | pointer a =>
    cases a with
    | none => trivial
    | some a => exact ⟨hm.1, h.2⟩
  | slice a l c =>
    cases a with
    | none => trivial
    | some a => exact ⟨hm.1, fun hf => h.2 hf⟩
  | map a =>
    cases a with
    | none => trivial
    | some a => exact ⟨hm.1, h.2⟩
  | agg c => exact hm.elim
  | tuple c => exact hm.elim
  | _ => trivial
theorem scS_ren {v : Value} (h : scS ι n (trS (at0 ρ) v)) (hm : scS (at0 id) m v) : scS (fun k => ι (ρ k)) m v := by
  cases v with
  | func f a c =>
    refine ⟨?_, fun x hx => ?_⟩
    · have h1 := h.1
      have h2 := hm.1
      cases f with
      | yield l => exact ⟨h2.1, h1.2⟩
      | _ => trivial
    · refine scP_ren (n := n) (h.2 _ ?_) (hm.2 x hx)
      simp only [Array.toList_map, List.mem_map]
      exact ⟨x, hx, rfl⟩
  | pointer a => have := scP_ren (ι := ι) (ρ := ρ) (n := n) (m := m) (v := .pointer a); cases a <;> exact this h hm
  | slice a l c => have := scP_ren (ι := ι) (ρ := ρ) (n := n) (m := m) (v := .slice a l c); cases a <;> exact this h hm
  | map a => have := scP_ren (ι := ι) (ρ := ρ) (n := n) (m := m) (v := .map a); cases a <;> exact this h hm
  | agg c => exact hm.elim
  | tuple c => exact hm.elim
  | _ => trivial
theorem scA_ren {v : Value} (h : scA ι n (trA (at0 ρ) v)) (hm : scA (at0 id) m v) : scA (fun k => ι (ρ k)) m v := by
  cases v with
  | agg cs =>
    intro x hx
    refine scS_ren (n := n) (h _ ?_) (hm x hx)
    simp only [Array.toList_map, List.mem_map]
    exact ⟨x, hx, rfl⟩
  | pointer a => have := scS_ren (ι := ι) (ρ := ρ) (n := n) (m := m) (v := .pointer a); cases a <;> exact this h hm
  | slice a l c => have := scS_ren (ι := ι) (ρ := ρ) (n := n) (m := m) (v := .slice a l c); cases a <;> exact this h hm
  | map a => have := scS_ren (ι := ι) (ρ := ρ) (n := n) (m := m) (v := .map a); cases a <;> exact this h hm
  | func f a c => exact scS_ren (ι := ι) (ρ := ρ) (n := n) (m := m) (v := .func f a c) h hm
  | tuple c => exact hm.elim
  | _ => trivial
theorem scT_ren {v : Value} (h : scT ι n (ren ρ v)) (hm : nmT m v) : scT (fun k => ι (ρ k)) m v := by
  unfold ren at h
  unfold nmT at hm
  cases v with
  | tuple cs =>
    intro x hx
    refine scA_ren (n := n) (h _ ?_) (hm x hx)
    simp only [Array.toList_map, List.mem_map]
    exact ⟨x, hx, rfl⟩
  | pointer a => have := scA_ren (ι := ι) (ρ := ρ) (n := n) (m := m) (v := .pointer a); cases a <;> exact this h hm
  | slice a l c => have := scA_ren (ι := ι) (ρ := ρ) (n := n) (m := m) (v := .slice a l c); cases a <;> exact this h hm
  | map a => have := scA_ren (ι := ι) (ρ := ρ) (n := n) (m := m) (v := .map a); cases a <;> exact this h hm
  | func f a c => exact scA_ren (ι := ι) (ρ := ρ) (n := n) (m := m) (v := .func f a c) h hm
  | agg c => exact scA_ren (ι := ι) (ρ := ρ) (n := n) (m := m) (v := .agg c) h hm
  | _ => trivial

theorem gS_ren {v : Value} (h : gS (trS (at0 ρ) v) = true) : gS v = true := by
  cases v with
  | pointer a => cases a with
    | none => rfl
    | some a => simp [trS, trP, at0, gS] at h
  | slice a n c => cases a with
    | none => rfl
    | some a => simp [trS, trP, at0, gS] at h
  | map a => cases a with
    | none => rfl
    | some a => simp [trS, trP, at0, gS] at h
  | func f a c =>
    cases f with
    | func f => simpa [trS, trFn, gS] using h
    | yield l => simp [trS, trFn, at0, gS] at h
    | _ => simp [trS, trFn, gS] at h
  | _ => exact h
theorem allG_ren {l : List Value} (h : allG (l.map (ren1 ρ)) = true) : allG l = true :=
  allG_of fun v hv => gS_ren (allG_mem h (List.mem_map_of_mem hv))

theorem ORel_ren {B : Nat} {w : World} {o0 o : AObj} {l : Loc} (h : ORel ι B w o l) (hs : OSc ι n o) (hr : ObjRen ρ m o0 o) : ORel (fun k => ι (ρ k)) B w o0 l := by
  cases o0 with
  | cells wr0 g0 sz0 cs0 =>
    cases o with
    | cells wr g sz cs =>
      obtain ⟨rfl, rfl, rfl, rfl, hn⟩ := hr
      cases l with
      | nil p =>
        have h1 : cs0.map (ren1 ρ) = [] := by cases wr0 <;> exact h
        have h2 : cs0 = [] := by simpa using h1
        cases wr0 <;> exact h2
      | «at» b off e =>
        cases wr0 with
        | true =>
          obtain ⟨h1, h2, arr, t, h3, h4, h5⟩ := h
          refine ⟨h1, fun hg => allG_ren (h2 hg), arr, t, h3, by simpa using h4, fun i v hv => ?_⟩
          rw [← trS_ren (n := n) (hs _ (List.mem_map_of_mem (List.mem_of_getElem? hv)))]
          exact h5 i _ (by rw [List.getElem?_map, hv]; rfl)
        | false =>
          obtain ⟨h1, h2, h5⟩ := h
          refine ⟨h1, fun hg => allG_ren (h2 hg), fun i v hv => ?_⟩
          rw [← trS_ren (n := n) (hs _ (List.mem_map_of_mem (List.mem_of_getElem? hv)))]
          exact h5 i _ (by rw [List.getElem?_map, hv]; rfl)
    | _ => exact hr.elim
  | map es0 =>
    cases o with
    | map es =>
      obtain ⟨rfl, hn⟩ := hr
      cases l with
      | nil p => exact h.elim
      | «at» b off e =>
        obtain ⟨h1, ents, clock, h2, h3, h4⟩ := h
        refine ⟨h1, ents, clock, h2, h3.trans ?_, fun x hx => h4 (x.1, ren1 ρ x.2) (List.mem_map_of_mem hx)⟩
        rw [List.map_map]
        apply List.map_congr_left
        intro x hx
        simp only [Function.comp_apply, ren1]
        rw [trS_ren (n := n) (hs (x.1, ren1 ρ x.2) (List.mem_map_of_mem hx))]
    | _ => exact hr.elim
  | zero =>
    cases o with
    | zero => cases l <;> exact h
    | _ => exact hr.elim
  | _ => exact hr.elim

theorem OSc_ren {o0 o : AObj} (h : OSc ι n o) (hr : ObjRen ρ m o0 o) : OSc (fun k => ι (ρ k)) m o0 := by
  cases o0 with
  | cells wr0 g0 sz0 cs0 =>
    cases o with
    | cells wr g sz cs =>
      obtain ⟨rfl, rfl, rfl, rfl, hn⟩ := hr
      exact fun v hv => scS_ren (n := n) (h _ (List.mem_map_of_mem hv)) (hn v hv)
    | _ => exact hr.elim
  | map es0 =>
    cases o with
    | map es =>
      obtain ⟨rfl, hn⟩ := hr
      exact fun x hx => scS_ren (n := n) (h (x.1, ren1 ρ x.2) (List.mem_map_of_mem hx)) (hn x hx)
    | _ => exact hr.elim
  | zero => trivial
  | _ => exact hr.elim
theorem ObjRen.alone {o0 o : AObj} (hr : ObjRen ρ m o0 o) (h : o0.alone = true) : o.alone = true := by
  cases o0 <;> cases o <;> first | exact hr.elim | (obtain ⟨rfl, _⟩ := hr; exact h) | exact h

variable {b : Nat} {e0 e : List (Nat × Value)} {h0 h : Heap} {n0 nx : Nat}

theorem RenOK.relH (r : RenOK b ρ e0 h0 n0 e h nx) {B : Nat} {w : World} (H : RelH ι B h nx w) : RelH (fun k => ι (ρ k)) B h0 n0 w := by
  refine ⟨fun k o hk => ?_, fun k k' o o' h1 h2 hne ha q hq => ?_, fun k o hk => (r.heap k o hk).1, H.size, fun k o hk => ?_⟩
  · obtain ⟨_, o', h1, h2⟩ := r.heap k o hk
    exact ORel_ren (H.obj _ _ h1) (H.sc _ _ h1) h2
  · obtain ⟨_, p, k1, k2⟩ := r.heap k o h1
    obtain ⟨_, p', k3, k4⟩ := r.heap k' o' h2
    exact H.sep _ _ p p' k1 k3 (fun e => hne (r.inj k k' o o' h1 h2 e)) (k2.alone ha) q hq
  · obtain ⟨_, o', h1, h2⟩ := r.heap k o hk
    exact OSc_ren (H.sc _ _ h1) h2
theorem RenOK.envOK (r : RenOK b ρ e0 h0 n0 e h nx) {a : Act} (H : EnvOK ι nx e a) : EnvOK (fun k => ι (ρ k)) n0 e0 a := by
  intro t v hv
  obtain ⟨h1, h2⟩ := r.env t v hv
  obtain ⟨h3, h4⟩ := H t _ h1
  exact ⟨by rw [← tr_ren h4]; exact h3, scT_ren h4 h2⟩
end
end Go.Aw
