/-
  Contracts of functions that read lists and yield values: what must be shown of a body. No condition.
-/
import Derived.Test.YtagdfcdnfdpocaaGreatAw39
set_option linter.unusedSimpArgs false
set_option linter.unusedVariables false
noncomputable section
namespace Go.Aw
open Go.RowKit

theorem bm {b : Bool} {X Y : Prop} (h1 : b = true → X) (h2 : b = false → Y) : (match (generalizing := false) b with | true => X | false => Y) := by
  cases b
  · exact h2 rfl
  · exact h1 rfl
theorem bo {α : Type} {x : Option α} {v : α} {G : α → Prop} (h : x = some v) (k : G v) : (match (generalizing := false) x with | some v => G v | none => False) := by
  subst h
  exact k

theorem boL {x : Option (List Value)} {v : List Value} {G : List Value → Prop} (h : x = some v) (k : G v) : (match (generalizing := false) x with | some v => G v | none => False) := by
  subst h
  exact k
theorem boV {x : Option Value} {v : Value} {G : Value → Prop} (h : x = some v) (k : G v) : (match (generalizing := false) x with | some v => G v | none => False) := by
  subst h
  exact k

/-- Calls that have contracts. -/
abbrev XF := List Value → Heap → Nat → KE → Prop
def CX (X : Nat → Option XF) : VC := fun f args h nx K => match X f with | some x => x args h nx K | none => False
def noY : VY := fun _ _ _ _ _ => False
theorem CX_ok {P : Program} {X : Nat → Option XF} (hX : ∀ f x, X f = some x → XOK P f x) : CallsOK P (CX X) := by
  intro f args h nx K hl ι B w H hs
  unfold CX at hl
  split at hl
  · rename_i x hx
    exact (hX f x hx).1 args h nx K hl ι B w H hs
  · exact hl.elim
theorem CX_det {P : Program} {X : Nat → Option XF} (hX : ∀ f x, X f = some x → XOK P f x) : DetC (CX X) := by
  intro f args h nx K hl
  unfold CX at hl
  split at hl
  · rename_i x hx
    obtain ⟨v, h', nx', k1, k2⟩ := (hX f x hx).2 args h nx K hl
    exact ⟨v, h', nx', k1, fun K' hk => by unfold CX; rw [hx]; exact k2 K' hk⟩
  · exact hl.elim
theorem noY_ok {P : Program} : YieldsOK P noY := fun _ _ _ _ _ hl => hl.elim
theorem noY_det : DetC noY := fun _ _ _ _ _ hl => hl.elim

theorem XOK.mono {P : Program} {f : Nat} {x x' : XF} (h : XOK P f x) (hm : ∀ args h nx K, x' args h nx K → x args h nx K) (hd : ∀ args h nx, DetE (x' args h nx)) : XOK P f x' :=
  ⟨fun args hh nx K hx => h.1 args hh nx K (hm _ _ _ _ hx), hd⟩

/-! ### values alone -/
/-- What is asked, and what is yielded. -/
def gX (s : List Value → Option (Bool × Value)) : XF := fun args h nx K => match s args with | some p => must p.1 (K p.2 h nx) | none => False
theorem app_nil (h : Heap) : app h [] = h := by
  induction h with
  | nil => rfl
  | cons x r ih => simp only [app, ih]
theorem gX_ok {P : Program} {C : VC} {f : Nat} {s : List Value → Option (Bool × Value)} (hC : CallsOK P C)
    (hs : ∀ args v, s args = some (true, v) → allGA args = true ∧ gT v = true ∧ C f args [] 0 (fun u _ _ => u = v)) : XOK P f (gX s) := by
  refine (xOf_ok (S := fun args0 h0 n0 v1 h1 m => s args0 = some (true, v1) ∧ h0 = [] ∧ n0 = 0 ∧ h1 = [] ∧ m = 0) hC ?_).mono ?_ ?_
  · rintro args0 h0 n0 v1 h1 m ⟨e1, rfl, rfl, rfl, rfl⟩
    obtain ⟨a1, a2, a3⟩ := hs args0 v1 e1
    refine ⟨rfl, ?_⟩
    exact ⟨_, a3, fun v h nx e => by rw [e]; exact Outc_g a2⟩
  · intro args h nx K hx
    unfold gX at hx
    split at hx
    · rename_i p e1
      obtain ⟨b, v⟩ := p
      obtain ⟨rfl, hx⟩ := must_iff.1 hx
      obtain ⟨a1, a2, a3⟩ := hs args v e1
      refine ⟨args, [], 0, v, [], 0, ⟨e1, rfl, rfl, rfl, rfl⟩, In_g fun u hu => allGA_mem a1 hu, ?_⟩
      simp only [past, ownH, shH, app_nil, ren_g a2, Nat.add_zero]
      exact hx
    · exact hx.elim
  · intro args h nx K hx
    unfold gX at hx
    split at hx
    · rename_i p e1
      obtain ⟨hb, hx⟩ := must_iff.1 hx
      exact ⟨p.2, h, nx, hx, fun K' hk => by unfold gX; rw [e1]; exact must_of hb hk⟩
    · exact hx.elim

/-! ### at a loop's head -/
theorem ObjRen_g {ρ : Nat → Nat} {n sz : Nat} {wr g : Bool} {cs : List Value} (hg : allG cs = true) : ObjRen ρ n (.cells wr g sz cs) (.cells wr g sz cs) :=
  ⟨rfl, rfl, rfl, (map_trS_g hg).symm, fun v hv => scS_g (allG_mem hg hv)⟩
theorem Into_id {b n0 nx : Nat} {I : KS} {e0 e : List (Nat × Value)} {h0 h : Heap} (hI : I e0 h0 n0) (he : ∀ p ∈ e0, look e p.1 = some (ren id p.2) ∧ nmT n0 p.2)
    (hh : ∀ p ∈ h0, p.1 < n0 ∧ ∃ o', look h p.1 = some o' ∧ ObjRen id n0 p.2 o') (hb : b ≤ n0) : Into b I e h nx :=
  ⟨e0, h0, n0, id, hI, fun t v hv => he (t, v) (look_mem hv), fun k o hk => hh (k, o) (look_mem hk), fun k k' o o' _ _ e => e, fun k _ => rfl, hb⟩

/-! ### lists -/
/-- A list of elements, each of so many cells, as it lies in a heap. -/
def flat {α : Type} (fl : α → List Value) : List α → List Value
  | [] => []
  | a :: r => fl a ++ flat fl r
structure El (α : Type) where
  fl : α → List Value
  sz : Nat
  len : ∀ a, (fl a).length = sz
  gr : ∀ a, allG (fl a) = true
section
variable {α : Type} (E : El α)
theorem flat_len (l : List α) : (flat E.fl l).length = l.length * E.sz := by
  induction l with
  | nil => simp [flat]
  | cons a r ih => simp only [flat, List.length_append, E.len, ih, List.length_cons, Nat.succ_mul]; omega
theorem flat_g (l : List α) : allG (flat E.fl l) = true := by
  induction l with
  | nil => rfl
  | cons a r ih => simp only [flat, allG_append, E.gr, ih, Bool.and_self]
theorem getN_eq {l : List Value} {o n : Nat} (h : o + n ≤ l.length) : getN l o n = some ((l.drop o).take n) := by
  induction n generalizing o with
  | zero => simp [getN]
  | succ n ih =>
    have hlt : o < l.length := by omega
    simp only [getN, nth_eq, List.getElem?_eq_getElem hlt, ih (o := o + 1) (by omega)]
    congr 1
    rw [List.drop_eq_getElem_cons hlt]
    rfl
theorem flat_at (l : List α) (i : Nat) (hi : i < l.length) : ((flat E.fl l).drop (i * E.sz)).take E.sz = E.fl l[i] := by
  induction l generalizing i with
  | nil => simp at hi
  | cons a r ih =>
    cases i with
    | zero =>
      simp only [flat, Nat.zero_mul, List.drop_zero, List.getElem_cons_zero]
      rw [List.take_append_of_le_length (by rw [E.len]; exact Nat.le_refl _), List.take_of_length_le (by rw [E.len]; exact Nat.le_refl _)]
    | succ i =>
      have hl : (fl : List Value) → True := fun _ => trivial
      simp only [flat, List.getElem_cons_succ]
      rw [show (i + 1) * E.sz = (E.fl a).length + i * E.sz by rw [E.len, Nat.succ_mul]; omega, List.drop_append, Nat.add_sub_cancel_left, List.drop_eq_nil_of_le (by omega), List.nil_append]
      exact ih i (by simpa using hi)
theorem flat_get (l : List α) {i o : Nat} (hi : i < l.length) (ho : o = i * E.sz) : getN (flat E.fl l) o E.sz = some (E.fl l[i]) := by
  subst ho
  have h1 : (i + 1) * E.sz ≤ l.length * E.sz := Nat.mul_le_mul_right _ hi
  rw [getN_eq (by rw [flat_len]; rw [Nat.succ_mul] at h1; exact h1), flat_at E l i hi]

/-- A slice, read as a list. -/
def LsAt (h : Heap) (v : Value) (l : List α) : Prop :=
  match v with
  | .slice none n c => n = 0 ∧ c = 0 ∧ l = []
  | .slice (some ⟨k, o, none⟩) n _ => n = l.length ∧ ∃ wr g sz cs, look h k = some (.cells wr g sz cs) ∧ (cs.drop o).take (flat E.fl l).length = flat E.fl l
  | _ => False
/-- Contracts that read one list. -/
def lX (s : List α → List Value → Option (Bool × Value)) : XF := fun args h nx K => match args with
  | v :: r => ∃ l, LsAt E h v l ∧ (match s l r with | some p => must p.1 (K p.2 h nx) | none => False)
  | _ => False

theorem In_nil {r : List Value} (hr : allGA r = true) {h : Heap} {nx : Nat} (g0 : Bool) (sz : Nat) : In (.slice (some ⟨0, 0, none⟩) 0 0 :: r) [(0, .cells false g0 sz [])] 1 (.slice none 0 0 :: r) h nx := by
  intro ι B w H hs
  have hmap : ∀ ι1 ι2 : Nat → Loc, r.map (tr ι1) = r.map (tr ι2) := fun ι1 ι2 => List.map_congr_left fun v hv => by rw [tr_g (allGA_mem hr hv), tr_g (allGA_mem hr hv)]
  refine ⟨fun _ => .nil none, ?_, ?_, ⟨?_, ?_, ?_, Nat.le_refl _, ?_⟩⟩
  · rw [List.map_cons, List.map_cons, hmap ι]
    rfl
  · intro v hv
    cases hv with
    | head => exact ⟨Nat.one_pos, fun _ => ⟨rfl, rfl⟩⟩
    | tail _ hm => exact scT_g (allGA_mem hr hm)
  · intro j q hq
    rw [look_cons] at hq
    split at hq
    · injection hq with hq; subst hq; rfl
    · exact noLook hq
  · intro j j' q q' hq hq' hne ha b hb
    cases hb
  · intro j q hq
    rw [look_cons] at hq
    split at hq
    · rename_i hb; rw [← beq_true hb]; exact Nat.one_pos
    · exact noLook hq
  · intro j q hq
    rw [look_cons] at hq
    split at hq
    · injection hq with hq; subst hq; intro v hv; cases hv
    · exact noLook hq

theorem lX_ok {P : Program} {C : VC} {f : Nat} {s : List α → List Value → Option (Bool × Value)} (hC : CallsOK P C)
    (hs : ∀ l r v, s l r = some (true, v) → allGA r = true ∧ gT v = true ∧ ∀ c, C f (.slice (some ⟨0, 0, none⟩) l.length c :: r) [(0, .cells false true E.sz (flat E.fl l))] 1 (fun u _ _ => u = v)) : XOK P f (lX E s) := by
  refine (xOf_ok (S := fun args0 h0 n0 v1 h1 m => ∃ l r c, s l r = some (true, v1) ∧ args0 = .slice (some ⟨0, 0, none⟩) l.length c :: r ∧ h0 = [(0, .cells false true E.sz (flat E.fl l))] ∧ n0 = 1 ∧ h1 = [] ∧ m = 0) hC ?_).mono ?_ ?_
  · rintro args0 h0 n0 v1 h1 m ⟨l, r, c, e1, rfl, rfl, rfl, rfl, rfl⟩
    obtain ⟨a1, a2, a3⟩ := hs l r v1 e1
    exact ⟨rfl, _, a3 c, fun v h nx e => by rw [e]; exact Outc_g a2⟩
  · intro args h nx K hx
    unfold lX at hx
    split at hx
    case h_2 => exact hx.elim
    rename_i v r
    obtain ⟨l, hl, hx⟩ := hx
    split at hx
    case h_2 => exact hx.elim
    rename_i p e1
    obtain ⟨b, u⟩ := p
    obtain ⟨rfl, hx⟩ := must_iff.1 hx
    obtain ⟨a1, a2, a3⟩ := hs l r u e1
    have hK : K (ren (fun k => nx + k) u) (app (past [] h) (shH nx [])) (nx + 0) := by
      simp only [past, ownH, shH, app_nil, ren_g a2, Nat.add_zero]
      exact hx
    unfold LsAt at hl
    split at hl
    · rename_i n c
      obtain ⟨rfl, rfl, rfl⟩ := hl
      exact ⟨_, _, 1, u, [], 0, ⟨[], r, 0, e1, rfl, rfl, rfl, rfl, rfl⟩, In_nil a1 true E.sz, hK⟩
    · rename_i k o n c
      obtain ⟨rfl, wr, g, sz, cs, hk, hcs⟩ := hl
      exact ⟨_, _, 1, u, [], 0, ⟨l, r, c, e1, rfl, rfl, rfl, rfl, rfl⟩, In_sl a1 hk hcs (flat_g E l) true E.sz, hK⟩
    · exact hl.elim
  · intro args h nx K hx
    unfold lX at hx
    split at hx
    case h_2 => exact hx.elim
    rename_i v r
    obtain ⟨l, hl, hx⟩ := hx
    split at hx
    case h_2 => exact hx.elim
    rename_i p e1
    obtain ⟨hb, hx⟩ := must_iff.1 hx
    exact ⟨p.2, h, nx, hx, fun K' hk => ⟨l, hl, by rw [e1]; exact must_of hb hk⟩⟩
end
end Go.Aw
