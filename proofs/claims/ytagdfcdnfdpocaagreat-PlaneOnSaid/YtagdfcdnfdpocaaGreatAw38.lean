/-
  Closed calls, reckoned one by one, as contracts. No condition.
-/
import Derived.Test.YtagdfcdnfdpocaaGreatAw37
set_option linter.unusedSimpArgs false
set_option linter.unusedVariables false
noncomputable section
namespace Go.Aw
open Go.RowKit

/-! ### equality of values, in truth values -/
def sameI : Int → Int → Bool
  | .ofNat a, .ofNat b => Nat.beq a b
  | .negSucc a, .negSucc b => Nat.beq a b
  | _, _ => false
theorem sameI_eq {a b : Int} (h : sameI a b = true) : a = b := by
  cases a <;> cases b <;> simp only [sameI] at h <;> first | cases h; done | rw [beq_true h]
def sameB : Bool → Bool → Bool
  | true, true => true
  | false, false => true
  | _, _ => false
theorem sameB_eq {a b : Bool} (h : sameB a b = true) : a = b := by cases a <;> cases b <;> first | rfl | cases h
def sameS : Value → Value → Bool
  | .bool a, .bool b => sameB a b
  | .int k a, .int j b => kEq k j && sameI a b
  | .slice none n c, .slice none n' c' => Nat.beq n n' && Nat.beq c c'
  | .slice (some ⟨a, o, none⟩) n c, .slice (some ⟨a', o', none⟩) n' c' => Nat.beq a a' && Nat.beq o o' && Nat.beq n n' && Nat.beq c c'
  | _, _ => false
theorem sameS_eq {v u : Value} (h : sameS v u = true) : v = u := by
  unfold sameS at h
  split at h
  · rw [sameB_eq h]
  · simp only [Bool.and_eq_true] at h
    rw [kEq_true h.1, sameI_eq h.2]
  · simp only [Bool.and_eq_true] at h
    rw [beq_true h.1, beq_true h.2]
  · simp only [Bool.and_eq_true] at h
    obtain ⟨⟨⟨h1, h2⟩, h3⟩, h4⟩ := h
    rw [beq_true h1, beq_true h2, beq_true h3, beq_true h4]
  · cases h
def sameL : List Value → List Value → Bool
  | [], [] => true
  | a :: r, b :: s => sameS a b && sameL r s
  | _, _ => false
theorem sameL_eq : ∀ {l m : List Value}, sameL l m = true → l = m
  | [], [], _ => rfl
  | [], _ :: _, h => by cases h
  | _ :: _, [], h => by cases h
  | a :: r, b :: s, h => by
    simp only [sameL, Bool.and_eq_true] at h
    rw [sameS_eq h.1, sameL_eq h.2]
def sameA : Value → Value → Bool
  | .agg a, .agg b => sameL a.toList b.toList
  | a, b => sameS a b
theorem sameA_eq {v u : Value} (h : sameA v u = true) : v = u := by
  unfold sameA at h
  split at h
  · rw [show _ = _ from Array.ext' (sameL_eq h)]
  · exact sameS_eq h
def sameAL : List Value → List Value → Bool
  | [], [] => true
  | a :: r, b :: s => sameA a b && sameAL r s
  | _, _ => false
theorem sameAL_eq : ∀ {l m : List Value}, sameAL l m = true → l = m
  | [], [], _ => rfl
  | [], _ :: _, h => by cases h
  | _ :: _, [], h => by cases h
  | a :: r, b :: s, h => by
    simp only [sameAL, Bool.and_eq_true] at h
    rw [sameA_eq h.1, sameAL_eq h.2]
def sameT : Value → Value → Bool
  | .tuple a, .tuple b => sameAL a.toList b.toList
  | a, b => sameA a b
theorem sameT_eq {v u : Value} (h : sameT v u = true) : v = u := by
  unfold sameT at h
  split at h
  · rw [show _ = _ from Array.ext' (sameAL_eq h)]
  · exact sameA_eq h

/-! ### names below a number -/
def nmSB (n : Nat) : Value → Bool
  | .slice (some a) _ _ => Nat.blt a.block n
  | v => gS v
theorem nmSB_ok {n : Nat} {v : Value} (h : nmSB n v = true) : nmS n v := by
  unfold nmSB at h
  split at h
  · exact ⟨Nat.le_of_ble_eq_true h, fun e => by cases e⟩
  · exact scS_g h
def nmLB (n : Nat) : List Value → Bool
  | [] => true
  | v :: r => nmSB n v && nmLB n r
theorem nmLB_ok {n : Nat} : ∀ {l : List Value}, nmLB n l = true → ∀ v ∈ l, nmS n v
  | [], _, v, hv => by cases hv
  | x :: r, h, v, hv => by
    simp only [nmLB, Bool.and_eq_true] at h
    cases hv with
    | head => exact nmSB_ok h.1
    | tail _ hm => exact nmLB_ok h.2 v hm
def nmAB (n : Nat) : Value → Bool
  | .agg c => nmLB n c.toList
  | v => nmSB n v
theorem nmAB_ok {n : Nat} {v : Value} (h : nmAB n v = true) : scA (at0 id) n v := by
  unfold nmAB at h
  split at h
  · exact fun x hx => nmLB_ok h x hx
  · exact scA_of_S (nmSB_ok h)
def nmALB (n : Nat) : List Value → Bool
  | [] => true
  | v :: r => nmAB n v && nmALB n r
theorem nmALB_ok {n : Nat} : ∀ {l : List Value}, nmALB n l = true → ∀ v ∈ l, scA (at0 id) n v
  | [], _, v, hv => by cases hv
  | x :: r, h, v, hv => by
    simp only [nmALB, Bool.and_eq_true] at h
    cases hv with
    | head => exact nmAB_ok h.1
    | tail _ hm => exact nmALB_ok h.2 v hm
def nmTB (n : Nat) : Value → Bool
  | .tuple c => nmALB n c.toList
  | v => nmAB n v
theorem nmTB_ok {n : Nat} {v : Value} (h : nmTB n v = true) : nmT n v := by
  unfold nmTB at h
  split at h
  · exact fun x hx => nmALB_ok h x hx
  · exact scT_of_A (nmAB_ok h)

/-! ### closed calls -/
/-- A closed call: its function, its slice (length, cells, cells an element), its other arguments; what it yields, and the renaming. -/
structure Clo where
  f : Nat
  sl : Option (Nat × Nat × List Value)
  rest : List Value
  v1 : Value
  h1 : Heap
  m : Nat
  ρ : List (Nat × Nat)

def Clo.args (E : Clo) : List Value := match E.sl with | some (n, _, _) => .slice (some ⟨0, 0, none⟩) n n :: E.rest | none => E.rest
def Clo.h0 (E : Clo) : Heap := match E.sl with | some (_, sz, cs) => [(0, .cells false true sz cs)] | none => []
def Clo.n0 (E : Clo) : Nat := match E.sl with | some _ => 1 | none => 0
def nm (ρ : List (Nat × Nat)) (k : Nat) : Nat := match look ρ k with | some j => j | none => k
def injB (ρ : List (Nat × Nat)) : List (Nat × AObj) → List Nat → Bool
  | [], _ => true
  | (k, _) :: r, seen => !(memB (nm ρ k) seen) && injB ρ r (nm ρ k :: seen)
def objB (ρ : List (Nat × Nat)) (m : Nat) (h' : Heap) : Heap → Bool
  | [] => true
  | (k, .cells wr g sz cs) :: r => Nat.blt k m && nmLB m cs && (match look h' (nm ρ k) with
    | some (.cells wr' g' sz' cs') => sameB wr wr' && sameB g g' && Nat.beq sz sz' && sameL cs' (cs.map (ren1 (nm ρ)))
    | _ => false) && objB ρ m h' r
  | _ => false
def outB (E : Clo) : KEB := fun v h' _ => sameT v (ren (nm E.ρ) E.v1) && nmTB E.m E.v1 && objB E.ρ E.m h' E.h1

theorem objB_ok {ρ : List (Nat × Nat)} {m : Nat} {h' : Heap} : ∀ {h1 : Heap}, objB ρ m h' h1 = true → (cellsH h1 = true ∧ ∀ k o, look h1 k = some o → k < m ∧ ∃ o', look h' (nm ρ k) = some o' ∧ ObjRen (nm ρ) m o o')
  | [], _ => ⟨rfl, fun k o hk => noLook hk⟩
  | (k, .cells wr g sz cs) :: r, h => by
    simp only [objB, Bool.and_eq_true] at h
    obtain ⟨⟨⟨h1, h2⟩, h3⟩, h4⟩ := h
    obtain ⟨i1, i2⟩ := objB_ok h4
    refine ⟨by simp only [cellsH, isCells, i1, Bool.and_self], fun j o hj => ?_⟩
    rw [look_cons] at hj
    split at hj
    · rename_i hb
      have := beq_true hb
      subst this
      injection hj with hj
      subst hj
      refine ⟨Nat.le_of_ble_eq_true h1, ?_⟩
      split at h3
      case h_2 => cases h3
      rename_i wr' g' sz' cs' hl
      simp only [Bool.and_eq_true] at h3
      obtain ⟨⟨⟨a0, a1⟩, a2⟩, a3⟩ := h3
      exact ⟨_, hl, sameB_eq a0, sameB_eq a1, beq_true a2, sameL_eq a3, nmLB_ok h2⟩
    · exact i2 j o hj
  | (k, .map es) :: r, h => by cases h
  | (k, .loop l) :: r, h => by cases h
  | (k, .deferred) :: r, h => by cases h
  | (k, .zero) :: r, h => by cases h

theorem outB_ok {E : Clo} {v : Value} {h' : Heap} {nx' : Nat} (hinj : ∀ k k' o o', look E.h1 k = some o → look E.h1 k' = some o' → nm E.ρ k = nm E.ρ k' → k = k') (h : outB E v h' nx' = true) : cellsH E.h1 = true ∧ Outc E.v1 E.h1 E.m v h' nx' := by
  simp only [outB, Bool.and_eq_true] at h
  obtain ⟨⟨h1, h2⟩, h3⟩ := h
  obtain ⟨h4, h5⟩ := objB_ok h3
  refine ⟨h4, nm E.ρ, ⟨fun t u hu => ?_, h5, hinj, fun k hk => absurd hk (Nat.not_lt_zero k), Nat.zero_le _⟩⟩
  rw [look_cons] at hu
  split at hu
  · rename_i hb
    injection hu with hu
    subst hu
    exact ⟨by rw [look_cons, hb, sameT_eq h1], nmTB_ok h2⟩
  · exact noLook hu

/-- Injectivity, by a test. -/
def injL (ρ : List (Nat × Nat)) (h1 : Heap) : Bool := h1.all fun p => h1.all fun q => !(Nat.beq (nm ρ p.1) (nm ρ q.1)) || Nat.beq p.1 q.1
theorem look_mem {α : Type} {l : List (Nat × α)} {k : Nat} {o : α} (h : look l k = some o) : (k, o) ∈ l := by
  induction l with
  | nil => exact noLook h
  | cons x r ih =>
    obtain ⟨j, q⟩ := x
    rw [look_cons] at h
    split at h
    · rename_i hb
      have := beq_true hb
      subst this
      injection h with h
      subst h
      exact .head _
    · exact .tail _ (ih h)
theorem injL_ok {ρ : List (Nat × Nat)} {h1 : Heap} (h : injL ρ h1 = true) : ∀ k k' o o', look h1 k = some o → look h1 k' = some o' → nm ρ k = nm ρ k' → k = k' := by
  intro k k' o o' a b e
  have h2 := List.all_eq_true.1 (List.all_eq_true.1 h _ (look_mem a)) _ (look_mem b)
  simp only [Bool.or_eq_true, Bool.not_eq_true'] at h2
  rcases h2 with h2 | h2
  · exact absurd e (beq_false h2)
  · exact beq_true h2

/-! ### as contracts -/
def cloS (L : List Clo) (f : Nat) : Sp := fun args0 h0 n0 v1 h1 m => ∃ E ∈ L, E.f = f ∧ args0 = E.args ∧ h0 = E.h0 ∧ n0 = E.n0 ∧ v1 = E.v1 ∧ h1 = E.h1 ∧ m = E.m
def hasF (f : Nat) : List Clo → Bool
  | [] => false
  | E :: r => match Nat.beq E.f f with | true => true | false => hasF f r
def cloX (L : List Clo) (f : Nat) : Option (List Value → Heap → Nat → KE → Prop) := match hasF f L with | true => some (xOf (cloS L f)) | false => none

/-- Does the call at hand fit? -/
def fitB (E : Clo) (args : List Value) (h : Heap) : Bool := match E.sl with
  | none => sameAL args E.rest && allGA E.rest
  | some (n, _, cs0) => (match args with
    | .slice (some ⟨k, o, none⟩) n' c' :: r => Nat.beq n n' && Nat.beq n c' && sameAL r E.rest && allGA E.rest && allG cs0 && (match look h k with
      | some (.cells _ _ _ cs) => sameL ((cs.drop o).take cs0.length) cs0
      | _ => false)
    | _ => false)
def cloB (f : Nat) : List Clo → List Value → Heap → Nat → KEB → Bool
  | [], _, _, _, _ => false
  | E :: r, args, h, nx, K => match Nat.beq E.f f && fitB E args h with
    | true => K (ren (fun k => nx + k) E.v1) (app (past E.h1 h) (shH nx E.h1)) (nx + E.m)
    | false => cloB f r args h nx K
def cloXB (L : List Clo) (f : Nat) : Option (List Value → Heap → Nat → KEB → Bool) := match hasF f L with | true => some (cloB f L) | false => none

theorem allGA_mem {l : List Value} (h : allGA l = true) {v : Value} (hv : v ∈ l) : gT v = true := by
  induction l with
  | nil => cases hv
  | cons x r ih =>
    simp only [allGA, Bool.and_eq_true] at h
    cases hv with
    | head =>
      have := h.1
      cases v <;> first | exact this | (simp [gA, gS] at this)
    | tail _ hm => exact ih h.2 hm

/-- A slice and values without addresses, as a call's own. -/
theorem In_sl {k o n c : Nat} {r : List Value} (hr : allGA r = true) {h : Heap} {nx : Nat} {wr g : Bool} {sz0 : Nat} {cs : List Value} (hk : look h k = some (.cells wr g sz0 cs)) {cs0 : List Value} (hcs : (cs.drop o).take cs0.length = cs0) (hg : allG cs0 = true) (g0 : Bool) (sz : Nat) :
    In (.slice (some ⟨0, 0, none⟩) n c :: r) [(0, .cells false g0 sz cs0)] 1 (.slice (some ⟨k, o, none⟩) n c :: r) h nx := by
  intro ι B w H hs
  have hx : k < nx ∧ ((ι k).isAt = false → n = 0 ∧ c = 0) := hs _ (.head _)
  have hmap : ∀ ι1 ι2 : Nat → Loc, r.map (tr ι1) = r.map (tr ι2) := fun ι1 ι2 => List.map_congr_left fun v hv => by rw [tr_g (allGA_mem hr hv), tr_g (allGA_mem hr hv)]
  have hsc : ∀ ι0 : Nat → Loc, ∀ v ∈ r, scT ι0 1 v := fun ι0 v hv => scT_g (allGA_mem hr hv)
  have ho := H.obj k _ hk
  cases hι : ι k with
  | nil p =>
    rw [hι] at ho
    have hnil : cs = [] := by cases wr <;> exact ho
    subst hnil
    have h0 : cs0 = [] := by rw [← hcs]; simp
    subst h0
    refine ⟨fun _ => .nil p, ?_, ?_, ⟨?_, ?_, ?_, Nat.le_refl _, ?_⟩⟩
    · rw [List.map_cons, List.map_cons, hmap ι]
      congr 1
      simp [tr, trA, trS, trP, hι]
    · intro v hv
      cases hv with
      | head => exact ⟨Nat.one_pos, fun _ => hx.2 (by rw [hι]; rfl)⟩
      | tail _ hm => exact hsc _ v hm
    · intro j q hq
      rw [look_cons] at hq
      split at hq
      · injection hq with hq; subst hq; rfl
      · exact noLook hq
    · intro j j' q q' hq hq' hne ha b hb
      cases hb
    · intro j q hq
      rw [look_cons] at hq
      split at hq
      · rename_i hb; rw [← beq_true hb]; exact Nat.one_pos
      · exact noLook hq
    · intro j q hq
      rw [look_cons] at hq
      split at hq
      · injection hq with hq; subst hq; intro v hv; cases hv
      · exact noLook hq
  | «at» b off e =>
    have hlt : b < w.heap.size := ho.lt (by rw [hι]; rfl)
    refine ⟨fun _ => .at b (off + o) e, ?_, ?_, ⟨?_, ?_, ?_, Nat.le_refl _, ?_⟩⟩
    · rw [List.map_cons, List.map_cons, hmap ι]
      congr 1
      simp [tr, trA, trS, trP, hι]
    · intro v hv
      cases hv with
      | head => exact ⟨Nat.one_pos, fun h => by cases h⟩
      | tail _ hm => exact hsc _ v hm
    · intro j q hq
      rw [look_cons] at hq
      split at hq
      · injection hq with hq
        subst hq
        refine ⟨hlt, fun _ => hg, fun i v hv => ?_⟩
        have hv2 : cs[o + i]? = some v := by
          rw [← hcs] at hv
          rw [List.getElem?_take] at hv
          split at hv
          · rw [List.getElem?_drop] at hv; exact hv
          · cases hv
        obtain ⟨b', off', e', hι', hc⟩ := H.cell hk hv2
        rw [hι] at hι'
        injection hι' with e1 e2 e3
        subst e1; subst e2
        have hgv := allG_mem hg (List.mem_of_getElem? hv)
        rw [Nat.add_assoc, hc, trS_g hgv, trS_g hgv]
      · exact noLook hq
    · intro j j' q q' hq hq' hne ha b hb
      rw [look_cons] at hq hq'
      split at hq
      · rename_i hb1
        split at hq'
        · rename_i hb2; exact absurd ((beq_true hb1).symm.trans (beq_true hb2)) hne
        · exact noLook hq'
      · exact noLook hq
    · intro j q hq
      rw [look_cons] at hq
      split at hq
      · rename_i hb; rw [← beq_true hb]; exact Nat.one_pos
      · exact noLook hq
    · intro j q hq
      rw [look_cons] at hq
      split at hq
      · injection hq with hq; subst hq; exact fun v hv => scS_g (allG_mem hg hv)
      · exact noLook hq

theorem fitB_ok {E : Clo} {args : List Value} {h : Heap} {nx : Nat} (hf : fitB E args h = true) : In E.args E.h0 E.n0 args h nx := by
  unfold fitB at hf
  unfold Clo.args Clo.h0 Clo.n0
  split at hf
  · rename_i hs
    simp only [Bool.and_eq_true] at hf
    rw [hs]
    rw [sameAL_eq hf.1]
    exact In_g fun v hv => allGA_mem hf.2 hv
  · rename_i n sz cs0 hs
    rw [hs]
    split at hf
    case h_2 => cases hf
    rename_i k o n' c' r
    simp only [Bool.and_eq_true] at hf
    obtain ⟨⟨⟨⟨⟨h1, h2⟩, h3⟩, h4⟩, h5⟩, h6⟩ := hf
    have := beq_true h1
    subst this
    have := beq_true h2
    subst this
    have := sameAL_eq h3
    subst this
    split at h6
    case h_2 => cases h6
    rename_i wr g sz0 cs hk
    exact In_sl h4 hk (sameL_eq h6) h5 true sz

theorem cloB_ok {f : Nat} (L0 : List Clo) {args : List Value} {h : Heap} {nx : Nat} {K : KEB} {K' : KE} (hK : ∀ v h nx, K v h nx = true → K' v h nx) : ∀ (L : List Clo), (∀ E ∈ L, E ∈ L0) → cloB f L args h nx K = true → xOf (cloS L0 f) args h nx K'
  | [], _, hl => by cases hl
  | E :: r, hsub, hl => by
    simp only [cloB] at hl
    split at hl
    · rename_i hb
      simp only [Bool.and_eq_true] at hb
      exact ⟨E.args, E.h0, E.n0, E.v1, E.h1, E.m, ⟨E, hsub E (.head _), beq_true hb.1, rfl, rfl, rfl, rfl, rfl, rfl⟩, fitB_ok hb.2, hK _ _ _ hl⟩
    · exact cloB_ok L0 hK r (fun E hE => hsub E (.tail _ hE)) hl
theorem cloTwX {c : Cfg} {L : List Clo} (hc : c.X = cloX L) : TwX c (cloXB L) := by
  intro f x xb hx hxb args h nx K K' hK hl
  rw [hc] at hx
  unfold cloX at hx
  unfold cloXB at hxb
  split at hx
  · rename_i hh
    rw [hh] at hxb
    injection hx with hx
    injection hxb with hxb
    subst hx; subst hxb
    exact cloB_ok L hK L (fun _ h => h) hl
  · cases hx

/-- What each closed call must show. -/
def CloOK (c : Cfg) (d : Nat) (E : Clo) : Prop := wcall c (fun _ => none) d false E.f E.args E.h0 E.n0 (outB E) = true ∧ injL E.ρ E.h1 = true
theorem cloXOK {P : Program} {c : Cfg} (hc : CfgOK P c) (hx : c.X = fun _ => none) {d : Nat} {L : List Clo} (hL : ∀ E ∈ L, CloOK c d E) : ∀ f x, cloX L f = some x → XOK P f x := by
  intro f x hfx
  unfold cloX at hfx
  split at hfx
  case h_2 => cases hfx
  injection hfx with hfx
  subst hfx
  refine xOf_ok (vcall_ok hc d).1 fun args0 h0 n0 v1 h1 m hs => ?_
  obtain ⟨E, hE, rfl, rfl, rfl, rfl, rfl, rfl, rfl⟩ := hs
  obtain ⟨t1, t2⟩ := hL E hE
  have hX : TwX c (fun _ => none) := fun f x xb hx2 => by rw [hx] at hx2; cases hx2
  have hv := wcall_tw hX d false E.f E.args E.h0 E.n0 (outB E) (fun v h nx => cellsH E.h1 = true ∧ Outc E.v1 E.h1 E.m v h nx) (fun v h nx ho => outB_ok (injL_ok t2) ho) t1
  obtain ⟨v, h', nx', k1, k2⟩ := (vcall_ok hc d).2.2.1 _ _ _ _ _ hv
  exact ⟨k1.1, _, k2 _ k1.2, fun _ _ _ q => q⟩
end Go.Aw
