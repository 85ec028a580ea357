/-
  A function's end, marks and all; ranges over functions; rounds: the evaluation. No condition.
-/
import Derived.Test.YtagdfcdnfdpocaaGreatAw27
set_option linter.unusedSimpArgs false
set_option linter.unusedVariables false
noncomputable section
namespace Go.Aw
open Go.RowKit

/-! ### the evaluation -/
def afterLoop (h : Heap) (nx : Nat) : Heap := shutH (rem (rem h (nx + 1)) nx)

def vrange (C : VC) (f tn : Nat) : VR := fun g ps as bd kn kx kr e h nx =>
  on (opv e g) fun gv => match gv with
    | .func (.func q) first cap => (match first.toList, capPtr cap.toList with
      | [], true => C q (.func (.yield (nx + 1)) #[] #[] :: cap.toList)
          (upd (upd h nx .deferred) (nx + 1) (.loop { state := .ready, pending := none, fn := f, env := e, tn := tn, params := ps.toList, assign := as, body := bd, defers := nx })) (nx + 2) fun _ h' nx' =>
          (match look h' (nx + 1), look h' nx with
          | some (.loop l), some .deferred => (match l.state, l.pending with
            | .busy, _ => False
            | _, none => kn e (afterLoop h' nx) nx'
            | _, some (.exit id) => kx id e (afterLoop h' nx) nx'
            | _, some .ret => kr e (afterLoop h' nx) nx'
            | _, _ => False)
          | _, _ => False)
      | _, _ => False)
    | _ => False
def noRange : VR := fun _ _ _ _ _ _ _ _ _ _ => False

def zipPut (tn : Nat) : List (Nat × Value) → List Nat → List Value → Option (List (Nat × Value))
  | e, [], [] => some e
  | e, t :: ts, v :: vs => match Nat.blt t tn with | true => zipPut tn (put e t v) ts vs | false => none
  | _, _, _ => none

def vfin (q : Nat) (K : KE) (j : Option Code) : KS := fun _ h nx =>
  match look h q with
  | some (.loop l) => K (.bool j.isNone) (upd h q (.loop { l with state := if j.isNone then .ready else .done, pending := j })) nx
  | _ => False

def vround (A : Ar) (T : Tab) (C : VC) (Y : VY) (PL : Nat → Nat → Option Plan) (M : LM) : VY := fun q args h nx K =>
  match look h q with
  | some (.loop l) => (match zipPut l.tn l.env l.params args, plansOK (PL l.fn) l.assign && plansOK (PL l.fn) l.body with
    | some e0, true => vcode A T C Y l.tn (PL l.fn) M noRange l.assign (fun e1 h1 nx1 =>
        match look h1 q with
        | some (.loop l1) => (match l1.state with
          | .ready => vcode A T C Y l.tn (PL l.fn) M noRange l.body (vfin q K none) (fun id => vfin q K (some (.exit id))) (vfin q K (some .ret)) e1 (upd h1 q (.loop { l1 with state := .busy })) nx1
          | _ => False)
        | _ => False) (fun _ _ _ _ => False) (fun _ _ _ => False) e0 h nx
    | _, _ => False)
  | _ => False

def initEnv : Nat → List Value → List (Nat × Value)
  | _, [] => []
  | i, v :: r => (i, v) :: initEnv (i + 1) r
def prune (n : Nat) : Heap → Heap
  | [] => []
  | (k, o) :: r => match Nat.blt k n with | true => (k, o) :: prune n r | false => prune n r

/-- What the reckoning is given: types, functions, plans, which functions' names may be dropped, contracts in a body's place, how loops are met. -/
structure Cfg where
  A : Ar
  T : Tab
  FT : Nat → Option Func
  PL : Nat → Nat → Option Plan
  PR : Nat → Bool
  X : Nat → Option (List Value → Heap → Nat → KE → Prop)
  M : Nat

def vbody (c : Cfg) (M : Option Nat) (C : VC) (Y : VY) : VC := fun f args h nx K =>
  match c.X f with
  | some x => x args h nx K
  | none => match c.FT f with
    | none => False
    | some fn => (match fn.body, Nat.ble args.length fn.ntmps with
      | some b, true =>
        let fin : KS := vend c.T fn fun v h' nx' => K v (match c.PR f with | true => prune nx h' | false => h') nx'
        vcode c.A c.T C Y fn.ntmps (c.PL f) (match M with | some n => .fuel n | none => .inv nx) (vrange C f fn.ntmps) b fin (fun _ _ _ _ => False) fin (initEnv 0 args) h nx
      | _, _ => False)

/-- Calls (false) and rounds (true), so deep. -/
def vcall (c : Cfg) : Nat → Bool → VC
  | 0, _ => fun _ _ _ _ _ => False
  | d + 1, false => vbody c (some c.M) (vcall c d false) (vcall c d true)
  | d + 1, true => vround c.A c.T (vcall c d false) (vcall c d true) c.PL (.fuel c.M)

section
variable {P : Program} {T : Tab}

theorem look_prune {n : Nat} {h : Heap} {k : Nat} {o : AObj} (hl : look (prune n h) k = some o) : look h k = some o := by
  induction h with
  | nil => exact hl
  | cons x r ih =>
    obtain ⟨j, q⟩ := x
    simp only [prune] at hl
    by_cases hjk : j = k
    · subst hjk
      split at hl
      · simpa [look_cons] using hl
      · rename_i hn
        -- the name is too high: nothing is left of it
        have : ∀ (r : Heap), look (prune n r) j = none := by
          intro r
          induction r with
          | nil => rfl
          | cons y r ih2 =>
            obtain ⟨i, q2⟩ := y
            simp only [prune]
            split
            · rename_i hi
              have hne : Nat.beq i j = false := by
                cases hb : Nat.beq i j with
                | false => rfl
                | true => rw [beq_true hb] at hi; rw [hi] at hn; cases hn
              simp only [look_cons, hne]
              exact ih2
            · exact ih2
        rw [this] at hl
        cases hl
    · have hne : Nat.beq j k = false := by
        cases hb : Nat.beq j k with
        | false => rfl
        | true => exact absurd (beq_true hb) hjk
      simp only [look_cons, hne]
      split at hl
      · simp only [look_cons, hne] at hl
        exact ih hl
      · exact ih hl

theorem RelH.down {ι : Nat → Loc} {B B0 nx : Nat} {h : Heap} {w : World} (H : RelH ι B h nx w) (hB : B0 ≤ B) : RelH ι B0 h nx w := by
  refine ⟨fun k o hk => ?_, H.sep, H.low, Nat.le_trans hB H.size, H.sc⟩
  have ho := H.obj k o hk
  cases hι : ι k with
  | nil p => rw [hι] at ho; cases o <;> first | exact ho | exact ho.elim
  | «at» b off e =>
    rw [hι] at ho
    cases o with
    | cells wr g sz cs =>
      cases wr with
      | true => exact ⟨Nat.le_trans hB ho.1, ho.2⟩
      | false => exact ho
    | map es => exact ⟨Nat.le_trans hB ho.1, ho.2⟩
    | loop l => exact ⟨Nat.le_trans hB ho.1, ho.2⟩
    | deferred => exact ⟨Nat.le_trans hB ho.1, ho.2⟩
    | zero => exact ho

/-- A mark's block is shut: nothing that is named lies there. -/
theorem RelH.taken {ι : Nat → Loc} {B nx : Nat} {h : Heap} {w : World} (H : RelH ι B h nx w) {b : Nat} (hb : b < B) {ds : Option (List Deferred)} (hd : w.heap[b]? = some (.deferred ds)) (o : Obj) :
    RelH ι B h nx { w with heap := w.heap.setIfInBounds b o } := by
  have hother : ∀ c, c ≠ b → (w.heap.setIfInBounds b o)[c]? = w.heap[c]? := fun c hc => by rw [Array.getElem?_setIfInBounds_ne (fun e => hc e.symm)]
  refine ⟨fun k q hk => ?_, H.sep, H.low, by simpa using H.size, H.sc⟩
  have hq := H.obj k q hk
  by_cases hkb : (ι k).blk = some b
  · -- only what is read, and that is empty
    cases hι : ι k with
    | nil p => rw [hι] at hkb; cases hkb
    | «at» c off e =>
      have hcb : c = b := by rw [hι] at hkb; simpa [Loc.blk] using hkb
      subst hcb
      rw [hι] at hq
      cases q with
      | cells wr g sz cs =>
        cases wr with
        | true => have := hq.1; omega
        | false =>
          refine ⟨by simpa using hq.1, hq.2.1, fun i v hv => ?_⟩
          have := hq.2.2 i v hv
          simp [World.cell?, hd] at this
      | map es => have := hq.1; omega
      | loop l => have := hq.1; omega
      | deferred => have := hq.1; omega
      | zero => exact hq.elim
  · exact hq.keep (fun c hc => hother c (fun e => hkb (e ▸ hc))) (by simp)

theorem leaves_marks {ι : Nat → Loc} {B B0 nx : Nat} {h : Heap} {fn : Func} {tmps : Array Value} {Rr : Ending → World → Prop} : ∀ (bs : List Nat) (w : World), bs.Nodup → (∀ b ∈ bs, B0 ≤ b ∧ b < B ∧ w.heap[b]? = some (.deferred (some []))) → RelH ι B h nx w →
    (∀ w', RelH ι B h nx w' → Below B0 w w' → ∃ u, (results fn tmps).run P w' = .ok u w' ∧ Rr (.returned u) w') → LeavesInM Fence.wide 0 P fn tmps Rr (bs.map markOf) .returning w
  | [], w, _, _, H, hR => hR w H (Below.refl _ _)
  | b :: bs, w, hn, hb, H, hR => by
    rw [List.nodup_cons] at hn
    obtain ⟨h1, h2, h3⟩ := hb b (by simp)
    have hlt := (Array.getElem?_eq_some_iff.1 h3).1
    have hbel : Below B0 w { w with heap := w.heap.setIfInBounds b (.deferred none) } := ⟨rfl, rfl, rfl, by simp, fun c hc => by
      simp [Array.getElem?_setIfInBounds_ne (show b ≠ c by omega)]⟩
    refine ⟨by simp, .inl ⟨b, { w with heap := w.heap.setIfInBounds b (.deferred none) }, rfl, ?_, ?_⟩⟩
    · simp [Instr.takeDeferred, getObj, setObj, Sem.run, h3]
    · refine leaves_marks bs _ hn.2 (fun c hc => ?_) (H.taken h2 h3 _) (fun w' H' hb' => hR w' H' (hbel.trans hb'))
      obtain ⟨k1, k2, k3⟩ := hb c (by simp [hc])
      have hne : b ≠ c := fun e => hn.1 (e ▸ hc)
      exact ⟨k1, k2, by simp [Array.getElem?_setIfInBounds_ne hne, k3]⟩
end
end Go.Aw
