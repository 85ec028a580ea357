/-
  Contracts: a call reckoned apart, in names of its own, put into a caller's heap. No condition.
-/
import Derived.Test.YtagdfcdnfdpocaaGreatAw36
set_option linter.unusedSimpArgs false
set_option linter.unusedVariables false
noncomputable section
namespace Go.Aw
open Go.RowKit

def shO (n : Nat) : AObj → AObj
  | .cells wr g sz cs => .cells wr g sz (cs.map (ren1 (fun k => n + k)))
  | o => o
def shH (n : Nat) : Heap → Heap
  | [] => []
  | (k, o) :: r => (n + k, shO n o) :: shH n r
def app : Heap → Heap → Heap
  | [], l => l
  | x :: r, l => x :: app r l

theorem look_app (h l : Heap) (k : Nat) : look (app h l) k = match look h k with | some o => some o | none => look l k := by
  induction h with
  | nil => rfl
  | cons x r ih =>
    obtain ⟨j, o⟩ := x
    simp only [app, look_cons]
    cases Nat.beq j k with
    | true => rfl
    | false => exact ih
theorem look_shH {n : Nat} (h : Heap) {k : Nat} {o : AObj} (hl : look (shH n h) k = some o) : ∃ j o', k = n + j ∧ look h j = some o' ∧ o = shO n o' := by
  induction h with
  | nil => cases hl
  | cons x r ih =>
    obtain ⟨j, q⟩ := x
    simp only [shH, look_cons] at hl
    split at hl
    · rename_i hb
      injection hl with hl
      exact ⟨j, q, (beq_true hb).symm, by rw [look_cons, show Nat.beq j j = true from Nat.beq_refl j], hl.symm⟩
    · rename_i hb
      obtain ⟨j', o', h1, h2, h3⟩ := ih hl
      refine ⟨j', o', h1, ?_, h3⟩
      have : Nat.beq j j' = false := by
        cases hb' : Nat.beq j j' with
        | false => rfl
        | true =>
          have := beq_true hb'
          subst this
          rw [h1, Nat.beq_refl] at hb
          cases hb
      rw [look_cons, this]
      exact h2

def isOwn : AObj → Bool
  | .cells true _ _ _ => true
  | _ => false
def ownH : Heap → Bool
  | [] => true
  | (_, o) :: r => isOwn o && ownH r
theorem ownH_look {h : Heap} (hh : ownH h = true) {k : Nat} {o : AObj} (hl : look h k = some o) : ∃ g sz cs, o = .cells true g sz cs := by
  induction h with
  | nil => cases hl
  | cons x r ih =>
    obtain ⟨j, q⟩ := x
    simp only [ownH, Bool.and_eq_true] at hh
    rw [look_cons] at hl
    split at hl
    · injection hl with hl
      subst hl
      cases q with
      | cells wr g sz cs =>
        cases wr with
        | true => exact ⟨g, sz, cs, rfl⟩
        | false => simp [isOwn] at hh
      | _ => simp [isOwn] at hh
    · exact ih hh.2 hl

def isCells : AObj → Bool
  | .cells _ _ _ _ => true
  | _ => false
def cellsH : Heap → Bool
  | [] => true
  | (_, o) :: r => isCells o && cellsH r
theorem cellsH_look {h : Heap} (hh : cellsH h = true) {k : Nat} {o : AObj} (hl : look h k = some o) : ∃ wr g sz cs, o = .cells wr g sz cs := by
  induction h with
  | nil => cases hl
  | cons x r ih =>
    obtain ⟨j, q⟩ := x
    simp only [cellsH, Bool.and_eq_true] at hh
    rw [look_cons] at hl
    split at hl
    · injection hl with hl
      subst hl
      cases q with
      | cells wr g sz cs => exact ⟨wr, g, sz, cs, rfl⟩
      | _ => simp [isCells] at hh
    · exact ih hh.2 hl
theorem closed_alone (o : AObj) : o.closed.alone = false := by cases o <;> rfl

section
variable {ι : Nat → Loc} {σ : Nat → Nat} {n m : Nat}
theorem scP_into {v : Value} (h : scP (fun k => ι (σ k)) m v) (hs : ∀ k, k < m → σ k < n) : scP ι n (trP (at0 σ) v) := by
  cases v with
  | pointer a => cases a with
    | none => trivial
    | some a => exact ⟨hs _ h.1, h.2⟩
  | slice a l c => cases a with
    | none => trivial
    | some a => exact ⟨hs _ h.1, fun hf => h.2 hf⟩
  | map a => cases a with
    | none => trivial
    | some a => exact ⟨hs _ h.1, h.2⟩
  | agg c => exact h.elim
  | tuple c => exact h.elim
  | _ => trivial
theorem scS_into {v : Value} (h : scS (fun k => ι (σ k)) m v) (hs : ∀ k, k < m → σ k < n) : scS ι n (trS (at0 σ) v) := by
  cases v with
  | func f a c =>
    refine ⟨?_, fun x hx => ?_⟩
    · have h1 := h.1
      cases f with
      | yield l => exact ⟨hs _ h1.1, h1.2⟩
      | _ => trivial
    · simp only [Array.toList_map, List.mem_map] at hx
      obtain ⟨y, hy, rfl⟩ := hx
      exact scP_into (h.2 y hy) hs
  | pointer a => have := scP_into (ι := ι) (σ := σ) (n := n) (m := m) (v := .pointer a); cases a <;> exact this h hs
  | slice a l c => have := scP_into (ι := ι) (σ := σ) (n := n) (m := m) (v := .slice a l c); cases a <;> exact this h hs
  | map a => have := scP_into (ι := ι) (σ := σ) (n := n) (m := m) (v := .map a); cases a <;> exact this h hs
  | agg c => exact h.elim
  | tuple c => exact h.elim
  | _ => trivial
theorem scA_into {v : Value} (h : scA (fun k => ι (σ k)) m v) (hs : ∀ k, k < m → σ k < n) : scA ι n (trA (at0 σ) v) := by
  cases v with
  | agg cs =>
    intro x hx
    simp only [Array.toList_map, List.mem_map] at hx
    obtain ⟨y, hy, rfl⟩ := hx
    exact scS_into (h y hy) hs
  | pointer a => have := scS_into (ι := ι) (σ := σ) (n := n) (m := m) (v := .pointer a); cases a <;> exact this h hs
  | slice a l c => have := scS_into (ι := ι) (σ := σ) (n := n) (m := m) (v := .slice a l c); cases a <;> exact this h hs
  | map a => have := scS_into (ι := ι) (σ := σ) (n := n) (m := m) (v := .map a); cases a <;> exact this h hs
  | func f a c => exact scS_into (ι := ι) (σ := σ) (n := n) (m := m) (v := .func f a c) h hs
  | tuple c => exact h.elim
  | _ => trivial
theorem scT_into {v : Value} (h : scT (fun k => ι (σ k)) m v) (hs : ∀ k, k < m → σ k < n) : scT ι n (ren σ v) := by
  unfold ren
  cases v with
  | tuple cs =>
    intro x hx
    simp only [Array.toList_map, List.mem_map] at hx
    obtain ⟨y, hy, rfl⟩ := hx
    exact scA_into (h y hy) hs
  | pointer a => have := scA_into (ι := ι) (σ := σ) (n := n) (m := m) (v := .pointer a); cases a <;> exact this h hs
  | slice a l c => have := scA_into (ι := ι) (σ := σ) (n := n) (m := m) (v := .slice a l c); cases a <;> exact this h hs
  | map a => have := scA_into (ι := ι) (σ := σ) (n := n) (m := m) (v := .map a); cases a <;> exact this h hs
  | func f a c => exact scA_into (ι := ι) (σ := σ) (n := n) (m := m) (v := .func f a c) h hs
  | agg c => exact scA_into (ι := ι) (σ := σ) (n := n) (m := m) (v := .agg c) h hs
  | _ => trivial

theorem gS_sh {v : Value} (h : gS v = true) : gS (trS (at0 σ) v) = true := by rw [trS_g h]; exact h
end

/-- The outcome of a call reckoned apart, by the caller's names. -/
theorem ret_into {B nx n0 m : Nat} {w w' : World} {ι ι0 : Nat → Loc} {h h1 : Heap} {v1 : Value} {K Q : KE} {u : Value} (H : RelH ι B h nx w)
    (hQ : ∀ v h' nx', Q v h' nx' → ∃ ρ, RenOK 0 ρ [(0, v1)] h1 m [(0, v)] h' nx') (how : cellsH h1 = true) (hal : ownH h1 = true ∨ ∀ k o, look h k = some o → o.alone = false) (hK : K (ren (fun k => nx + k) v1) (app h (shH nx h1)) (nx + m))
    (hr : Ret w.heap.size w ι0 n0 Q (.returned u) w') : Ret B w ι nx K (.returned u) w' := by
  obtain ⟨v, h', nx', ι', q1, q2, q3, q4, q5, q6, q7⟩ := hr
  obtain ⟨ρ, r⟩ := hQ v h' nx' q1
  have hv : v = ren ρ v1 ∧ nmT m v1 := by
    obtain ⟨e1, e2⟩ := r.env 0 v1 rfl
    injection e1 with e1
    exact ⟨e1, e2⟩
  obtain ⟨rfl, hnm⟩ := hv
  obtain ⟨ιN, hloc, hold⟩ : ∃ ιN : Nat → Loc, (∀ j, ιN (nx + j) = ι' (ρ j)) ∧ ∀ k, k < nx → ιN k = ι k :=
    ⟨fun k => if k < nx then ι k else ι' (ρ (k - nx)), fun j => by
      have : ¬ (nx + j < nx) := by omega
      simp only [if_neg this, Nat.add_sub_cancel_left], fun k hk => if_pos hk⟩
  have hι : (fun k => ιN (nx + k)) = fun k => ι' (ρ k) := funext hloc
  have hsm : scT (fun k => ι' (ρ k)) m v1 := scT_ren q2 hnm
  have R1 := r.relH q3
  have H' : RelH ι B h nx w' := H.ext q4
  have hscn : scT ιN (nx + m) (ren (fun k => nx + k) v1) := by
    refine scT_into (m := m) ?_ (fun k hk => by omega)
    rw [hι]; exact hsm
  have hcase : ∀ k o, look (app h (shH nx h1)) k = some o → (look h k = some o ∧ k < nx) ∨ (∃ j wr g sz cs, k = nx + j ∧ look h1 j = some (.cells wr g sz cs) ∧ o = .cells wr g sz (cs.map (ren1 (fun k => nx + k)))) := by
    intro k o hk
    rw [look_app] at hk
    split at hk
    · rename_i o' ho
      injection hk with hk
      subst hk
      exact .inl ⟨ho, H.low k _ ho⟩
    · obtain ⟨j, o', e1, e2, e3⟩ := look_shH h1 hk
      obtain ⟨wr, g, sz, cs, rfl⟩ := cellsH_look how e2
      exact .inr ⟨j, wr, g, sz, cs, e1, e2, e3⟩
  refine ⟨ren (fun k => nx + k) v1, _, _, ιN, hK, hscn, ⟨?_, ?_, ?_, H'.size, ?_⟩, q4.mono H.size, hold, by omega, ?_⟩
  · intro k o hk
    rcases hcase k o hk with ⟨h2, h3⟩ | ⟨j, wr, g, sz, cs, rfl, h2, rfl⟩
    · rw [hold k h3]
      exact (H'.obj k o h2).names (H'.sc k o h2) hold
    · rw [hloc]
      have ho := R1.obj j _ h2
      have hsc := R1.sc j _ h2
      cases hl : ι' (ρ j) with
      | nil p =>
        rw [hl] at ho
        have : cs = [] := by cases wr <;> exact ho
        subst this
        cases wr <;> rfl
      | «at» b off e =>
        rw [hl] at ho
        have hcell : ∀ {Φ : Nat → Value → Prop}, (∀ (i : Nat) y, cs[i]? = some y → Φ i (trS (fun k => ι' (ρ k)) y)) → ∀ (i : Nat) v, (cs.map (ren1 (fun k => nx + k)))[i]? = some v → Φ i (trS ιN v) := by
          intro Φ hΦ i v hv
          rw [List.getElem?_map] at hv
          cases hy : cs[i]? with
          | none => rw [hy] at hv; cases hv
          | some y =>
            rw [hy] at hv
            injection hv with hv
            subst hv
            have hsy := hsc y (List.mem_of_getElem? hy)
            have hin : scS ιN (nx + m) (trS (at0 (fun k => nx + k)) y) := by
              refine scS_into (m := m) ?_ (fun k hk => by omega)
              rw [hι]; exact hsy
            have := hΦ i y hy
            rw [← hι, ← trS_ren hin] at this
            exact this
        have hgg : ∀ {b : Bool}, (b = true → allG cs = true) → b = true → allG (cs.map (ren1 (fun k => nx + k))) = true := fun h hg => allG_of fun v hv => by
          obtain ⟨y, hy, rfl⟩ := List.mem_map.1 hv
          exact gS_sh (allG_mem (h hg) hy)
        cases wr with
        | true =>
          obtain ⟨a1, a2, arr, t, a3, a4, a5⟩ := ho
          exact ⟨Nat.le_trans H.size a1, hgg a2, arr, t, a3, by simpa using a4, hcell (Φ := fun i v => arr[off + i]? = some v) a5⟩
        | false =>
          obtain ⟨a1, a2, a5⟩ := ho
          exact ⟨a1, hgg a2, hcell (Φ := fun i v => w'.cell? ⟨b, off + i, none⟩ = some v) a5⟩
  · intro k k' o o' hk hk' hne ha b hb
    rcases hcase k o hk with ⟨h2, h3⟩ | ⟨j, wr, g, sz, cs, rfl, h2, rfl⟩
    · rw [hold k h3] at hb
      rcases hcase k' o' hk' with ⟨h4, h5⟩ | ⟨j', wr', g', sz', cs', rfl, h4, rfl⟩
      · rw [hold k' h5]
        exact H'.sep k k' o o' h2 h4 hne ha b hb
      · rw [hloc]
        intro hb'
        have hlt := (H.obj k o h2).lt hb
        rcases hal with how2 | hal
        · obtain ⟨g2, sz2, cs2, e2⟩ := ownH_look how2 h4
          have ho := R1.obj j' _ h4
          cases hl : ι' (ρ j') with
          | nil p => rw [hl] at hb'; cases hb'
          | «at» b2 off e =>
            rw [hl] at hb'
            rw [hl, e2] at ho
            have : b2 = b := by simpa [Loc.blk] using hb'
            have := ho.1
            omega
        · rw [hal k o h2] at ha
          cases ha
    · rw [hloc] at hb
      rcases hcase k' o' hk' with ⟨h4, h5⟩ | ⟨j', wr', g', sz', cs', rfl, h4, rfl⟩
      · rw [hold k' h5]
        intro hb'
        have hlt := (H.obj k' o' h4).lt hb'
        have ho := R1.obj j _ h2
        cases hl : ι' (ρ j) with
        | nil p => rw [hl] at hb; cases hb
        | «at» b2 off e =>
          rw [hl] at ho hb
          have : b2 = b := by simpa [Loc.blk] using hb
          have hwr : wr = true := ha
          subst hwr
          have := ho.1
          omega
      · rw [hloc]
        exact R1.sep j j' _ _ h2 h4 (fun e => hne (by rw [e])) ha b hb
  · intro k o hk
    rcases hcase k o hk with ⟨h2, h3⟩ | ⟨j, wr, g, sz, cs, rfl, h2, rfl⟩
    · omega
    · have := R1.low j _ h2
      omega
  · intro k o hk
    rcases hcase k o hk with ⟨h2, h3⟩ | ⟨j, wr, g, sz, cs, rfl, h2, rfl⟩
    · exact (H'.sc k o h2).mono (by omega) hold
    · intro v hv
      obtain ⟨y, hy, rfl⟩ := List.mem_map.1 hv
      refine scS_into (m := m) ?_ (fun k hk => by omega)
      rw [hι]
      exact R1.sc j _ h2 y hy
  · rw [q7, tr_ren q2, tr_ren hscn, hι]

/-- How a caller's arguments lie in a heap of the call's own, read only. -/
def In (args0 : List Value) (h0 : Heap) (n0 : Nat) (args : List Value) (h : Heap) (nx : Nat) : Prop :=
  ∀ ι B w, RelH ι B h nx w → (∀ v ∈ args, scT ι nx v) → ∃ ι0, args.map (tr ι) = args0.map (tr ι0) ∧ (∀ v ∈ args0, scT ι0 n0 v) ∧ RelH ι0 w.heap.size h0 n0 w

/-- A contract: from what is given to what is yielded, in names of the call's own. -/
abbrev Sp := List Value → Heap → Nat → Value → Heap → Nat → Prop
/-- A caller's heap past a call: read only, if what the call yields may lie anywhere. -/
def past (h1 h : Heap) : Heap := match ownH h1 with | true => h | false => shutH h
def xOf (S : Sp) : List Value → Heap → Nat → KE → Prop := fun args h nx K =>
  ∃ args0 h0 n0 v1 h1 m, S args0 h0 n0 v1 h1 m ∧ In args0 h0 n0 args h nx ∧ K (ren (fun k => nx + k) v1) (app (past h1 h) (shH nx h1)) (nx + m)
/-- The outcome, up to names. -/
def Outc (v1 : Value) (h1 : Heap) (m : Nat) : KE := fun v h' nx' => ∃ ρ, RenOK 0 ρ [(0, v1)] h1 m [(0, v)] h' nx'

theorem xOf_ok {P : Program} {C : VC} {f : Nat} {S : Sp} (hC : CallsOK P C) (hS : ∀ args0 h0 n0 v1 h1 m, S args0 h0 n0 v1 h1 m → cellsH h1 = true ∧ ∃ Q : KE, C f args0 h0 n0 Q ∧ ∀ v h nx, Q v h nx → Outc v1 h1 m v h nx) : XOK P f (xOf S) := by
  refine ⟨fun args h nx K hx ι B w H hs => ?_, fun args h nx K hx => ?_⟩
  · obtain ⟨args0, h0, n0, v1, h1, m, s1, s2, s3⟩ := hx
    obtain ⟨how, Q, hc, hq⟩ := hS _ _ _ _ _ _ s1
    obtain ⟨ι0, e1, e2, e3⟩ := s2 ι B w H hs
    obtain ⟨c1, c2⟩ := hC f args0 h0 n0 _ hc ι0 w.heap.size w e3 e2
    refine ⟨c1, ?_⟩
    rw [e1]
    refine CallsIn.mono c2 fun e w' hr => ?_
    cases e with
    | returned u =>
      unfold past at s3
      cases ho : ownH h1 with
      | true => rw [ho] at s3; exact ret_into H (fun v h' nx' q => hq v h' nx' q) how (.inl ho) s3 hr
      | false =>
        rw [ho] at s3
        refine ret_into (H.shut.down H.size) (fun v h' nx' q => hq v h' nx' q) how (.inr fun k o hk => ?_) s3 hr
        rw [look_shutH] at hk
        cases hq : look h k with
        | none => rw [hq] at hk; cases hk
        | some q =>
          rw [hq] at hk
          injection hk with hk
          subst hk
          exact closed_alone q
    | _ => exact hr.elim
  · obtain ⟨args0, h0, n0, v1, h1, m, s1, s2, s3⟩ := hx
    exact ⟨_, _, _, s3, fun K' hk => ⟨args0, h0, n0, v1, h1, m, s1, s2, hk⟩⟩

theorem noLook {α : Type} {k : Nat} {o : α} {p : Prop} (h : look [] k = some o) : p := by cases h

/-- Values without addresses. -/
theorem Outc_g {v : Value} (hv : gT v = true) {h' : Heap} {nx' : Nat} : Outc v [] 0 v h' nx' :=
  ⟨id, ⟨fun t u hu => by
    rw [look_cons] at hu
    split at hu
    · rename_i hb
      injection hu with hu
      subst hu
      exact ⟨by rw [look_cons, hb]; show some v = some (ren id v); rw [ren, tr_g hv], scT_g hv⟩
    · exact noLook hu, fun k o hk => noLook hk, fun k k' o o' hk => noLook hk, fun k hk => rfl, Nat.le_refl _⟩⟩
theorem ren_g {σ : Nat → Nat} {v : Value} (hv : gT v = true) : ren σ v = v := tr_g hv

/-- Arguments without addresses. -/
theorem In_g {args : List Value} (hg : ∀ v ∈ args, gT v = true) {h : Heap} {nx : Nat} : In args [] 0 args h nx := by
  intro ι B w H hs
  refine ⟨ι, rfl, fun v hv => scT_g (hg v hv), ⟨fun k o hk => noLook hk, fun k k' o o' hk => noLook hk, fun k o hk => noLook hk, Nat.le_refl _, fun k o hk => noLook hk⟩⟩
end Go.Aw
