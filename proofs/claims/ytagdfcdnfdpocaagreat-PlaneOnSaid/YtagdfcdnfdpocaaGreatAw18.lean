/-
  Regions in any order: the plan, and what it warrants. No condition.
-/
import Derived.Test.YtagdfcdnfdpocaaGreatAw17
set_option linter.unusedSimpArgs false
set_option linter.unusedVariables false
noncomputable section
namespace Go.Aw
open Go.RowKit

/-- head: in whatever order, without an effect; allocs: new cells that nothing in the head looks at; tail: in this order, behind all that they need. -/
structure Plan where
  head : List Nat
  allocs : List Nat
  tail : List (Nat × Bool)

def memB (n : Nat) : List Nat → Bool
  | [] => false
  | x :: r => match Nat.beq x n with | true => true | false => memB n r
theorem memB_iff {n : Nat} {l : List Nat} : memB n l = true ↔ n ∈ l := by
  induction l with
  | nil => simp [memB]
  | cons x r ih =>
    simp only [memB]
    split
    · rename_i h; simp [(beq_true h).symm]
    · rename_i h
      have := beq_false h
      simp only [ih, List.mem_cons]
      exact ⟨.inr, fun h => h.resolve_left (fun e => this e.symm)⟩
def subB : List Nat → List Nat → Bool
  | [], _ => true
  | x :: r, l => match memB x l with | true => subB r l | false => false
theorem subB_spec {a l : List Nat} (h : subB a l = true) : ∀ x ∈ a, x ∈ l := by
  induction a with
  | nil => simp
  | cons x r ih =>
    simp only [subB] at h
    split at h
    · rename_i hx
      intro y hy
      rcases List.mem_cons.1 hy with rfl | hy
      · exact memB_iff.1 hx
      · exact ih h y hy
    · cases h
def nodupB : List Nat → Bool
  | [] => true
  | x :: r => match memB x r with | true => false | false => nodupB r
theorem nodupB_spec {l : List Nat} (h : nodupB l = true) : l.Nodup := by
  induction l with
  | nil => simp
  | cons x r ih =>
    simp only [nodupB] at h
    split at h
    · cases h
    · rename_i hx
      rw [List.nodup_cons]
      exact ⟨fun hm => (by rw [memB_iff.2 hm] at hx; cases hx), ih h⟩

def predsOf (o : Oper) : List Nat := o.after.toList.filterMap fun e => match Region.binds .any e with | true => some e.on | false => none
def predsAt (ops : List Oper) (i : Nat) : List Nat := match getL ops i with | some o => predsOf o | none => []
def dstAt (ops : List Oper) (i : Nat) : Option Nat := match getL ops i with | some o => o.dst | none => none
def lookAt (ops : Array Oper) (i : Nat) : List Nat := match getL ops.toList i with | some o => o.looksAt ops | none => []

/-- All that must have run ahead of it. -/
def clo (ops : List Oper) : Nat → List Nat → List Nat
  | 0, acc => acc
  | j + 1, acc => clo ops j (match memB j acc with | true => predsAt ops j ++ acc | false => acc)
def predsC (ops : List Oper) (t : Nat) : List Nat := clo ops t (predsAt ops t)
theorem clo_all {ops : List Oper} {L : Nat → Prop} (cl : ∀ i, L i → ∀ j ∈ predsAt ops i, L j) : ∀ (j : Nat) (acc : List Nat), (∀ x ∈ acc, L x) → ∀ x ∈ clo ops j acc, L x
  | 0, acc, h, x, hx => h x hx
  | j + 1, acc, h, x, hx => by
    refine clo_all cl j _ (fun y hy => ?_) x hx
    split at hy
    · rename_i hm
      rcases List.mem_append.1 hy with hy | hy
      · exact cl j (h j (memB_iff.1 hm)) y hy
      · exact h y hy
    · exact h y hy
theorem predsC_all {ops : List Oper} {L : Nat → Prop} (cl : ∀ i, L i → ∀ j ∈ predsAt ops i, L j) {t : Nat} (h : ∀ j ∈ predsAt ops t, L j) : ∀ j ∈ predsC ops t, L j := clo_all cl t _ h

def headOK (ops : List Oper) : List Nat → List Nat → Bool
  | _, [] => true
  | seen, i :: r => match subB (predsAt ops i) seen with | true => headOK ops (i :: seen) r | false => false
def kindB (f : Op → Bool) (ops : List Oper) (i : Nat) : Bool := match getL ops i with | some o => f o.op | none => false
def tailOK (ops : List Oper) (loads : List Nat) : Option Nat → List Nat → List (Nat × Bool) → Bool
  | _, _, [] => true
  | last, got, (t, chk) :: r =>
    (match last with | none => true | some l => memB l (predsC ops t)) && (chk || subB loads (predsC ops t ++ got)) && tailOK ops loads (some t) (predsC ops t ++ got) r
def isAlloc (o : Oper) : Bool := match o with | { op := .alloc _, guard := none, dst := some _, .. } => true | _ => false
def isPlain : Op → Bool
  | .select _ _ => false
  | .defer _ => false
  | _ => true

def Plan.order (p : Plan) : List Nat := p.head ++ p.allocs ++ p.tail.map (·.1)
def planOK (ops : Array Oper) (p : Plan) : Bool :=
  let l := ops.toList
  let n := List.range ops.size
  nodupB p.order && n.all (fun i => memB i p.order) && p.order.all (fun i => Nat.blt i ops.size) && headOK l [] p.head &&
  n.all (fun i => (predsAt l i).all fun j => Nat.blt j i) &&
  n.all (fun i => n.all fun j => Nat.beq i j || (match dstAt l i, dstAt l j with | some d, some e => !Nat.beq d e | _, _ => true)) &&
  (p.head ++ p.allocs).all (fun i => n.all fun j => Nat.beq j i || (match dstAt l i with | some d => !memB d (lookAt ops j) || memB i (predsAt l j) | none => true)) &&
  p.tail.all (fun t => p.head.all fun j => match dstAt l t.1 with | some d => !memB d (lookAt ops j) || memB j (predsAt l t.1) | none => true) &&
  n.all (fun i => kindB isPlain l i) &&
  p.allocs.all (fun i => match getL l i with | some o => isAlloc o | none => false) &&
  (match p.tail with
   | [] => p.allocs.isEmpty
   | (t, _) :: _ => subB p.allocs (predsC l t) && subB (p.head.filter (kindB isStrong l)) (predsC l t)) &&
  tailOK l (p.head.filter (fun i => !kindB isPure l i)) none [] p.tail

structure PlanOK (ops : Array Oper) (p : Plan) : Prop where
  nodup : p.order.Nodup
  cover : ∀ i, i < ops.size → i ∈ p.order
  inb : ∀ i ∈ p.order, i < ops.size
  headP : headOK ops.toList [] p.head = true
  lin : ∀ i, i < ops.size → ∀ j ∈ predsAt ops.toList i, j < i
  dsts : ∀ i j d, i < ops.size → j < ops.size → dstAt ops.toList i = some d → dstAt ops.toList j = some d → i = j
  look1 : ∀ i, i ∈ p.head ∨ i ∈ p.allocs → ∀ j, j < ops.size → j ≠ i → ∀ d, dstAt ops.toList i = some d → d ∈ lookAt ops j → i ∈ predsAt ops.toList j
  look2 : ∀ t c, (t, c) ∈ p.tail → ∀ j ∈ p.head, ∀ d, dstAt ops.toList t = some d → d ∈ lookAt ops j → j ∈ predsAt ops.toList t
  plain : ∀ i, i < ops.size → kindB isPlain ops.toList i = true
  allocs : ∀ i ∈ p.allocs, ∃ o, ops[i]? = some o ∧ isAlloc o = true
  noTail : p.tail = [] → p.allocs = []
  first : ∀ t c r, p.tail = (t, c) :: r → (∀ i ∈ p.allocs, i ∈ predsC ops.toList t) ∧ (∀ i ∈ p.head, kindB isStrong ops.toList i = true → i ∈ predsC ops.toList t)
  tailP : tailOK ops.toList (p.head.filter (fun i => !kindB isPure ops.toList i)) none [] p.tail = true

theorem blt_true {a b : Nat} (h : Nat.blt a b = true) : a < b := Nat.le_of_ble_eq_true h

theorem planOK_spec {ops : Array Oper} {p : Plan} (h : planOK ops p = true) : PlanOK ops p := by
  unfold planOK at h
  simp only [Bool.and_eq_true] at h
  obtain ⟨⟨⟨⟨⟨⟨⟨⟨⟨⟨⟨h1, h2⟩, h3⟩, h4⟩, h5⟩, h6⟩, h7⟩, h8⟩, h9⟩, h10⟩, h11⟩, h12⟩ := h
  simp only [List.all_eq_true, List.mem_range] at h2 h3 h5 h6 h7 h8 h9 h10
  refine ⟨nodupB_spec h1, fun i hi => memB_iff.1 (h2 i hi), fun i hi => blt_true (h3 i hi), h4, fun i hi j hj => blt_true (h5 i hi j hj), ?_, ?_, ?_, h9, ?_, ?_, ?_, h12⟩
  · intro i j d hi hj h1 h2
    have := h6 i hi j hj
    rw [h1, h2] at this
    simp only [Bool.or_eq_true, Bool.not_eq_true'] at this
    rcases this with h | h
    · exact beq_true h
    · exact absurd rfl (beq_false h)
  · intro i hi j hj hne d hd hl
    have := h7 i (by simpa using hi) j hj
    rw [hd] at this
    simp only [Bool.or_eq_true, Bool.not_eq_true'] at this
    rcases this with h | h | h
    · exact absurd (beq_true h) hne
    · rw [memB_iff.2 hl] at h; cases h
    · exact memB_iff.1 h
  · intro t c ht j hj d hd hl
    have := h8 (t, c) ht j hj
    simp only [hd, Bool.or_eq_true, Bool.not_eq_true'] at this
    rcases this with h | h
    · rw [memB_iff.2 hl] at h; cases h
    · exact memB_iff.1 h
  · intro i hi
    have := h10 i hi
    split at this
    · rename_i o ho
      rw [getL_eq] at ho
      exact ⟨o, by simpa using ho, this⟩
    · cases this
  · intro ht
    rw [ht] at h11
    simpa using h11
  · intro t c r ht
    rw [ht] at h11
    simp only [Bool.and_eq_true] at h11
    exact ⟨subB_spec h11.1, fun i hi hk => subB_spec h11.2 i (List.mem_filter.2 ⟨hi, hk⟩)⟩

theorem headOK_spec {ops : List Oper} : ∀ {seen l : List Nat}, headOK ops seen l = true → ∀ pre i post, l = pre ++ i :: post → ∀ j ∈ predsAt ops i, j ∈ seen ∨ j ∈ pre
  | seen, [], _, pre, i, post, e, _, _ => by simp at e
  | seen, x :: r, h, pre, i, post, e, j, hj => by
    simp only [headOK] at h
    split at h
    case h_2 => cases h
    rename_i hs
    cases pre with
    | nil =>
      simp only [List.nil_append, List.cons.injEq] at e
      obtain ⟨rfl, rfl⟩ := e
      exact .inl (subB_spec hs j hj)
    | cons y pre =>
      simp only [List.cons_append, List.cons.injEq] at e
      obtain ⟨rfl, rfl⟩ := e
      rcases headOK_spec h pre i post rfl j hj with h | h
      · rcases List.mem_cons.1 h with rfl | h
        · exact .inr (by simp)
        · exact .inl h
      · exact .inr (by simp [h])

/-! ### the evaluation -/
def vhead (A : Ar) (T : Tab) (C : VC) (tn : Nat) (ops : List Oper) (hJ : Heap) (nx : Nat) (l : List Nat) : List (Nat × Value) → (List (Nat × Value) → Prop) → Prop :=
  @List.rec Nat (fun _ => List (Nat × Value) → (List (Nat × Value) → Prop) → Prop) (fun env K => K env)
    (fun i _ ih env K => match getL ops i with
    | none => False
    | some o => vguard A ops env o.guard
      (fun env => vquiet A T C hJ nx env o.op fun v => vput tn env o.dst v fun env => ih env K)
      (fun env => vput tn env o.dst undef fun env => ih env K)) l
theorem vhead_cons {A : Ar} {T : Tab} {C : VC} {tn : Nat} {ops : List Oper} {hJ : Heap} {nx i : Nat} {r : List Nat} {env : List (Nat × Value)} {K : List (Nat × Value) → Prop} : vhead A T C tn ops hJ nx (i :: r) env K = match getL ops i with
    | none => False
    | some o => vguard A ops env o.guard
      (fun env => vquiet A T C hJ nx env o.op fun v => vput tn env o.dst v fun env => vhead A T C tn ops hJ nx r env K)
      (fun env => vput tn env o.dst undef fun env => vhead A T C tn ops hJ nx r env K) := rfl

def vallocs (T : Tab) (tn : Nat) (ops : List Oper) (l : List Nat) : List (Nat × Value) → Heap → Nat → KS → Prop :=
  @List.rec Nat (fun _ => List (Nat × Value) → Heap → Nat → KS → Prop) (fun env h nx K => K env h nx)
    (fun i _ ih env h nx K => match getL ops i with
    | some { op := .alloc t, dst := some d, .. } => (match look T t with
      | some ti => vput tn env (some d) (.pointer (some ⟨nx, 0, none⟩)) fun env => ih env (upd h nx (.cells true false 1 ti.zv.cells.toList)) (nx + 1) K
      | none => False)
    | _ => False) l
theorem vallocs_cons {T : Tab} {tn : Nat} {ops : List Oper} {i : Nat} {r : List Nat} {env : List (Nat × Value)} {h : Heap} {nx : Nat} {K : KS} : vallocs T tn ops (i :: r) env h nx K = match getL ops i with
    | some { op := .alloc t, dst := some d, .. } => (match look T t with
      | some ti => vput tn env (some d) (.pointer (some ⟨nx, 0, none⟩)) fun env => vallocs T tn ops r env (upd h nx (.cells true false 1 ti.zv.cells.toList)) (nx + 1) K
      | none => False)
    | _ => False := rfl

/-- A store that may run ahead of some loads must not write where they look. -/
def asideOK (env : List (Nat × Value)) (hJ : Heap) (chk : Bool) (op : Op) : Bool :=
  match chk with
  | false => true
  | true => match op with
    | .store _ x _ => (match opv env x with
      | some (.pointer (some ad)) => (match look hJ ad.block with | none => true | some _ => false)
      | _ => false)
    | _ => false

def vtail (A : Ar) (T : Tab) (C : VC) (Y : VY) (tn : Nat) (ops : List Oper) (hJ : Heap) (l : List (Nat × Bool)) : List (Nat × Value) → Heap → Nat → KS → Prop :=
  @List.rec (Nat × Bool) (fun _ => List (Nat × Value) → Heap → Nat → KS → Prop) (fun env h nx K => K env h nx)
    (fun p _ ih env h nx K => match getL ops p.1 with
    | none => False
    | some o => vguard A ops env o.guard
      (fun env => must (asideOK env hJ p.2 o.op) (vop A T C Y env h nx o.op fun v h' nx' => vput tn env o.dst v fun env' => ih env' h' nx' K))
      (fun env => vput tn env o.dst undef fun env' => ih env' h nx K)) l
theorem vtail_cons {A : Ar} {T : Tab} {C : VC} {Y : VY} {tn : Nat} {ops : List Oper} {hJ : Heap} {i : Nat} {chk : Bool} {r : List (Nat × Bool)} {env : List (Nat × Value)} {h : Heap} {nx : Nat} {K : KS} : vtail A T C Y tn ops hJ ((i, chk) :: r) env h nx K = match getL ops i with
    | none => False
    | some o => vguard A ops env o.guard
      (fun env => must (asideOK env hJ chk o.op) (vop A T C Y env h nx o.op fun v h' nx' => vput tn env o.dst v fun env' => vtail A T C Y tn ops hJ r env' h' nx' K))
      (fun env => vput tn env o.dst undef fun env' => vtail A T C Y tn ops hJ r env' h nx K) := rfl

def asideHeap (ops : List Oper) (env : List (Nat × Value)) : List (Nat × Bool) → Heap → Heap
  | [], h => h
  | (i, chk) :: r, h => match chk, getL ops i with
    | true, some { op := .store _ x _, .. } => (match opv env x with
      | some (.pointer (some ad)) => asideHeap ops env r (rem h ad.block)
      | _ => asideHeap ops env r h)
    | _, _ => asideHeap ops env r h

def vregion (A : Ar) (T : Tab) (C : VC) (Y : VY) (tn : Nat) (ops : List Oper) (p : Plan) (env : List (Nat × Value)) (h : Heap) (nx : Nat) (K : KS) : Prop :=
  vhead A T C tn ops (asideHeap ops env p.tail h) nx p.head env fun env1 =>
    vallocs T tn ops p.allocs env1 h nx fun env2 h2 nx2 =>
      vtail A T C Y tn ops (asideHeap ops env p.tail h) p.tail env2 h2 nx2 K

theorem asideHeap_sub {ops : List Oper} {env : List (Nat × Value)} : ∀ {l : List (Nat × Bool)} {h : Heap} {k : Nat} {o : AObj}, look (asideHeap ops env l h) k = some o → look h k = some o
  | [], h, k, o, hk => hk
  | (i, chk) :: r, h, k, o, hk => by
    unfold asideHeap at hk
    split at hk
    · split at hk
      · have := asideHeap_sub hk
        rw [look_rem] at this
        split at this
        · cases this
        · exact this
      · exact asideHeap_sub hk
    · exact asideHeap_sub hk
end Go.Aw
