/-
  Parts of the proof, put together. No condition.
-/
import Derived.Test.YtmkcjbpekejgdaaGreatAwB
/-
  Regions in any order: the plan, and what it warrants. No condition.
-/
set_option linter.unusedSimpArgs false
set_option linter.unusedVariables false
noncomputable section
namespace Go.Aw
open Go.RowKit

/-- head: in whatever order, without an effect; allocs: new cells that nothing in the head looks at; tail: in this order, behind all that they need. -/
structure Plan where
  head : List Nat
  allocs : List Nat
  tail : List (Nat × Bool)

def memB (n : Nat) : List Nat → Bool
  | [] => false
  | x :: r => match Nat.beq x n with | true => true | false => memB n r
theorem memB_iff {n : Nat} {l : List Nat} : memB n l = true ↔ n ∈ l := by
  induction l with
  | nil => simp [memB]
  | cons x r ih =>
    simp only [memB]
    split
    · rename_i h; simp [(beq_true h).symm]
    · rename_i h
      have := beq_false h
      simp only [ih, List.mem_cons]
      exact ⟨.inr, fun h => h.resolve_left (fun e => this e.symm)⟩
def subB : List Nat → List Nat → Bool
  | [], _ => true
  | x :: r, l => match memB x l with | true => subB r l | false => false
theorem subB_spec {a l : List Nat} (h : subB a l = true) : ∀ x ∈ a, x ∈ l := by
  induction a with
  | nil => simp
  | cons x r ih =>
    simp only [subB] at h
    split at h
    · rename_i hx
      intro y hy
      rcases List.mem_cons.1 hy with rfl | hy
      · exact memB_iff.1 hx
      · exact ih h y hy
    · cases h
def nodupB : List Nat → Bool
  | [] => true
  | x :: r => match memB x r with | true => false | false => nodupB r
theorem nodupB_spec {l : List Nat} (h : nodupB l = true) : l.Nodup := by
  induction l with
  | nil => simp
  | cons x r ih =>
    simp only [nodupB] at h
    split at h
    · cases h
    · rename_i hx
      rw [List.nodup_cons]
      exact ⟨fun hm => (by rw [memB_iff.2 hm] at hx; cases hx), ih h⟩

def predsOf (o : Oper) : List Nat := o.after.toList.filterMap fun e => match Region.binds .any e with | true => some e.on | false => none
def predsAt (ops : List Oper) (i : Nat) : List Nat := match getL ops i with | some o => predsOf o | none => []
def dstAt (ops : List Oper) (i : Nat) : Option Nat := match getL ops i with | some o => o.dst | none => none
def lookAt (ops : Array Oper) (i : Nat) : List Nat := match getL ops.toList i with | some o => o.looksAt ops | none => []

/-- All that must have run ahead of it. -/
def clo (ops : List Oper) : Nat → List Nat → List Nat
  | 0, acc => acc
  | j + 1, acc => clo ops j (match memB j acc with | true => predsAt ops j ++ acc | false => acc)
def predsC (ops : List Oper) (t : Nat) : List Nat := clo ops t (predsAt ops t)
theorem clo_all {ops : List Oper} {L : Nat → Prop} (cl : ∀ i, L i → ∀ j ∈ predsAt ops i, L j) : ∀ (j : Nat) (acc : List Nat), (∀ x ∈ acc, L x) → ∀ x ∈ clo ops j acc, L x
  | 0, acc, h, x, hx => h x hx
  | j + 1, acc, h, x, hx => by
    refine clo_all cl j _ (fun y hy => ?_) x hx
    split at hy
    · rename_i hm
      rcases List.mem_append.1 hy with hy | hy
      · exact cl j (h j (memB_iff.1 hm)) y hy
      · exact h y hy
    · exact h y hy
theorem predsC_all {ops : List Oper} {L : Nat → Prop} (cl : ∀ i, L i → ∀ j ∈ predsAt ops i, L j) {t : Nat} (h : ∀ j ∈ predsAt ops t, L j) : ∀ j ∈ predsC ops t, L j := clo_all cl t _ h

def headOK (ops : List Oper) : List Nat → List Nat → Bool
  | _, [] => true
  | seen, i :: r => match subB (predsAt ops i) seen with | true => headOK ops (i :: seen) r | false => false
def kindB (f : Op → Bool) (ops : List Oper) (i : Nat) : Bool := match getL ops i with | some o => f o.op | none => false
def tailOK (ops : List Oper) (loads : List Nat) : Option Nat → List Nat → List (Nat × Bool) → Bool
  | _, _, [] => true
  | last, got, (t, chk) :: r =>
    (match last with | none => true | some l => memB l (predsC ops t)) && (chk || subB loads (predsC ops t ++ got)) && tailOK ops loads (some t) (predsC ops t ++ got) r
def isAlloc (o : Oper) : Bool := match o with | { op := .alloc _, guard := none, dst := some _, .. } => true | _ => false
def isPlain : Op → Bool
  | .select _ _ => false
  | .defer _ => false
  | _ => true

def Plan.order (p : Plan) : List Nat := p.head ++ p.allocs ++ p.tail.map (·.1)
def planOK (ops : Array Oper) (p : Plan) : Bool :=
  let l := ops.toList
  let n := List.range ops.size
  nodupB p.order && n.all (fun i => memB i p.order) && p.order.all (fun i => Nat.blt i ops.size) && headOK l [] p.head &&
  n.all (fun i => (predsAt l i).all fun j => Nat.blt j i) &&
  n.all (fun i => n.all fun j => Nat.beq i j || (match dstAt l i, dstAt l j with | some d, some e => !Nat.beq d e | _, _ => true)) &&
  (p.head ++ p.allocs).all (fun i => n.all fun j => Nat.beq j i || (match dstAt l i with | some d => !memB d (lookAt ops j) || memB i (predsAt l j) | none => true)) &&
  p.tail.all (fun t => p.head.all fun j => match dstAt l t.1 with | some d => !memB d (lookAt ops j) || memB j (predsAt l t.1) | none => true) &&
  n.all (fun i => kindB isPlain l i) &&
  p.allocs.all (fun i => match getL l i with | some o => isAlloc o | none => false) &&
  (match p.tail with
   | [] => p.allocs.isEmpty
   | (t, _) :: _ => subB p.allocs (predsC l t) && subB (p.head.filter (kindB isStrong l)) (predsC l t)) &&
  tailOK l (p.head.filter (fun i => !kindB isPure l i)) none [] p.tail

structure PlanOK (ops : Array Oper) (p : Plan) : Prop where
  nodup : p.order.Nodup
  cover : ∀ i, i < ops.size → i ∈ p.order
  inb : ∀ i ∈ p.order, i < ops.size
  headP : headOK ops.toList [] p.head = true
  lin : ∀ i, i < ops.size → ∀ j ∈ predsAt ops.toList i, j < i
  dsts : ∀ i j d, i < ops.size → j < ops.size → dstAt ops.toList i = some d → dstAt ops.toList j = some d → i = j
  look1 : ∀ i, i ∈ p.head ∨ i ∈ p.allocs → ∀ j, j < ops.size → j ≠ i → ∀ d, dstAt ops.toList i = some d → d ∈ lookAt ops j → i ∈ predsAt ops.toList j
  look2 : ∀ t c, (t, c) ∈ p.tail → ∀ j ∈ p.head, ∀ d, dstAt ops.toList t = some d → d ∈ lookAt ops j → j ∈ predsAt ops.toList t
  plain : ∀ i, i < ops.size → kindB isPlain ops.toList i = true
  allocs : ∀ i ∈ p.allocs, ∃ o, ops[i]? = some o ∧ isAlloc o = true
  noTail : p.tail = [] → p.allocs = []
  first : ∀ t c r, p.tail = (t, c) :: r → (∀ i ∈ p.allocs, i ∈ predsC ops.toList t) ∧ (∀ i ∈ p.head, kindB isStrong ops.toList i = true → i ∈ predsC ops.toList t)
  tailP : tailOK ops.toList (p.head.filter (fun i => !kindB isPure ops.toList i)) none [] p.tail = true

theorem blt_true {a b : Nat} (h : Nat.blt a b = true) : a < b := Nat.le_of_ble_eq_true h

theorem planOK_spec {ops : Array Oper} {p : Plan} (h : planOK ops p = true) : PlanOK ops p := by
  unfold planOK at h
  simp only [Bool.and_eq_true] at h
  obtain ⟨⟨⟨⟨⟨⟨⟨⟨⟨⟨⟨h1, h2⟩, h3⟩, h4⟩, h5⟩, h6⟩, h7⟩, h8⟩, h9⟩, h10⟩, h11⟩, h12⟩ := h
  simp only [List.all_eq_true, List.mem_range] at h2 h3 h5 h6 h7 h8 h9 h10
  refine ⟨nodupB_spec h1, fun i hi => memB_iff.1 (h2 i hi), fun i hi => blt_true (h3 i hi), h4, fun i hi j hj => blt_true (h5 i hi j hj), ?_, ?_, ?_, h9, ?_, ?_, ?_, h12⟩
  · intro i j d hi hj h1 h2
    have := h6 i hi j hj
    rw [h1, h2] at this
    simp only [Bool.or_eq_true, Bool.not_eq_true'] at this
    rcases this with h | h
    · exact beq_true h
    · exact absurd rfl (beq_false h)
  · intro i hi j hj hne d hd hl
    have := h7 i (by simpa using hi) j hj
    rw [hd] at this
    simp only [Bool.or_eq_true, Bool.not_eq_true'] at this
    rcases this with h | h | h
    · exact absurd (beq_true h) hne
    · rw [memB_iff.2 hl] at h; cases h
    · exact memB_iff.1 h
  · intro t c ht j hj d hd hl
    have := h8 (t, c) ht j hj
    simp only [hd, Bool.or_eq_true, Bool.not_eq_true'] at this
    rcases this with h | h
    · rw [memB_iff.2 hl] at h; cases h
    · exact memB_iff.1 h
  · intro i hi
    have := h10 i hi
    split at this
    · rename_i o ho
      rw [getL_eq] at ho
      exact ⟨o, by simpa using ho, this⟩
    · cases this
  · intro ht
    rw [ht] at h11
    simpa using h11
  · intro t c r ht
    rw [ht] at h11
    simp only [Bool.and_eq_true] at h11
    exact ⟨subB_spec h11.1, fun i hi hk => subB_spec h11.2 i (List.mem_filter.2 ⟨hi, hk⟩)⟩

theorem headOK_spec {ops : List Oper} : ∀ {seen l : List Nat}, headOK ops seen l = true → ∀ pre i post, l = pre ++ i :: post → ∀ j ∈ predsAt ops i, j ∈ seen ∨ j ∈ pre
  | seen, [], _, pre, i, post, e, _, _ => by simp at e
  | seen, x :: r, h, pre, i, post, e, j, hj => by
    simp only [headOK] at h
    split at h
    case h_2 => cases h
    rename_i hs
    cases pre with
    | nil =>
      simp only [List.nil_append, List.cons.injEq] at e
      obtain ⟨rfl, rfl⟩ := e
      exact .inl (subB_spec hs j hj)
    | cons y pre =>
      simp only [List.cons_append, List.cons.injEq] at e
      obtain ⟨rfl, rfl⟩ := e
      rcases headOK_spec h pre i post rfl j hj with h | h
      · rcases List.mem_cons.1 h with rfl | h
        · exact .inr (by simp)
        · exact .inl h
      · exact .inr (by simp [h])

/-! ### the evaluation -/
def vhead (A : Ar) (T : Tab) (C : VC) (tn : Nat) (ops : List Oper) (hJ : Heap) (l : List Nat) : List (Nat × Value) → Nat → (List (Nat × Value) → Nat → Prop) → Prop :=
  @List.rec Nat (fun _ => List (Nat × Value) → Nat → (List (Nat × Value) → Nat → Prop) → Prop) (fun env nx K => K env nx)
    (fun i _ ih env nx K => match getL ops i with
    | none => False
    | some o => vguard A ops env o.guard
      (fun env => vquiet A T C hJ nx env o.op fun v nx' => vput tn env o.dst v fun env => ih env nx' K)
      (fun env => vput tn env o.dst undef fun env => ih env nx K)) l
theorem vhead_cons {A : Ar} {T : Tab} {C : VC} {tn : Nat} {ops : List Oper} {hJ : Heap} {nx i : Nat} {r : List Nat} {env : List (Nat × Value)} {K : List (Nat × Value) → Nat → Prop} : vhead A T C tn ops hJ (i :: r) env nx K = match getL ops i with
    | none => False
    | some o => vguard A ops env o.guard
      (fun env => vquiet A T C hJ nx env o.op fun v nx' => vput tn env o.dst v fun env => vhead A T C tn ops hJ r env nx' K)
      (fun env => vput tn env o.dst undef fun env => vhead A T C tn ops hJ r env nx K) := rfl

def vallocs (T : Tab) (tn : Nat) (ops : List Oper) (l : List Nat) : List (Nat × Value) → Heap → Nat → KS → Prop :=
  @List.rec Nat (fun _ => List (Nat × Value) → Heap → Nat → KS → Prop) (fun env h nx K => K env h nx)
    (fun i _ ih env h nx K => match getL ops i with
    | some { op := .alloc t, dst := some d, .. } => (match look T t with
      | some ti => vput tn env (some d) (.pointer (some ⟨nx, 0, none⟩)) fun env => ih env (upd h nx (.cells true false 1 ti.zv.cells.toList)) (nx + 1) K
      | none => False)
    | _ => False) l
theorem vallocs_cons {T : Tab} {tn : Nat} {ops : List Oper} {i : Nat} {r : List Nat} {env : List (Nat × Value)} {h : Heap} {nx : Nat} {K : KS} : vallocs T tn ops (i :: r) env h nx K = match getL ops i with
    | some { op := .alloc t, dst := some d, .. } => (match look T t with
      | some ti => vput tn env (some d) (.pointer (some ⟨nx, 0, none⟩)) fun env => vallocs T tn ops r env (upd h nx (.cells true false 1 ti.zv.cells.toList)) (nx + 1) K
      | none => False)
    | _ => False := rfl

/-- A store that may run ahead of some loads must not write where they look. -/
def asideOK (env : List (Nat × Value)) (hJ : Heap) (chk : Bool) (op : Op) : Bool :=
  match chk with
  | false => true
  | true => match op with
    | .store _ x _ => (match opv env x with
      | some (.pointer (some ad)) => (match look hJ ad.block with | none => true | some _ => false)
      | _ => false)
    | .load _ _ => true
    | .buildSlice _ _ _ => true
    | .call c => (match c.callee with
      | .builtin .append => (match vargs env c.args.toList with
        | some [s, _] => (match s with
          | .slice none 0 0 => true
          | .slice (some ad) _ _ => (match look hJ ad.block with | none => true | some _ => false)
          | _ => false)
        | _ => false)
      | _ => false)
    | _ => false

def vtail (A : Ar) (T : Tab) (C : VC) (Y : VY) (tn : Nat) (ops : List Oper) (hJ : Heap) (l : List (Nat × Bool)) : List (Nat × Value) → Heap → Nat → KS → Prop :=
  @List.rec (Nat × Bool) (fun _ => List (Nat × Value) → Heap → Nat → KS → Prop) (fun env h nx K => K env h nx)
    (fun p _ ih env h nx K => match getL ops p.1 with
    | none => False
    | some o => vguard A ops env o.guard
      (fun env => must (asideOK env hJ p.2 o.op) (vop A T C Y env h nx o.op fun v h' nx' => vput tn env o.dst v fun env' => ih env' h' nx' K))
      (fun env => vput tn env o.dst undef fun env' => ih env' h nx K)) l
theorem vtail_cons {A : Ar} {T : Tab} {C : VC} {Y : VY} {tn : Nat} {ops : List Oper} {hJ : Heap} {i : Nat} {chk : Bool} {r : List (Nat × Bool)} {env : List (Nat × Value)} {h : Heap} {nx : Nat} {K : KS} : vtail A T C Y tn ops hJ ((i, chk) :: r) env h nx K = match getL ops i with
    | none => False
    | some o => vguard A ops env o.guard
      (fun env => must (asideOK env hJ chk o.op) (vop A T C Y env h nx o.op fun v h' nx' => vput tn env o.dst v fun env' => vtail A T C Y tn ops hJ r env' h' nx' K))
      (fun env => vput tn env o.dst undef fun env' => vtail A T C Y tn ops hJ r env' h nx K) := rfl

def asideMove (env : List (Nat × Value)) (t : Nat) : List Oper → Option Value
  | [] => none
  | o :: r => match o.dst, o.op with
    | some d, .move y => (match Nat.beq d t with | true => opv env y | false => asideMove env t r)
    | _, _ => asideMove env t r
def asideSrc (ops : List Oper) (env : List (Nat × Value)) (s : Operand) : Option Value := match opv env s with
  | some v => some v
  | none => (match s with | .tmp t => asideMove env t ops | _ => none)
def asideHeap (ops : List Oper) (env : List (Nat × Value)) : List (Nat × Bool) → Heap → Heap
  | [], h => h
  | (i, chk) :: r, h => match chk, getL ops i with
    | true, some { op := .store _ x _, .. } => (match opv env x with
      | some (.pointer (some ad)) => asideHeap ops env r (rem h ad.block)
      | _ => asideHeap ops env r h)
    | true, some { op := .call c, .. } => (match c.callee, c.args.toList with
      | .builtin .append, s :: _ => (match asideSrc ops env s with
        | some (.slice (some ad) _ _) => asideHeap ops env r (rem h ad.block)
        | _ => asideHeap ops env r h)
      | _, _ => asideHeap ops env r h)
    | _, _ => asideHeap ops env r h

def vregion (A : Ar) (T : Tab) (C : VC) (Y : VY) (tn : Nat) (ops : List Oper) (p : Plan) (env : List (Nat × Value)) (h : Heap) (nx : Nat) (K : KS) : Prop :=
  vhead A T C tn ops (asideHeap ops env p.tail h) p.head env nx fun env1 nx1 =>
    vallocs T tn ops p.allocs env1 h nx1 fun env2 h2 nx2 =>
      vtail A T C Y tn ops (asideHeap ops env p.tail h) p.tail env2 h2 nx2 K

theorem rem_sub {h : Heap} {j k : Nat} {o : AObj} (hk : look (rem h j) k = some o) : look h k = some o := by
  rw [look_rem] at hk
  split at hk
  · cases hk
  · exact hk
theorem asideHeap_sub {ops : List Oper} {env : List (Nat × Value)} : ∀ {l : List (Nat × Bool)} {h : Heap} {k : Nat} {o : AObj}, look (asideHeap ops env l h) k = some o → look h k = some o
  | [], h, k, o, hk => hk
  | (i, chk) :: r, h, k, o, hk => by
    unfold asideHeap at hk
    split at hk
    · split at hk
      · exact rem_sub (asideHeap_sub hk)
      · exact asideHeap_sub hk
    · split at hk
      · split at hk
        · exact rem_sub (asideHeap_sub hk)
        · exact asideHeap_sub hk
      · exact asideHeap_sub hk
    · exact asideHeap_sub hk
end Go.Aw
end

/-
  Regions in any order: temporaries. No condition.
-/
set_option linter.unusedSimpArgs false
set_option linter.unusedVariables false
noncomputable section
namespace Go.Aw
open Go.RowKit

section
variable {P : Program} {T : Tab} {C : VC} {Y : VY} {ops : Array Oper} {p : Plan}

theorem same_of_look {o : Oper} (hs : ∀ cs b, o.op ≠ .select cs b) {a a' : Act} (h : ∀ t ∈ o.looksAt ops, a.tmps[t]? = a'.tmps[t]?) :
    execOp a.eval o = execOp a'.eval o ∧ Region.wanted o (yielded ops a.tmps) = Region.wanted o (yielded ops a'.tmps) := by
  refine ⟨execOp_congr o hs fun x hx => ?_, ?_⟩
  · cases x with
    | tmp t =>
      have := h t (List.mem_append_left _ (List.mem_filterMap.2 ⟨.tmp t, by simpa using hx, rfl⟩))
      simp [Act.eval, this]
    | _ => rfl
  · unfold Region.wanted
    cases hg : o.guard with
    | none => rfl
    | some gw =>
      obtain ⟨g, want⟩ := gw
      have : yielded ops a.tmps g = yielded ops a'.tmps g := by
        unfold yielded
        cases ht : (ops[g]?).bind (·.dst) with
        | none => rfl
        | some t =>
          have := h t (List.mem_append_right _ (by simp [hg, ht]))
          simp [this]
      simp only [this]

theorem put_get (a : Act) (dst : Option Nat) (v : Value) (t : Nat) : (a.put dst v).tmps[t]? = if dst = some t ∧ t < a.tmps.size then some v else a.tmps[t]? := by
  cases dst with
  | none => simp [Act.put]
  | some d =>
    by_cases h : d = t
    · subst h
      by_cases hl : d < a.tmps.size
      · rw [if_pos ⟨rfl, hl⟩]; simp [Act.put, Array.getElem?_setIfInBounds_self_of_lt hl]
      · rw [if_neg (fun e => hl e.2)]
        simp [Act.put, Array.getElem?_setIfInBounds, hl]
    · rw [if_neg (fun e => h (Option.some.inj e.1))]
      simp only [Act.put]
      exact Array.getElem?_setIfInBounds_ne h
theorem put_get_ne {a : Act} {dst : Option Nat} {v : Value} {t : Nat} (h : dst ≠ some t) : (a.put dst v).tmps[t]? = a.tmps[t]? := by
  rw [put_get, if_neg (fun e => h e.1)]
theorem put_get_eq {a : Act} {v : Value} {t : Nat} (h : t < a.tmps.size) : (a.put (some t) v).tmps[t]? = some v := by
  rw [put_get, if_pos ⟨rfl, h⟩]
theorem put_size (a : Act) (dst : Option Nat) (v : Value) : (a.put dst v).tmps.size = a.tmps.size := by
  cases dst <;> simp [Act.put]
theorem put_defers (a : Act) (dst : Option Nat) (v : Value) : (a.put dst v).defers = a.defers := by
  cases dst <;> rfl

def putAll (ops : Array Oper) (ι : Nat → Loc) (vals : List (Nat × Value)) (a : Act) : Act := vals.foldl (fun a q => a.put (dstAt ops.toList q.1) (tr ι q.2)) a
theorem putAll_size {ι : Nat → Loc} : ∀ (vals : List (Nat × Value)) (a : Act), (putAll ops ι vals a).tmps.size = a.tmps.size
  | [], a => rfl
  | q :: r, a => by
    have := putAll_size (ι := ι) r (a.put (dstAt ops.toList q.1) (tr ι q.2))
    rw [put_size] at this
    exact this
theorem putAll_defers {ι : Nat → Loc} : ∀ (vals : List (Nat × Value)) (a : Act), (putAll ops ι vals a).defers = a.defers
  | [], a => rfl
  | q :: r, a => by
    have := putAll_defers (ι := ι) r (a.put (dstAt ops.toList q.1) (tr ι q.2))
    rw [put_defers] at this
    exact this
theorem putAll_none {ι : Nat → Loc} {d : Nat} : ∀ (vals : List (Nat × Value)) (a : Act), (∀ q ∈ vals, dstAt ops.toList q.1 ≠ some d) → (putAll ops ι vals a).tmps[d]? = a.tmps[d]?
  | [], a, _ => rfl
  | q :: r, a, h => by
    have := putAll_none (ι := ι) r (a.put (dstAt ops.toList q.1) (tr ι q.2)) (fun x hx => h x (by simp [hx]))
    rw [put_get_ne (h q (by simp))] at this
    exact this
theorem putAll_some {ι : Nat → Loc} {d i : Nat} {v : Value} : ∀ (vals : List (Nat × Value)) (a : Act), d < a.tmps.size → (i, v) ∈ vals → dstAt ops.toList i = some d → (∀ q ∈ vals, dstAt ops.toList q.1 = some d → q.1 = i) → (vals.map (·.1)).Nodup →
    (putAll ops ι vals a).tmps[d]? = some (tr ι v)
  | [], a, _, h, _, _, _ => by cases h
  | q :: r, a, hd, hm, hi, hu, hn => by
    simp only [List.map_cons, List.nodup_cons] at hn
    rcases List.mem_cons.1 hm with rfl | hm
    · have := putAll_none (ops := ops) (ι := ι) (d := d) r (a.put (dstAt ops.toList i) (tr ι v)) (fun x hx e => by
        have := hu x (by simp [hx]) e
        exact hn.1 (List.mem_map.2 ⟨x, hx, this⟩))
      show (putAll ops ι r (a.put (dstAt ops.toList i) (tr ι v))).tmps[d]? = _
      rw [this, hi, put_get_eq hd]
    · exact putAll_some r (a.put (dstAt ops.toList q.1) (tr ι q.2)) (by rw [put_size]; exact hd) hm hi (fun x hx => hu x (by simp [hx])) hn.2
theorem putAll_append {ι : Nat → Loc} (x y : List (Nat × Value)) (a : Act) : putAll ops ι (x ++ y) a = putAll ops ι y (putAll ops ι x a) := by
  simp [putAll, List.foldl_append]

/-- The head's operation i yields v, if the temporaries are so. -/
def Yld (P : Program) (ops : Array Oper) (ι : Nat → Loc) (B nx : Nat) (hJ : Heap) (wS : World) (i : Nat) (v : Value) (a : Act) : Prop :=
  ∃ o, ops[i]? = some o ∧ scT ι nx v ∧ (∀ c, o.op ≠ .defer c) ∧ ((Region.wanted o (yielded ops a.tmps) = false ∧ v = undef) ∨
    (Region.wanted o (yielded ops a.tmps) = true ∧ ∀ w, RelH ι B (heapOf o.op hJ) nx w → (isStrong o.op = true → Bel wS.heap.size wS w) → Run1 P (execOp a.eval o) w (tr ι v)))

theorem vput_lt {tn : Nat} {env : List (Nat × Value)} {dst : Option Nat} {v : Value} {K : List (Nat × Value) → Prop} (hl : vput tn env dst v K) : ∀ d, dst = some d → d < tn := by
  rintro d rfl
  simp only [vput] at hl
  split at hl
  · rename_i h; exact blt_true h
  · exact hl.elim

theorem RelH.wide {ι ι' : Nat → Loc} {B nx nx' : Nat} {h : Heap} {w : World} (H : RelH ι B h nx w) (hi : ∀ k, k < nx → ι' k = ι k) (hn : nx ≤ nx') : RelH ι' B h nx' w := by
  refine ⟨fun k o hk => ?_, fun k k' o1 o2 h1 h2 hne ha b hb => ?_, fun k o hk => Nat.lt_of_lt_of_le (H.low k o hk) hn, H.size, fun k o hk => (H.sc k o hk).mono hn hi⟩
  · rw [hi _ (H.low k o hk)]
    exact (H.obj k o hk).names (H.sc k o hk) hi
  · rw [hi _ (H.low k o1 h1)] at hb
    rw [hi _ (H.low k' o2 h2)]
    exact H.sep k k' o1 o2 h1 h2 hne ha b hb
theorem RelH.narrow {ι ι' : Nat → Loc} {B nx nx' : Nat} {h : Heap} {w wS : World} (H : RelH ι' B h nx' w) (HS : RelH ι B h nx wS) (hi : ∀ k, k < nx → ι' k = ι k) : RelH ι B h nx w := by
  have hsc : ∀ k o, look h k = some o → OSc ι nx o := HS.sc
  refine ⟨fun k o hk => ?_, fun k k' o1 o2 h1 h2 hne ha b hb => ?_, fun k o hk => HS.low k o hk, H.size, hsc⟩
  · have := H.obj k o hk
    rw [hi _ (HS.low k o hk)] at this
    exact this.names ((hsc k o hk).mono (Nat.le_refl _) hi) (fun j hj => (hi j hj).symm)
  · rw [← hi _ (HS.low k o1 h1)] at hb
    rw [← hi _ (HS.low k' o2 h2)]
    exact H.sep k k' o1 o2 h1 h2 hne ha b hb
theorem Yld.wide {P : Program} {ops : Array Oper} {ι ι' : Nat → Loc} {B nx nx' : Nat} {hJ : Heap} {wS : World} {i : Nat} {v : Value} {a : Act} (H : RelH ι B hJ nx wS) (hi : ∀ k, k < nx → ι' k = ι k) (hn : nx ≤ nx')
    (hy : Yld P ops ι B nx hJ wS i v a) : Yld P ops ι' B nx' hJ wS i v a := by
  obtain ⟨o, h1, h2, h3, h4⟩ := hy
  refine ⟨o, h1, scT_mono hn hi h2, h3, ?_⟩
  rcases h4 with h4 | ⟨h4, h5⟩
  · exact .inl h4
  · refine .inr ⟨h4, fun w Hw hb => ?_⟩
    rw [tr_eq hi h2]
    refine h5 w (Hw.narrow (wS := wS) ?_ hi) hb
    unfold heapOf
    cases isPure o.op with
    | true => exact RelH.none H.size
    | false => exact H

theorem vhead_ok (hT : TabOK P T) (hC : CallsOK P C) (hD : DetC C) (hp : ∀ i, i < ops.size → kindB isPlain ops.toList i = true) {tn : Nat} {B : Nat} {hJ : Heap} {wS : World} {K : List (Nat × Value) → Nat → Prop} :
    ∀ (l : List Nat) (env : List (Nat × Value)) (a : Act) (ι : Nat → Loc) (nx : Nat), RelH ι B hJ nx wS → vhead std T C tn ops.toList hJ l env nx K → EnvOK ι nx env a → a.tmps.size = tn →
    ∃ vals env1 ι' nx', K env1 nx' ∧ (∀ k, k < nx → ι' k = ι k) ∧ nx ≤ nx' ∧ vals.map (·.1) = l ∧ EnvOK ι' nx' env1 (putAll ops ι' vals a) ∧ (∀ q ∈ vals, ∀ d, dstAt ops.toList q.1 = some d → d < tn) ∧
      ∀ pre i v post, vals = pre ++ (i, v) :: post → Yld P ops ι' B nx' hJ wS i v (putAll ops ι' pre a)
  | [], env, a, ι, nx, H, hl, he, hs => ⟨[], env, ι, nx, hl, fun _ _ => rfl, Nat.le_refl _, rfl, he, by simp, by simp⟩
  | i :: r, env, a, ι, nx, H, hl, he, hs => by
    simp only [vhead_cons] at hl
    split at hl
    · exact hl.elim
    rename_i o ho
    have hdst : dstAt ops.toList i = o.dst := by simp [dstAt, ho]
    have hoi : ops[i]? = some o := by rw [getL_eq] at ho; simpa using ho
    have hlt : i < ops.size := (Array.getElem?_eq_some_iff.1 hoi).1
    have hdef : ∀ c, o.op ≠ .defer c := by
      intro c e
      have := hp i hlt
      simp [kindB, ho, e, isPlain] at this
    obtain ⟨env1, he1, hcase⟩ := vguard_ok he hl
    have main : ∃ v ι1 nx1, (∀ k, k < nx → ι1 k = ι k) ∧ nx ≤ nx1 ∧ scT ι1 nx1 v ∧ Yld P ops ι1 B nx1 hJ wS i v a ∧ vput tn env1 o.dst v fun env => vhead std T C tn ops.toList hJ r env nx1 K := by
      rcases hcase with ⟨hw, hl⟩ | ⟨hw, hl⟩
      · obtain ⟨v, nx1, ι1, h1, h2, h3, h4, h5⟩ := vquiet_ok hT hC hD he1 H hl
        refine ⟨v, ι1, nx1, h3, h4, h2, ⟨o, hoi, h2, hdef, .inr ⟨hw, fun w Hw hb => h5 w (Hw.narrow (wS := wS) ?_ h3) hb⟩⟩, h1⟩
        unfold heapOf
        cases isPure o.op with
        | true => exact RelH.none H.size
        | false => exact H
      · exact ⟨undef, ι, nx, fun _ _ => rfl, Nat.le_refl _, scT_g rfl, ⟨o, hoi, scT_g rfl, hdef, .inl ⟨hw, rfl⟩⟩, hl⟩
    obtain ⟨v, ι1, nx1, hi1, hn1, hv, hy, hl⟩ := main
    have H1 := H.wide hi1 hn1
    obtain ⟨env2, k1, k2, k3, k4⟩ := vput_ok (he1.names hn1 hi1) hs hl hv
    rw [← hdst] at k2 k3
    obtain ⟨vals, env3, ι', nx', h1, hi', hn', h2, h3, h4, h5⟩ := vhead_ok hT hC hD hp r env2 _ ι1 nx1 H1 k1 k2 k3
    have etr : tr ι' v = tr ι1 v := tr_eq hi' hv
    have ep : ∀ pre, putAll ops ι' ((i, v) :: pre) a = putAll ops ι' pre (a.put (dstAt ops.toList i) (tr ι1 v)) := fun pre => by
      show putAll ops ι' pre (a.put (dstAt ops.toList i) (tr ι' v)) = _
      rw [etr]
    refine ⟨(i, v) :: vals, env3, ι', nx', h1, fun k hk => (hi' k (by omega)).trans (hi1 k hk), by omega, by simp [h2], by rw [ep]; exact h3, fun q hq d hd => ?_, fun pre j u post e => ?_⟩
    · rcases List.mem_cons.1 hq with rfl | hq
      · exact vput_lt hl d (by rw [← hdst]; exact hd)
      · exact h4 q hq d hd
    · cases pre with
      | nil =>
        simp only [List.nil_append, List.cons.injEq, Prod.mk.injEq] at e
        obtain ⟨⟨rfl, rfl⟩, rfl⟩ := e
        exact hy.wide H1 hi' hn'
      | cons q pre =>
        simp only [List.cons_append, List.cons.injEq] at e
        obtain ⟨rfl, rfl⟩ := e
        rw [ep]
        exact h5 pre j u post rfl

/-- The temporaries on the way: 'a' has what has been listed, 'a'' the whole head as well. -/
structure TInv (ops : Array Oper) (p : Plan) (ι : Nat → Loc) (vals : List (Nat × Value)) (tn : Nat) (ds : List Deferred) (a0 : Act) (L : Nat → Prop) (a a' : Act) : Prop where
  size : a.tmps.size = tn
  size' : a'.tmps.size = tn
  defers : a.defers = ds
  defers' : a'.defers = ds
  q1 : ∀ i v d, (i, v) ∈ vals → dstAt ops.toList i = some d → a'.tmps[d]? = some (tr ι v)
  q2 : ∀ d, (∀ i ∈ p.head, dstAt ops.toList i = some d → L i) → a.tmps[d]? = a'.tmps[d]?
  q3 : ∀ d, (∀ i, i ∈ p.head ∨ L i → dstAt ops.toList i ≠ some d) → a'.tmps[d]? = a0.tmps[d]?
  q4 : ∀ i d, i ∈ p.head → ¬ L i → dstAt ops.toList i = some d → a.tmps[d]? = a0.tmps[d]?

def adds (L : Nat → Prop) (i : Nat) : Nat → Prop := fun j => j = i ∨ L j

variable {ι : Nat → Loc} {vals : List (Nat × Value)} {tn : Nat} {ds : List Deferred} {a0 : Act} {L : Nat → Prop} {a a' : Act}

theorem dst_lt {i d : Nat} (h : dstAt ops.toList i = some d) : i < ops.size := by
  unfold dstAt at h
  split at h
  · rename_i o ho
    rw [getL_eq] at ho
    have : ops[i]? = some o := by simpa using ho
    exact (Array.getElem?_eq_some_iff.1 this).1
  · cases h

theorem TInv.head (hp : PlanOK ops p) (I : TInv ops p ι vals tn ds a0 L a a') (hv : vals.map (·.1) = p.head) (hd : ∀ q ∈ vals, ∀ d, dstAt ops.toList q.1 = some d → d < tn) {i : Nat} {v : Value} (hi : (i, v) ∈ vals) :
    TInv ops p ι vals tn ds a0 (adds L i) (a.put (dstAt ops.toList i) (tr ι v)) a' := by
  refine ⟨by rw [put_size]; exact I.size, I.size', by rw [put_defers]; exact I.defers, I.defers', I.q1, fun d h => ?_, fun d h => I.q3 d (fun j hj => h j (hj.imp id .inr)), fun j d hj hn hjd => ?_⟩
  · by_cases e : dstAt ops.toList i = some d
    · rw [e, put_get_eq (by rw [I.size]; exact hd _ hi d e), I.q1 i v d hi e]
    · rw [put_get_ne e]
      refine I.q2 d fun j hj hjd => ?_
      rcases h j hj hjd with rfl | h
      · exact absurd hjd e
      · exact h
  · have hij : j ≠ i := fun e => hn (.inl e)
    rw [put_get_ne (fun e => hij (hp.dsts j i d (dst_lt hjd) (dst_lt e) hjd e))]
    exact I.q4 j d hj (fun h => hn (.inr h)) hjd

theorem TInv.other (hp : PlanOK ops p) (I : TInv ops p ι vals tn ds a0 L a a') (hv : vals.map (·.1) = p.head) {j : Nat} (hj : j ∉ p.head) (u : Value) :
    TInv ops p ι vals tn ds a0 (adds L j) (a.put (dstAt ops.toList j) u) (a'.put (dstAt ops.toList j) u) := by
  have hne : ∀ i d, i ∈ p.head → dstAt ops.toList i = some d → dstAt ops.toList j ≠ some d := fun i d hi hd e => hj (by rw [hp.dsts j i d (dst_lt e) (dst_lt hd) e hd]; exact hi)
  have hmem : ∀ i v, (i, v) ∈ vals → i ∈ p.head := fun i v h => by rw [← hv]; exact List.mem_map.2 ⟨_, h, rfl⟩
  refine ⟨by rw [put_size]; exact I.size, by rw [put_size]; exact I.size', by rw [put_defers]; exact I.defers, by rw [put_defers]; exact I.defers', fun i v d hi hd => ?_, fun d h => ?_, fun d h => ?_, fun i d hi hn hid => ?_⟩
  · rw [put_get_ne (hne i d (hmem i v hi) hd)]
    exact I.q1 i v d hi hd
  · rw [put_get, put_get, I.size, I.size']
    by_cases e : dstAt ops.toList j = some d ∧ d < tn
    · rw [if_pos e, if_pos e]
    · rw [if_neg e, if_neg e]
      refine I.q2 d fun i hi hid => ?_
      rcases h i hi hid with rfl | h
      · exact absurd hi hj
      · exact h
  · rw [put_get_ne (h j (.inr (.inl rfl)))]
    exact I.q3 d fun i hi => h i (hi.imp id .inr)
  · rw [put_get_ne (hne i d hi hid)]
    exact I.q4 i d hi (fun h => hn (.inr h)) hid

theorem mem_order {i : Nat} : i ∈ p.order ↔ i ∈ p.head ∨ i ∈ p.allocs ∨ i ∈ p.tail.map (·.1) := by simp [Plan.order]
theorem PlanOK.apart (hp : PlanOK ops p) {i : Nat} (hi : i ∈ p.head) : i ∉ p.allocs ∧ i ∉ p.tail.map (·.1) := by
  have := hp.nodup
  unfold Plan.order at this
  rw [List.append_assoc, List.nodup_append] at this
  exact ⟨fun h => this.2.2 i hi i (List.mem_append_left _ h) rfl, fun h => this.2.2 i hi i (List.mem_append_right _ h) rfl⟩
theorem PlanOK.apart2 (hp : PlanOK ops p) {i : Nat} (hi : i ∈ p.allocs) : i ∉ p.tail.map (·.1) := by
  have := hp.nodup
  unfold Plan.order at this
  rw [List.nodup_append] at this
  exact fun h => this.2.2 i (List.mem_append_right _ hi) i h rfl

/-- What the head's operation looks at is what it was when it was reckoned. -/
theorem TInv.sees (hp : PlanOK ops p) (I : TInv ops p ι vals tn ds a0 L a a') (hv : vals.map (·.1) = p.head) (hd : ∀ q ∈ vals, ∀ d, dstAt ops.toList q.1 = some d → d < tn) (h0 : a0.tmps.size = tn)
    (cl : ∀ i, L i → ∀ j ∈ predsAt ops.toList i, L j) (hL : ∀ i, L i → i < ops.size) {pre post : List (Nat × Value)} {i : Nat} {v : Value} (e : vals = pre ++ (i, v) :: post) (hn : ¬ L i) (hr : ∀ j ∈ predsAt ops.toList i, L j) :
    ∀ t ∈ lookAt ops i, a.tmps[t]? = (putAll ops ι pre a0).tmps[t]? := by
  intro t ht
  have hih : i ∈ p.head := by rw [← hv, e]; simp
  have hin : i < ops.size := hp.inb i (mem_order.2 (.inl hih))
  have hhead : p.head = pre.map (·.1) ++ i :: post.map (·.1) := by rw [← hv, e]; simp
  have hnd : (p.head).Nodup := by
    have := hp.nodup
    unfold Plan.order at this
    rw [List.append_assoc, List.nodup_append] at this
    exact this.1
  have hpre : ∀ j ∈ predsAt ops.toList i, j ∈ pre.map (·.1) := fun j hj => by
    rcases headOK_spec hp.headP _ _ _ hhead j hj with h | h
    · cases h
    · exact h
  have hni : i ∉ pre.map (·.1) := fun hm => by
    rw [hhead, List.nodup_append] at hnd
    exact hnd.2.2 i hm i (by simp) rfl
  by_cases hex : ∃ j ∈ p.head, dstAt ops.toList j = some t
  · obtain ⟨j, hj, hjt⟩ := hex
    by_cases hji : j = i
    · subst hji
      rw [I.q4 j t hj hn hjt]
      rw [putAll_none]
      intro q hq hqt
      have := hp.dsts _ _ t (dst_lt hqt) (dst_lt hjt) hqt hjt
      exact hni (List.mem_map.2 ⟨q, hq, this⟩)
    · have hjp := hp.look1 j (.inl hj) i hin (fun e => hji e.symm) t hjt ht
      have hjL := hr j hjp
      obtain ⟨q, hq, hqj⟩ := List.mem_map.1 (hpre j hjp)
      obtain ⟨j', u⟩ := q
      simp only at hqj
      subst hqj
      have hqv : (j', u) ∈ vals := by rw [e]; exact List.mem_append_left _ hq
      rw [I.q2 t (fun j2 hj2 h2 => by rw [hp.dsts j2 j' t (dst_lt h2) (dst_lt hjt) h2 hjt]; exact hjL), I.q1 j' u t hqv hjt]
      rw [putAll_some pre a0 (by rw [h0]; exact hd _ hqv t hjt) hq hjt (fun q2 hq2 h2 => hp.dsts _ _ t (dst_lt h2) (dst_lt hjt) h2 hjt) (by
        rw [hhead, List.nodup_append] at hnd
        exact hnd.1)]
  · have hex' : ∀ j ∈ p.head, dstAt ops.toList j ≠ some t := fun j hj h => hex ⟨j, hj, h⟩
    rw [I.q2 t (fun j hj h => absurd h (hex' j hj)), I.q3 t, putAll_none]
    · intro q hq
      exact hex' _ (by rw [hhead]; exact List.mem_append_left _ (List.mem_map.2 ⟨q, hq, rfl⟩))
    · intro j hj
      rcases hj with hj | hj
      · exact hex' j hj
      · intro hjt
        rcases mem_order.1 (hp.cover j (hL j hj)) with h | h | h
        · exact hex' j h hjt
        · have hne : i ≠ j := fun e => (hp.apart hih).1 (e ▸ h)
          have := hpre j (hp.look1 j (.inr h) i hin hne t hjt ht)
          exact (hp.apart (i := j) (by rw [hhead]; exact List.mem_append_left _ this)).1 h
        · obtain ⟨⟨t', c⟩, htc, rfl⟩ := List.mem_map.1 h
          exact hn (cl t' hj i (hp.look2 t' c htc i hih t hjt ht))

/-- What another operation looks at is there. -/
theorem TInv.sees' (hp : PlanOK ops p) (I : TInv ops p ι vals tn ds a0 L a a') {j : Nat} (hj : j ∉ p.head) (hjn : j < ops.size) (hr : ∀ i ∈ predsAt ops.toList j, L i) :
    ∀ t ∈ lookAt ops j, a.tmps[t]? = a'.tmps[t]? := fun t ht =>
  I.q2 t fun i hi hit => hr i (hp.look1 i (.inl hi) j hjn (fun e => hj (e ▸ hi)) t hit ht)
end
end Go.Aw
end

/-
  Regions in any order: the machine does what was reckoned. No condition.
-/
set_option linter.unusedSimpArgs false
set_option linter.unusedVariables false
noncomputable section
namespace Go.Aw
open Go.RowKit

section
variable {P : Program} {T : Tab} {C : VC} {Y : VY} {ops : Array Oper} {p : Plan}

theorem RelH.sub {ι : Nat → Loc} {B nx : Nat} {h h' : Heap} {w : World} (H : RelH ι B h nx w) (hs : ∀ k o, look h' k = some o → look h k = some o) : RelH ι B h' nx w :=
  ⟨fun k o hk => H.obj k o (hs k o hk), fun k k' o o' h1 h2 => H.sep k k' o o' (hs _ _ h1) (hs _ _ h2), fun k o hk => H.low k o (hs k o hk), H.size, fun k o hk => H.sc k o (hs k o hk)⟩

/-- A part of the heap that has stayed, under the names of then. -/
theorem RelH.back {ι ι0 : Nat → Loc} {B nx nx0 : Nat} {h hJ : Heap} {w wS : World} (H : RelH ι B h nx w) (HS : RelH ι0 B hJ nx0 wS) (hs : ∀ k o, look hJ k = some o → look h k = some o) (hi : ∀ k, k < nx0 → ι k = ι0 k) : RelH ι0 B hJ nx0 w := by
  refine ⟨fun k o hk => ?_, HS.sep, HS.low, H.size, HS.sc⟩
  have h1 := H.obj k o (hs k o hk)
  have h2 : OSc ι nx0 o := (HS.sc k o hk).mono (Nat.le_refl _) hi
  have h3 := h1.names h2 (ι' := ι0) (fun j hj => (hi j hj).symm)
  rwa [hi k (HS.low k o hk)] at h3

theorem run1_wpIn {o : Oper} {a b : Act} {w : World} {u : Value} (hr : Run1 P (execOp b.eval o) w u) (he : execOp a.eval o = execOp b.eval o) (hd : ∀ c, o.op ≠ .defer c) (r : Option Nat) (next : Act → World → Prop) (Q : Exit → Act → World → Prop)
    (hn : ∀ w', Bel w.heap.size w w' → next (a.put o.dst u) w') : o.wpIn (Fr r) 0 P a w next Q := by
  refine ⟨fun _ _ => trivial, ?_⟩
  rw [semAt_eq hd, he]
  rcases hr with h | ⟨f, args, h, hc⟩
  · rw [h]
    exact hn w (Bel.refl _ _)
  · rw [h]
    refine ⟨fun hdep => absurd hdep (by simp [Fr, Fence.wide]), ?_⟩
    refine CallsIn.mono (F := Fence.wide) hc fun e w' hret => ?_
    obtain ⟨rfl, hb⟩ := hret
    exact hn w' hb

def AllocAt (T : Tab) (ops : Array Oper) (wS : World) (i b : Nat) (a : Act) (w : World) : Prop :=
  wS.heap.size ≤ b ∧ ∃ o t d ti, getL ops.toList i = some o ∧ o.op = .alloc t ∧ o.dst = some d ∧ look T t = some ti ∧ w.heap[b]? = some (.cells ti.zv.cells t (0, 0)) ∧ a.tmps[d]? = some (.pointer (some ⟨b, 0, none⟩))

theorem vallocs_facts {tn : Nat} {l : List Oper} {K : KS} : ∀ {al : List Nat} {env : List (Nat × Value)} {h : Heap} {nx : Nat}, vallocs T tn l al env h nx K →
    ∀ i ∈ al, ∃ o t d ti, getL l i = some o ∧ o.op = .alloc t ∧ o.dst = some d ∧ d < tn ∧ look T t = some ti
  | [], _, _, _, _, i, hi => by cases hi
  | j :: r, env, h, nx, hl, i, hi => by
    simp only [vallocs_cons] at hl
    split at hl
    case h_2 => exact hl.elim
    rename_i d t ty pos after gd ho
    split at hl
    case h_2 => exact hl.elim
    rename_i ti hti
    have hd := vput_lt hl d rfl
    rcases List.mem_cons.1 hi with rfl | hi
    · exact ⟨_, t, d, ti, ho, rfl, rfl, hd, hti⟩
    · simp only [vput] at hl
      split at hl
      · exact vallocs_facts hl i hi
      · exact hl.elim

theorem EnvOK.congr {ι : Nat → Loc} {n : Nat} {env : List (Nat × Value)} {a a' : Act} (he : EnvOK ι n env a) (h : ∀ d : Nat, a.tmps[d]? = a'.tmps[d]?) : EnvOK ι n env a' := fun t v hv => by
  rw [← h t]; exact he t v hv

theorem vallocs_ok (hT : TabOK P T) {tn B : Nat} {wS w : World} (hB : B ≤ wS.heap.size) {K : KS} {a' : Act} {bs : Nat → Nat} : ∀ (al : List Nat) (ι : Nat → Loc) (env : List (Nat × Value)) (h : Heap) (nx : Nat) (a : Act),
    vallocs T tn ops.toList al env h nx K → EnvOK ι nx env a → a.tmps.size = tn → RelH ι B h nx w → (∀ i ∈ al, AllocAt T ops wS i (bs i) a' w) → al.Nodup → (∀ i ∈ al, ∀ j ∈ al, bs i = bs j → i = j) →
    (∀ k o b, look h k = some o → (ι k).blk = some b → ∀ i ∈ al, b ≠ bs i) → (∀ d, (∀ i ∈ al, dstAt ops.toList i ≠ some d) → a.tmps[d]? = a'.tmps[d]?) →
    ∃ ι' env' h' nx', K env' h' nx' ∧ EnvOK ι' nx' env' a' ∧ RelH ι' B h' nx' w ∧ (∀ k, k < nx → ι' k = ι k) ∧ nx ≤ nx' ∧ ∀ k, k < nx → look h' k = look h k
  | [], ι, env, h, nx, a, hl, he, hs, H, hal, hnd, hinj, hsep, hd => ⟨ι, env, h, nx, hl, he.congr (fun d => hd d (by simp)), H, fun _ _ => rfl, Nat.le_refl _, fun _ _ => rfl⟩
  | i :: r, ι, env, h, nx, a, hl, he, hs, H, hal, hnd, hinj, hsep, hd => by
    simp only [vallocs_cons] at hl
    split at hl
    case h_2 => exact hl.elim
    rename_i d t ty pos after gd ho
    split at hl
    case h_2 => exact hl.elim
    rename_i ti hti
    obtain ⟨hb, o', t', d', ti', h1, h2, h3, h4, h5, h6⟩ := hal i (by simp)
    rw [ho] at h1
    injection h1 with h1
    subst h1
    simp only at h2 h3
    injection h2 with h2
    injection h3 with h3
    subst h2; subst h3
    rw [hti] at h4
    injection h4 with h4
    subst h4
    have hz := zv_cells hT hti
    have hdi : dstAt ops.toList i = some d := by simp [dstAt, ho]
    have hadd := H.add (.cells true false 1 ti.zv.cells.toList) (.lay (bs i) 0 0) (by
      refine ⟨Nat.le_trans hB hb, by simp, ti.zv.cells, t, h5, by simp, fun j v hv => ?_⟩
      rw [Nat.zero_add, ← Array.getElem?_toList, hv, trS_g (hz v (List.mem_of_getElem? hv))]) (fun v hv => scS_g (hz v hv)) (by
      intro k o' hk _ b hb' e
      have : bs i = b := by simpa [Loc.blk] using hb'
      exact hsep k o' b hk e i (by simp) this.symm)
    have hsc : scT (ins ι nx (.lay (bs i) 0 0)) (nx + 1) (.pointer (some ⟨nx, 0, none⟩)) := by simp [scT, scA, scS, scP, ins_same, Loc.isAt]
    obtain ⟨env', k1, k2, k3, _⟩ := vput_ok (he.names (ι' := ins ι nx (.lay (bs i) 0 0)) (m := nx + 1) (by omega) (fun k hk => ins_lt _ _ hk)) hs hl hsc
    have htr : tr (ins ι nx (.lay (bs i) 0 0)) (.pointer (some ⟨nx, 0, none⟩)) = .pointer (some ⟨bs i, 0, none⟩) := by simp [tr_pointer, ins_same]
    rw [htr] at k2 k3
    rw [List.nodup_cons] at hnd
    obtain ⟨ι', env2, h2, nx2, q1, q2, q3, q4, q5, q6⟩ := vallocs_ok hT hB r _ env' _ (nx + 1) _ k1 k2 k3 hadd (fun j hj => hal j (by simp [hj])) hnd.2 (fun x hx y hy => hinj x (by simp [hx]) y (by simp [hy])) (by
      intro k o' b hk hkb j hj e
      rw [look_upd] at hk
      by_cases hkn : k = nx
      · subst hkn
        rw [ins_same] at hkb
        have : bs i = b := by simpa [Loc.blk] using hkb
        have := hinj i (by simp) j (by simp [hj]) (this.trans e)
        exact hnd.1 (this ▸ hj)
      · rw [if_neg hkn] at hk
        rw [ins_ne _ _ hkn] at hkb
        exact hsep k o' b hk hkb j (by simp [hj]) e) (by
      intro d2 h2
      by_cases e : d2 = d
      · subst e
        rw [put_get_eq (by have := vput_lt hl d2 rfl; omega)]
        exact h6.symm
      · rw [put_get_ne (fun e' => e (Option.some.inj e').symm)]
        refine hd d2 fun j hj => ?_
        rcases List.mem_cons.1 hj with rfl | hj
        · rw [hdi]; exact fun e' => e (Option.some.inj e').symm
        · exact h2 j hj)
    exact ⟨ι', env2, h2, nx2, q1, q2, q3, fun k hk => (q4 k (by omega)).trans (ins_lt _ _ hk), by omega, fun k hk => (q6 k (by omega)).trans (look_upd_ne _ _ (by omega))⟩

/-- All that stays through a region. -/
structure Ctx (P : Program) (T : Tab) (C : VC) (Y : VY) (ops : Array Oper) (p : Plan) (B : Nat) (w0 : World) (ιb : Nat → Loc) (nxb tn : Nat) (ds : List Deferred) (ι0 : Nat → Loc) (nx0 : Nat) (h0 hJ : Heap) (a0 : Act) (wS : World)
    (vals : List (Nat × Value)) (env1 : List (Nat × Value)) (K : KS) : Prop where
  tab : TabOK P T
  calls : CallsOK P C
  yields : YieldsOK P Y
  plan : PlanOK ops p
  old : ∀ k, k < nxb → ι0 k = ιb k
  le : nxb ≤ nx0
  size : a0.tmps.size = tn
  defers : a0.defers = ds
  heap : RelH ι0 B h0 nx0 wS
  below : Bel B w0 wS
  sub : ∀ k o, look hJ k = some o → look h0 k = some o
  heads : vals.map (·.1) = p.head
  env : EnvOK ι0 nx0 env1 (putAll ops ι0 vals a0)
  dlt : ∀ q ∈ vals, ∀ d, dstAt ops.toList q.1 = some d → d < tn
  yld : ∀ pre i v post, vals = pre ++ (i, v) :: post → Yld P ops ι0 B nx0 hJ wS i v (putAll ops ι0 pre a0)
  rest : vallocs T tn ops.toList p.allocs env1 h0 nx0 fun env h nx => vtail std T C Y tn ops.toList hJ p.tail env h nx K

structure PreS (T : Tab) (ops : Array Oper) (p : Plan) (tn : Nat) (ds : List Deferred) (ι0 : Nat → Loc) (a0 : Act) (wS : World) (vals : List (Nat × Value)) (L : Nat → Prop) (a : Act) (w : World) : Prop where
  noT : ∀ t ∈ p.tail.map (·.1), ¬ L t
  below : Bel wS.heap.size wS w
  on : ∃ (a' : Act) (bs : Nat → Nat), TInv ops p ι0 vals tn ds a0 L a a' ∧ (∀ d, (∀ i ∈ p.allocs, L i → dstAt ops.toList i ≠ some d) → (putAll ops ι0 vals a0).tmps[d]? = a'.tmps[d]?) ∧
    (∀ i ∈ p.allocs, L i → AllocAt T ops wS i (bs i) a' w) ∧ (∀ i ∈ p.allocs, ∀ j ∈ p.allocs, L i → L j → bs i = bs j → i = j)

def PostS (T : Tab) (C : VC) (Y : VY) (ops : Array Oper) (p : Plan) (B : Nat) (w0 : World) (ιb : Nat → Loc) (nxb tn : Nat) (ds : List Deferred) (ι0 : Nat → Loc) (nx0 : Nat) (hJ : Heap) (a0 : Act) (vals : List (Nat × Value)) (K : KS) (L : Nat → Prop) (a : Act) (w : World) : Prop :=
  ∃ done rest a' ι env h nx, p.tail = done ++ rest ∧ (∀ t ∈ done, L t.1) ∧ (∀ t ∈ rest, ¬ L t.1) ∧ (∀ i ∈ p.allocs, L i) ∧ (∀ i ∈ p.head, kindB isStrong ops.toList i = true → L i) ∧
    TInv ops p ι0 vals tn ds a0 L a a' ∧ Inv B w0 ιb nxb tn ds ι env h nx a' w ∧ (∀ k, k < nx0 → ι k = ι0 k) ∧ nx0 ≤ nx ∧
    vtail std T C Y tn ops.toList hJ rest env h nx K ∧
    (∃ last got, tailOK ops.toList (p.head.filter (fun i => !kindB isPure ops.toList i)) last got rest = true ∧ (∀ x ∈ got, L x) ∧ (∀ l, last = some l ↔ ∃ d c, done = d ++ [(l, c)])) ∧
    ((∀ i ∈ p.head, kindB isPure ops.toList i = false → L i) ∨ (RelH ι0 B hJ nx0 w ∧ ∀ k o, look hJ k = some o → look h k = some o))

variable {B : Nat} {w0 : World} {ιb : Nat → Loc} {nxb tn : Nat} {ds : List Deferred} {ι0 : Nat → Loc} {nx0 : Nat} {h0 hJ : Heap} {a0 : Act} {wS : World} {vals : List (Nat × Value)} {env1 : List (Nat × Value)} {K : KS} {L : Nat → Prop} {a : Act} {w : World}

theorem PreS.post (X : Ctx P T C Y ops p B w0 ιb nxb tn ds ι0 nx0 h0 hJ a0 wS vals env1 K) (S : PreS T ops p tn ds ι0 a0 wS vals L a w) (hall : ∀ i ∈ p.allocs, L i) (hst : ∀ i ∈ p.head, kindB isStrong ops.toList i = true → L i) :
    PostS T C Y ops p B w0 ιb nxb tn ds ι0 nx0 hJ a0 vals K L a w := by
  obtain ⟨a', bs, I, r1, r2, r3⟩ := S.on
  have hw : RelH ι0 B h0 nx0 w := X.heap.ext S.below
  have hnd : p.allocs.Nodup := by
    have := X.plan.nodup
    unfold Plan.order at this
    rw [List.append_assoc, List.nodup_append, List.nodup_append] at this
    exact this.2.1.1
  obtain ⟨ι, env, h, nx, k1, k2, k3, k4, k5, k6⟩ := vallocs_ok X.tab X.heap.size p.allocs ι0 env1 h0 nx0 (putAll ops ι0 vals a0) X.rest X.env (by rw [putAll_size]; exact X.size) hw (fun i hi => r2 i hi (hall i hi)) hnd (fun i hi j hj => r3 i hi j hj (hall i hi) (hall j hj)) (by
    intro k o b hk hb i hi e
    have h1 := (X.heap.obj k o hk).lt hb
    have h2 := (r2 i hi (hall i hi)).1
    omega) (fun d hd => r1 d (fun i hi _ => hd i hi))
  refine ⟨[], p.tail, a', ι, env, h, nx, rfl, by simp, fun t ht => S.noT _ (List.mem_map.2 ⟨t, ht, rfl⟩), hall, hst, I, ⟨k2, k3, X.below.trans (S.below.mono X.heap.size), fun k hk => (k4 k (Nat.lt_of_lt_of_le hk X.le)).trans (X.old k hk), Nat.le_trans X.le k5, I.size', I.defers'⟩, k4, k5, k1, ⟨none, [], X.plan.tailP, by simp, by simp⟩, .inr ⟨(X.heap.sub X.sub).ext S.below, fun k o hk => (k6 k (X.heap.low k o (X.sub k o hk))).trans (X.sub k o hk)⟩⟩

/-- One of the head, whenever. -/
theorem head_step (X : Ctx P T C Y ops p B w0 ιb nxb tn ds ι0 nx0 h0 hJ a0 wS vals env1 K) (cl : ∀ i, L i → ∀ j ∈ predsAt ops.toList i, L j) (hL : ∀ i, L i → i < ops.size) {i : Nat} (hi : i ∈ p.head) (hn : ¬ L i) (hr : ∀ j ∈ predsAt ops.toList i, L j)
    (S : PreS T ops p tn ds ι0 a0 wS vals L a w ∨ PostS T C Y ops p B w0 ιb nxb tn ds ι0 nx0 hJ a0 vals K L a w) (r : Option Nat) (next : Act → World → Prop) (Q : Exit → Act → World → Prop)
    (hnext : ∀ a w, (PreS T ops p tn ds ι0 a0 wS vals (adds L i) a w ∨ PostS T C Y ops p B w0 ιb nxb tn ds ι0 nx0 hJ a0 vals K (adds L i) a w) → next a w) : wpOpIn (Fr r) 0 P ops Q i next a w := by
  have hiv : i ∈ vals.map (·.1) := by rw [X.heads]; exact hi
  obtain ⟨q, hq, hqi⟩ := List.mem_map.1 hiv
  obtain ⟨i', v⟩ := q
  simp only at hqi
  subst hqi
  obtain ⟨pre, post, hsplit⟩ := List.append_of_mem hq
  obtain ⟨o, ho, hsc, hdef, hy⟩ := X.yld pre i' v post hsplit
  have hdst : dstAt ops.toList i' = o.dst := by simp [dstAt, getL_eq, ho]
  have hlt := (Array.getElem?_eq_some_iff.1 ho).1
  have hget : getL ops.toList i' = some o := by rw [getL_eq]; simpa using ho
  have hsel : ∀ cs b, o.op ≠ .select cs b := by
    intro cs b e
    have := X.plan.plain i' hlt
    simp [kindB, hget, e, isPlain] at this
  obtain ⟨a', I⟩ : ∃ a', TInv ops p ι0 vals tn ds a0 L a a' := by
    rcases S with S | ⟨done, rest, a', ι, env, h, nx, _, _, _, _, _, I, _⟩
    · obtain ⟨a', _, I, _⟩ := S.on
      exact ⟨a', I⟩
    · exact ⟨a', I⟩
  have hsee := I.sees X.plan X.heads X.dlt X.size cl hL hsplit hn hr
  have hlook : lookAt ops i' = o.looksAt ops := by simp [lookAt, hget]
  rw [hlook] at hsee
  obtain ⟨he, hw⟩ := same_of_look hsel hsee
  -- what is known past it
  have hpast : ∀ w', Bel w.heap.size w w' → next (a.put o.dst (tr ι0 v)) w' := by
    intro w' hb
    refine hnext _ _ ?_
    rw [← hdst]
    rcases S with S | S
    · refine .inl ?_
      obtain ⟨a', bs, I, r1, r2, r3⟩ := S.on
      have hne : ∀ j, j ∈ p.allocs → j ≠ i' := fun j hj e => (X.plan.apart hi).1 (e ▸ hj)
      refine ⟨fun t ht => ?_, S.below.trans (hb.mono S.below.size), a', bs, I.head X.plan X.heads X.dlt hq, fun d hd => r1 d (fun j hj hjL => hd j hj (.inr hjL)), fun j hj hjL => ?_, fun j hj k hk hjL hkL => r3 j hj k hk (hjL.resolve_left (hne j hj)) (hkL.resolve_left (hne k hk))⟩
      · rintro (rfl | h)
        · exact (X.plan.apart hi).2 ht
        · exact S.noT t ht h
      · obtain ⟨hb1, o2, t2, d2, ti2, e1, e2, e3, e4, e5, e6⟩ := r2 j hj (hjL.resolve_left (hne j hj))
        exact ⟨hb1, o2, t2, d2, ti2, e1, e2, e3, e4, (hb.block _ (Array.getElem?_eq_some_iff.1 e5).1).trans e5, e6⟩
    · refine .inr ?_
      obtain ⟨done, rest, a', ι, env, h, nx, e1, e2, e3, e4, e5, I, J, e6, e7, e8, ⟨last, got, e9, e10, e11⟩, e12⟩ := S
      refine ⟨done, rest, a', ι, env, h, nx, e1, fun t ht => .inr (e2 t ht), fun t ht => ?_, fun j hj => .inr (e4 j hj), fun j hj hk => .inr (e5 j hj hk), I.head X.plan X.heads X.dlt hq, ⟨J.env, J.heap.ext hb, J.below.trans (hb.mono J.heap.size), J.old, J.le, J.size, J.defers⟩, e6, e7, e8, ⟨last, got, e9, fun x hx => .inr (e10 x hx), e11⟩, ?_⟩
      · rintro (rfl | h)
        · exact (X.plan.apart hi).2 (by rw [e1]; exact List.mem_map.2 ⟨t, List.mem_append_right _ ht, rfl⟩)
        · exact e3 t ht h
      · rcases e12 with e12 | ⟨e12, e13⟩
        · exact .inl fun j hj hk => .inr (e12 j hj hk)
        · exact .inr ⟨e12.ext hb, e13⟩
  unfold wpOpIn
  simp only [ho]
  rcases hy with ⟨hw', rfl⟩ | ⟨hw', hrun⟩
  · rw [hw, hw']
    refine ⟨fun _ _ => trivial, ?_⟩
    have := hpast w (Bel.refl _ _)
    rwa [tr_g (show gT undef = true from rfl)] at this
  · rw [hw, hw', if_pos rfl]
    refine run1_wpIn (hrun w ?_ ?_) he hdef r _ Q hpast
    · cases hk : isPure o.op with
      | true => simp only [heapOf, hk]; exact RelH.none (by
          rcases S with S | ⟨done, rest, a', ι, env, h, nx, _, _, _, _, _, _, J, _⟩
          · exact Nat.le_trans X.heap.size S.below.size
          · exact J.heap.size)
      | false =>
        simp only [heapOf, hk]
        rcases S with S | ⟨done, rest, a', ι, env, h, nx, _, _, _, _, _, _, _, _, _, _, _, e12⟩
        · exact (X.heap.sub X.sub).ext S.below
        · rcases e12 with e12 | e12
          · exact absurd (e12 i' hi (by simp [kindB, hget, hk])) hn
          · exact e12.1
    · intro hk
      rcases S with S | ⟨done, rest, a', ι, env, h, nx, _, _, _, _, e5, _⟩
      · exact S.below
      · exact absurd (e5 i' hi (by simp [kindB, hget, hk])) hn

/-- A new cell, ahead of the tail. -/
theorem alloc_step (X : Ctx P T C Y ops p B w0 ιb nxb tn ds ι0 nx0 h0 hJ a0 wS vals env1 K) {i : Nat} (hi : i ∈ p.allocs) (hn : ¬ L i)
    (S : PreS T ops p tn ds ι0 a0 wS vals L a w) (r : Option Nat) (next : Act → World → Prop) (Q : Exit → Act → World → Prop)
    (hnext : ∀ a w, PreS T ops p tn ds ι0 a0 wS vals (adds L i) a w → next a w) : wpOpIn (Fr r) 0 P ops Q i next a w := by
  obtain ⟨o, t, d, ti, ho, hop, hod, hd, hti⟩ := vallocs_facts X.rest i hi
  obtain ⟨o2, ho2, hal⟩ := X.plan.allocs i hi
  have hoo : ops[i]? = some o := by rw [getL_eq] at ho; simpa using ho
  rw [hoo] at ho2
  injection ho2 with ho2
  subst ho2
  have hguard : o.guard = none := by
    unfold isAlloc at hal
    split at hal
    · rfl
    · cases hal
  have hdi : dstAt ops.toList i = some d := by simp [dstAt, ho, hod]
  obtain ⟨a', bs, I, r1, r2, r3⟩ := S.on
  have hnh : i ∉ p.head := fun h => (X.plan.apart h).1 hi
  unfold wpOpIn
  simp only [hoo]
  rw [if_pos (by simp [Region.wanted, hguard])]
  refine ⟨fun _ _ => trivial, ?_⟩
  rw [semAt_eq (fun c e => by rw [hop] at e; cases e)]
  have hz := (X.tab t ti hti).zero w
  have hrun : (execOp a.eval o).run P w = .ok (.value (.pointer (some ⟨w.heap.size, 0, none⟩))) (w.alloc (.cells ti.zv.cells t)) := by
    simp [execOp, hop, Instr.alloc, hz, newVar, newRow]
  rw [hrun]
  refine hnext _ _ ?_
  have hbl := below_alloc w (.cells ti.zv.cells t)
  have hbig : ∀ j ∈ p.allocs, L j → bs j < w.heap.size := fun j hj hjL => by
    obtain ⟨_, _, _, _, _, _, _, _, _, e5, _⟩ := r2 j hj hjL
    exact (Array.getElem?_eq_some_iff.1 e5).1
  refine ⟨fun t ht => ?_, S.below.trans (hbl.mono S.below.size), a'.put (some d) (.pointer (some ⟨w.heap.size, 0, none⟩)), fun j => if j = i then w.heap.size else bs j, ?_, fun d2 h2 => ?_, fun j hj hjL => ?_, fun j hj k hk hjL hkL e => ?_⟩
  · rintro (rfl | h)
    · exact X.plan.apart2 hi ht
    · exact S.noT t ht h
  · have := I.other X.plan X.heads hnh (.pointer (some ⟨w.heap.size, 0, none⟩))
    rw [hdi] at this
    rw [hod]
    exact this
  · by_cases e : d2 = d
    · subst e
      exact absurd hdi (h2 i hi (.inl rfl))
    · rw [put_get_ne (fun e' => e (Option.some.inj e').symm)]
      exact r1 d2 fun j hj hjL => h2 j hj (.inr hjL)
  · by_cases e : j = i
    · subst e
      simp only [if_true]
      exact ⟨S.below.size, o, t, d, ti, ho, hop, hod, hti, (MapKept.heap_alloc w _).1, put_get_eq (by rw [I.size']; exact hd)⟩
    · simp only [if_neg e]
      have hjL := hjL.resolve_left e
      obtain ⟨hb1, o2, t2, d2, ti2, e1, e2, e3, e4, e5, e6⟩ := r2 j hj hjL
      refine ⟨hb1, o2, t2, d2, ti2, e1, e2, e3, e4, (hbl.block _ (hbig j hj hjL)).trans e5, ?_⟩
      rw [put_get_ne (fun e' => e (X.plan.dsts j i d2 (X.plan.inb j (mem_order.2 (.inr (.inl hj)))) (X.plan.inb i (mem_order.2 (.inr (.inl hi)))) (by simp [dstAt, e1, e3]) (hdi.trans e')))]
      exact e6
  · simp only at e
    by_cases e1 : j = i <;> by_cases e2 : k = i
    · rw [e1, e2]
    · rw [if_pos e1, if_neg e2] at e
      have := hbig k hk (hkL.resolve_left e2)
      omega
    · rw [if_neg e1, if_pos e2] at e
      have := hbig j hj (hjL.resolve_left e1)
      omega
    · rw [if_neg e1, if_neg e2] at e
      exact r3 j hj k hk (hjL.resolve_left e1) (hkL.resolve_left e2) e
end
end Go.Aw
end

/-
  Regions in any order: the tail; the whole. No condition.
-/
set_option linter.unusedSimpArgs false
set_option linter.unusedVariables false
noncomputable section
namespace Go.Aw
open Go.RowKit

section
variable {P : Program} {T : Tab} {C : VC} {Y : VY} {ops : Array Oper} {p : Plan}

theorem vstore_keep {h : Heap} {nx : Nat} {t : TypeId} {x v : Value} {K : KE} {hJ : Heap} {ad : Addr} (hx : x = .pointer (some ad)) (hn : look hJ ad.block = none) (hs : ∀ k o, look hJ k = some o → look h k = some o)
    (hl : vstore T h nx t x v K) : vstore T h nx t x v (fun v h' nx' => K v h' nx' ∧ ∀ k o, look hJ k = some o → look h' k = some o) := by
  subst hx
  unfold vstore at *
  split at hl
  case h_2 => exact hl.elim
  rename_i k o heq
  injection heq with heq
  injection heq with heq
  subst heq
  simp only at hn ⊢
  split at hl
  case h_2 => exact hl.elim
  rename_i ti g sz cs ht hk
  try rw [ht, hk]
  try simp only
  split at hl
  case h_2 => exact hl.elim
  rename_i hsz htup
  try rw [hsz, htup]
  try simp only
  obtain ⟨hb, hK⟩ := must_iff.1 hl
  refine must_of hb ⟨hK, fun j o' hj => ?_⟩
  have hne : j ≠ k := fun e => by rw [e, hn] at hj; cases hj
  rw [look_upd_ne _ _ hne]
  exact hs j o' hj

theorem br_true {b : Bool} {X Y : Unit → Prop} (h : br b X Y) (hb : b = true) : X () := by subst hb; exact h
theorem br_false {b : Bool} {X Y : Unit → Prop} (h : br b X Y) (hb : b = false) : Y () := by subst hb; exact h
theorem vsrc_mono {h : Heap} {sz : Nat} {x : Value} {G G' : Nat → List Value → Prop} (hG : ∀ m l, G m l → G' m l) (hl : vsrc h sz x G) : vsrc h sz x G' := by
  unfold vsrc at *
  split at hl
  · exact hG _ _ hl
  · split at hl
    · exact must_of (must_iff.1 hl).1 (hG _ _ (must_iff.1 hl).2)
    · split at hl
      · exact hG _ _ hl
      · exact hl.elim
    · split at hl
      · exact hG _ _ hl
      · exact hl.elim
    · exact hl.elim
  · exact hl.elim
theorem vbuildSlice_keep {h : Heap} {nx : Nat} {t : TypeId} {n : Nat} {l : List (Nat × Value)} {K : KE} {hJ : Heap} (hf : ∀ k o, look hJ k = some o → k < nx) (hs : ∀ k o, look hJ k = some o → look h k = some o)
    (hl : vbuildSlice T h nx t n l K) : vbuildSlice T h nx t n l (fun v h' nx' => K v h' nx' ∧ ∀ k o, look hJ k = some o → look h' k = some o) := by
  have key : ∀ o', ∀ k o, look hJ k = some o → look (upd h nx o') k = some o := fun o' k o hk => by
    have := hf k o hk
    rw [look_upd_ne _ _ (by omega)]
    exact hs k o hk
  unfold vbuildSlice at *
  split at hl
  case h_2 => exact hl.elim
  split at hl
  case h_2 => exact hl.elim
  split at hl
  case h_2 => exact hl.elim
  split at hl
  case h_2 => exact hl.elim
  first | exact ⟨hl, key _⟩ | (simp only [*]; exact ⟨hl, key _⟩)
theorem vappend_keep {h : Heap} {nx : Nat} {st xt : TypeId} {s x : Value} {K : KE} {hJ : Heap} (hf : ∀ k o, look hJ k = some o → k < nx) (hk : ∀ ad n c, s = .slice (some ad) n c → look hJ ad.block = none) (hs : ∀ k o, look hJ k = some o → look h k = some o)
    (hl : vappend std T h nx st xt s x K) : vappend std T h nx st xt s x (fun v h' nx' => K v h' nx' ∧ ∀ k o, look hJ k = some o → look h' k = some o) := by
  have key : ∀ o', ∀ k o, look hJ k = some o → look (upd h nx o') k = some o := fun o' k o hk => by
    have := hf k o hk
    rw [look_upd_ne _ _ (by omega)]
    exact hs k o hk
  have must_k : ∀ {b : Bool} {v : Value} {h' : Heap} {nx' : Nat}, (∀ k o, look hJ k = some o → look h' k = some o) → must b (K v h' nx') → must b (K v h' nx' ∧ ∀ k o, look hJ k = some o → look h' k = some o) := fun hh hm => must_of (must_iff.1 hm).1 ⟨(must_iff.1 hm).2, hh⟩
  unfold vappend at *
  split at hl
  · split at hl
    · split at hl
      · first | exact must_k (key _) hl | (simp only [*]; exact must_k (key _) hl)
      · exact hl.elim
    · exact hl.elim
  · split at hl
    · exact hl.elim
    · split at hl
      · exact hl.elim
      · refine vsrc_mono (fun m src hG => ?_) hl
        split at hG
        · exact br_of (fun hb => ⟨br_true hG hb, hs⟩) (fun hb => must_k (key _) (br_false hG hb))
        · rename_i k o n c
          have hkk := hk _ _ _ rfl
          simp only at hkk
          have hne : ∀ j o', look hJ j = some o' → j ≠ k := fun j o' hj e => by rw [e, hkk] at hj; cases hj
          split at hG
          · split at hG
            · exact br_of (fun hb => ⟨br_true hG hb, hs⟩) (fun hb => must_k (key _) (br_false hG hb))
            · exact hG.elim
          · refine br_of (fun hb => must_k (fun j o' hj => ?_) (br_true hG hb)) (fun hb => must_k (fun j o' hj => ?_) (br_false hG hb))
            · rw [look_upd_ne _ _ (hne j o' hj)]; exact hs j o' hj
            · have := hf j o' hj
              rw [look_upd_ne _ _ (by omega), look_rem, if_neg (hne j o' hj)]
              exact hs j o' hj
          · exact hG.elim
        · exact hG.elim
  · exact hl.elim
theorem tailOK_chain {l : List Oper} {loads : List Nat} : ∀ {rest : List (Nat × Bool)} {last : Option Nat} {got : List Nat}, tailOK l loads last got rest = true → ∀ pre t c i c' post, rest = pre ++ (t, c) :: (i, c') :: post → t ∈ predsC l i
  | [], _, _, _, pre, t, c, i, c', post, e => by simp at e
  | (x, cx) :: r, last, got, h, pre, t, c, i, c', post, e => by
    simp only [tailOK, Bool.and_eq_true] at h
    cases pre with
    | nil =>
      simp only [List.nil_append, List.cons.injEq, Prod.mk.injEq] at e
      obtain ⟨⟨rfl, rfl⟩, rfl⟩ := e
      have h2 := h.2
      simp only [tailOK, Bool.and_eq_true] at h2
      exact memB_iff.1 h2.1.1
    | cons q pre =>
      simp only [List.cons_append, List.cons.injEq] at e
      obtain ⟨rfl, rfl⟩ := e
      exact tailOK_chain h.2 pre t c i c' post rfl

/-- Whichever of the tail may run is the first that is left. -/
theorem tail_first {l : List Oper} {loads : List Nat} {rest : List (Nat × Bool)} {last : Option Nat} {got : List Nat} (h : tailOK l loads last got rest = true) {L : Nat → Prop} (hn : ∀ t ∈ rest, ¬ L t.1) {i : Nat} (hi : i ∈ rest.map (·.1)) (cl : ∀ i, L i → ∀ j ∈ predsAt l i, L j) (hr : ∀ j ∈ predsAt l i, L j) :
    ∃ c r, rest = (i, c) :: r := by
  obtain ⟨q, hq, rfl⟩ := List.mem_map.1 hi
  obtain ⟨i, c⟩ := q
  obtain ⟨pre, post, rfl⟩ := List.append_of_mem hq
  rcases List.eq_nil_or_concat pre with rfl | ⟨pre', ⟨t, ct⟩, rfl⟩
  · exact ⟨c, post, rfl⟩
  · have := tailOK_chain h pre' t ct i c post (by simp)
    exact absurd (predsC_all cl hr t this) (hn (t, ct) (by simp))

variable {B : Nat} {w0 : World} {ιb : Nat → Loc} {nxb tn : Nat} {ds : List Deferred} {ι0 : Nat → Loc} {nx0 : Nat} {h0 hJ : Heap} {a0 : Act} {wS : World} {vals : List (Nat × Value)} {env1 : List (Nat × Value)} {K : KS} {L : Nat → Prop} {a : Act} {w : World}

theorem tail_step (X : Ctx P T C Y ops p B w0 ιb nxb tn ds ι0 nx0 h0 hJ a0 wS vals env1 K) {i : Nat} (hi : i ∈ p.tail.map (·.1)) (hn : ¬ L i) (cl : ∀ i, L i → ∀ j ∈ predsAt ops.toList i, L j) (hr : ∀ j ∈ predsAt ops.toList i, L j)
    (S : PostS T C Y ops p B w0 ιb nxb tn ds ι0 nx0 hJ a0 vals K L a w) (r : Option Nat) (next : Act → World → Prop) (Q : Exit → Act → World → Prop)
    (hnext : ∀ a w, PostS T C Y ops p B w0 ιb nxb tn ds ι0 nx0 hJ a0 vals K (adds L i) a w → next a w) : wpOpIn (Fr r) 0 P ops Q i next a w := by
  obtain ⟨done, rest, a', ι, env, h, nx, e1, e2, e3, e4, e5, I, J, e6, e7, e8, ⟨last, got, e9, e10, e11⟩, e12⟩ := S
  have hir : i ∈ rest.map (·.1) := by
    rw [e1, List.map_append] at hi
    rcases List.mem_append.1 hi with h | h
    · obtain ⟨t, ht, rfl⟩ := List.mem_map.1 h
      exact absurd (e2 t ht) hn
    · exact h
  obtain ⟨chk, rr, rfl⟩ := tail_first e9 e3 hir cl hr
  have hnh : i ∉ p.head := fun h => (X.plan.apart h).2 hi
  have hin : i < ops.size := X.plan.inb i (mem_order.2 (.inr (.inr hi)))
  simp only [vtail_cons] at e8
  split at e8
  · exact e8.elim
  rename_i o ho
  have hoo : ops[i]? = some o := by rw [getL_eq] at ho; simpa using ho
  have hdst : dstAt ops.toList i = o.dst := by simp [dstAt, ho]
  have hlook : lookAt ops i = o.looksAt ops := by simp [lookAt, ho]
  have hpl := X.plan.plain i hin
  have hsel : ∀ cs b, o.op ≠ .select cs b := by
    intro cs b e
    simp [kindB, ho, e, isPlain] at hpl
  have hdef : ∀ c, o.op ≠ .defer c := by
    intro c e
    simp [kindB, ho, e, isPlain] at hpl
  have hsee := I.sees' X.plan hnh hin hr
  rw [hlook] at hsee
  obtain ⟨he, hw⟩ := same_of_look hsel hsee
  obtain ⟨env1', he1, hcase⟩ := vguard_ok J.env e8
  have hnodup : ∀ t ∈ rr, t.1 ≠ i := by
    intro t ht e
    have := X.plan.nodup
    unfold Plan.order at this
    rw [e1, List.map_append, List.nodup_append] at this
    have h2 := this.2.1
    rw [List.nodup_append] at h2
    have := h2.2.1
    simp only [List.map_cons, List.nodup_cons] at this
    exact this.1 (List.mem_map.2 ⟨t, ht, e⟩)
  have htail := e9
  simp only [tailOK, Bool.and_eq_true] at htail
  obtain ⟨⟨_, hloads⟩, htail⟩ := htail
  -- what is known past it
  have hpast : ∀ v env2 h' nx' ι' w', vtail std T C Y tn ops.toList hJ rr env2 h' nx' K → EnvOK ι' nx' env2 (a'.put o.dst (tr ι' v)) → RelH ι' B h' nx' w' → Bel B w w' → (∀ k, k < nx → ι' k = ι k) → nx ≤ nx' →
      (chk = true → (∀ k o, look hJ k = some o → look h k = some o) → ∀ k o, look hJ k = some o → look h' k = some o) → next (a.put o.dst (tr ι' v)) w' := by
    intro v env2 h' nx' ι' w' k1 k2 k3 k4 k5 k6 k7
    refine hnext _ _ ?_
    have hI := I.other X.plan X.heads hnh (tr ι' v)
    rw [hdst] at hI
    refine ⟨done ++ [(i, chk)], rr, a'.put o.dst (tr ι' v), ι', env2, h', nx', by rw [e1]; simp, fun t ht => ?_, fun t ht => ?_, fun j hj => .inr (e4 j hj), fun j hj hk => .inr (e5 j hj hk), hI, J.step k2 k3 k4 k5 k6 (by rw [put_size]; exact J.size) (put_defers _ _ _), fun k hk => (k5 k (Nat.lt_of_lt_of_le hk e7)).trans (e6 k hk), Nat.le_trans e7 k6, k1, ⟨some i, predsC ops.toList i ++ got, htail, fun x hx => ?_, fun l => ?_⟩, ?_⟩
    · rcases List.mem_append.1 ht with ht | ht
      · exact .inr (e2 t ht)
      · simp at ht; subst ht; exact .inl rfl
    · rintro (h | h)
      · exact hnodup t ht h
      · exact e3 t (by simp [ht]) h
    · rcases List.mem_append.1 hx with hx | hx
      · exact .inr (predsC_all cl hr x hx)
      · exact .inr (e10 x hx)
    · constructor
      · intro h; injection h with h; subst h; exact ⟨done, chk, rfl⟩
      · rintro ⟨d, c, hd⟩
        have := List.append_inj' hd rfl
        simp at this
        rw [this.2.1]
    · cases chk with
      | false =>
        refine .inl fun j hj hk => .inr ?_
        simp only [Bool.false_or] at hloads
        have := subB_spec hloads j (List.mem_filter.2 ⟨hj, by simp [hk]⟩)
        rcases List.mem_append.1 this with h | h
        · exact predsC_all cl hr j h
        · exact e10 j h
      | true =>
        rcases e12 with e12 | ⟨e12, e13⟩
        · exact .inl fun j hj hk => .inr (e12 j hj hk)
        · have hs := k7 rfl e13
          exact .inr ⟨k3.back (X.heap.sub X.sub) hs (fun k hk => (k5 k (Nat.lt_of_lt_of_le hk e7)).trans (e6 k hk)), hs⟩
  unfold wpOpIn
  simp only [hoo]
  rcases hcase with ⟨hwa, hl⟩ | ⟨hwa, hl⟩
  · rw [hw, hwa, if_pos rfl]
    obtain ⟨has, hl1⟩ := must_iff.1 hl
    clear hl
    -- the operation, with what it keeps
    have hl2 : vop std T C Y env1' h nx o.op (fun v h' nx' => (vput tn env1' o.dst v fun env' => vtail std T C Y tn ops.toList hJ rr env' h' nx' K) ∧
        (chk = true → (∀ k o, look hJ k = some o → look h k = some o) → ∀ k o, look hJ k = some o → look h' k = some o)) := by
      cases chk with
      | false =>
        have : (fun v h' nx' => (vput tn env1' o.dst v fun env' => vtail std T C Y tn ops.toList hJ rr env' h' nx' K) ∧
            (false = true → (∀ k o, look hJ k = some o → look h k = some o) → ∀ k o, look hJ k = some o → look h' k = some o)) = (fun v h' nx' => vput tn env1' o.dst v fun env' => vtail std T C Y tn ops.toList hJ rr env' h' nx' K) := by
          funext v h' nx'
          simp
        rw [this]
        exact hl1
      | true =>
        unfold asideOK at has
        simp only at has
        have hfr : ∀ k o, look hJ k = some o → k < nx := fun k o hk => Nat.lt_of_lt_of_le ((X.heap.sub X.sub).low k o hk) e7
        split at has
        case h_5 => cases has
        case h_3 =>
          rename_i t n ps hop
          rw [hop] at hl1 ⊢
          simp only [vop] at hl1 ⊢
          split at hl1
          case h_2 => exact hl1.elim
          rename_i l hps
          by_cases hs : ∀ k o, look hJ k = some o → look h k = some o
          · refine cast ?_ (vbuildSlice_keep hfr hs hl1)
            congr 1
            funext v h' nx'
            exact propext ⟨fun q => ⟨q.1, fun _ _ => q.2⟩, fun q => ⟨q.1, q.2 (by trivial) hs⟩⟩
          · refine cast ?_ hl1
            congr 1
            funext v h' nx'
            exact propext ⟨fun q => ⟨q, fun _ h => absurd h hs⟩, fun q => q.1⟩
        case h_4 =>
          rename_i c hop
          obtain ⟨cal, cargs, cats⟩ := c
          simp only at has
          split at has
          case h_2 => cases has
          split at has
          case h_2 => cases has
          rename_i s x' hva
          rw [hop] at hl1 ⊢
          simp only [vop, hva] at hl1 ⊢
          split at hl1
          case h_2 => exact hl1.elim
          rename_i st xt s1 x1 hat hsx
          injection hsx with hsx
          injection hsx with e1 hsx
          injection hsx with e2
          subst e1 e2
          have hkk : ∀ ad n c, s = .slice (some ad) n c → look hJ ad.block = none := by
            rintro ad n c rfl
            simp only at has
            split at has
            · assumption
            · cases has
          by_cases hs : ∀ k o, look hJ k = some o → look h k = some o
          · refine cast ?_ (vappend_keep hfr hkk hs hl1)
            congr 1
            funext v h' nx'
            exact propext ⟨fun q => ⟨q.1, fun _ _ => q.2⟩, fun q => ⟨q.1, q.2 (by trivial) hs⟩⟩
          · refine cast ?_ hl1
            congr 1
            funext v h' nx'
            exact propext ⟨fun q => ⟨q, fun _ h => absurd h hs⟩, fun q => q.1⟩
        case h_2 =>
          rename_i t x hop
          rw [hop] at hl1 ⊢
          simp only [vop] at hl1 ⊢
          refine cast ?_ hl1
          congr 1
          funext v
          exact propext ⟨fun q => ⟨q, fun _ h => h⟩, fun q => q.1⟩
        rename_i t x y hop
        split at has
        case h_2 => cases has
        rename_i ad hx
        split at has
        case h_2 => cases has
        rename_i hlk
        rw [hop] at hl1 ⊢
        simp only [vop] at hl1 ⊢
        obtain ⟨px, hpx, hl⟩ := on_ok hl1
        obtain ⟨v, hv, hl⟩ := on_ok hl
        rw [hpx, hv]
        simp only [on]
        rw [hpx] at hx
        injection hx with hx
        by_cases hs : ∀ k o, look hJ k = some o → look h k = some o
        · have := vstore_keep hx hlk hs hl
          refine (?_ : vstore T h nx t px v _)
          refine cast ?_ this
          congr 1
          funext v h' nx'
          exact propext ⟨fun q => ⟨q.1, fun _ _ => q.2⟩, fun q => ⟨q.1, q.2 (by trivial) hs⟩⟩
        · refine cast ?_ hl
          congr 1
          funext v h' nx'
          exact propext ⟨fun q => ⟨q, fun _ h => absurd h hs⟩, fun q => q.1⟩
    refine (vop_ok X.tab X.calls X.yields he1 J.heap hl2).upon hdef he r next Q fun v h' nx' ι' w' k1 k2 k3 k4 k5 k6 => ?_
    obtain ⟨env2, k7, k8, k9, k10⟩ := vput_ok (he1.names k6 k5) J.size k1.1 k2
    exact hpast v env2 h' nx' ι' w' k7 k8 k3 k4 k5 k6 k1.2
  · rw [hw, hwa]
    refine ⟨fun _ _ => trivial, ?_⟩
    obtain ⟨env2, k7, k8, k9, k10⟩ := vput_ok he1 J.size hl (v := undef) (scT_g rfl)
    have := hpast undef env2 h nx ι w k7 k8 J.heap (Bel.refl _ _) (fun _ _ => rfl) (Nat.le_refl _) (fun _ hs => hs)
    rwa [tr_g (show gT undef = true from rfl)] at this
end
end Go.Aw
end

/-
  Regions in any order: the whole. No condition.
-/
set_option linter.unusedSimpArgs false
set_option linter.unusedVariables false
noncomputable section
namespace Go.Aw
open Go.RowKit

section
variable {P : Program} {T : Tab} {C : VC} {Y : VY} {ops : Array Oper} {p : Plan}
variable {B : Nat} {w0 : World} {ιb : Nat → Loc} {nxb tn : Nat} {ds : List Deferred} {ι0 : Nat → Loc} {nx0 : Nat} {h0 hJ : Heap} {a0 : Act} {wS : World} {vals : List (Nat × Value)} {env1 : List (Nat × Value)} {K : KS}

def Lst (listed : Array Bool) (i : Nat) : Prop := listed.getD i false = true

theorem Lst.set {listed : Array Bool} {i : Nat} (hi : i < listed.size) : Lst (listed.setIfInBounds i true) = adds (Lst listed) i := by
  funext j
  unfold Lst adds
  apply propext
  by_cases h : j = i
  · subst h
    simp [hi]
  · rw [getD_set_ne false (fun e => h e.symm)]
    simp [h]

theorem ready_iff {listed : Array Bool} (hs : listed.size = ops.size) {i : Nat} : i ∈ Region.ready .any ops listed ↔ i < ops.size ∧ ¬ Lst listed i ∧ ∀ j ∈ predsAt ops.toList i, Lst listed j := by
  rw [mem_ready]
  constructor
  · rintro ⟨h1, o, ho, h2⟩
    have hlt := (Array.getElem?_eq_some_iff.1 ho).1
    refine ⟨hlt, ?_, fun j hj => ?_⟩
    · unfold Lst
      have hl : i < listed.size := by omega
      simp [hl] at h1 ⊢
      exact h1
    · have : getL ops.toList i = some o := by rw [getL_eq]; simpa using ho
      simp only [predsAt, this, predsOf, List.mem_filterMap] at hj
      obtain ⟨e, he, hj⟩ := hj
      split at hj
      · rename_i hb
        injection hj with hj
        subst hj
        exact h2 e (by simpa using he) hb
      · cases hj
  · rintro ⟨hlt, h1, h2⟩
    refine ⟨?_, ops[i], by simp [hlt], fun e he hb => ?_⟩
    · have hl : i < listed.size := by omega
      unfold Lst at h1
      simp [hl] at h1 ⊢
      exact h1
    · refine h2 e.on ?_
      have : getL ops.toList i = some ops[i] := by rw [getL_eq]; simp [hlt]
      simp only [predsAt, this, predsOf, List.mem_filterMap]
      exact ⟨e, by simpa using he, by rw [hb]⟩

def left (n : Nat) (listed : Array Bool) : Nat := ((List.range n).filter fun i => !listed.getD i false).length

theorem left_set {n : Nat} {listed : Array Bool} {i : Nat} (hi : i < n) (hs : listed.size = n) (hn : ¬ Lst listed i) : left n (listed.setIfInBounds i true) < left n listed := by
  unfold left
  have : (List.range n).filter (fun j => !(listed.setIfInBounds i true).getD j false) = ((List.range n).filter fun j => !listed.getD j false).filter (fun j => decide (j ≠ i)) := by
    rw [List.filter_filter]
    apply List.filter_congr
    intro j hj
    by_cases h : j = i
    · subst h
      have hl : j < listed.size := by omega
      simp [hl]
    · rw [getD_set_ne false (fun e => h e.symm)]
      simp [h]
  rw [this]
  refine Nat.lt_of_le_of_ne (List.length_filter_le _ _) fun e => ?_
  have := List.length_filter_eq_length_iff.1 e i (List.mem_filter.2 ⟨by simpa using hi, by unfold Lst at hn; simpa using hn⟩)
  simp at this

theorem all_of_stuck (hp : PlanOK ops p) {listed : Array Bool} (hs : listed.size = ops.size) (h : Region.ready .any ops listed = []) : ∀ i, i < ops.size → Lst listed i := by
  intro i
  induction i using Nat.strongRecOn with
  | _ i ih =>
    intro hi
    refine Classical.byContradiction fun hn => ?_
    have : i ∈ Region.ready .any ops listed := (ready_iff hs).2 ⟨hi, hn, fun j hj => ih j (hp.lin i hi j hj) (by have := hp.lin i hi j hj; omega)⟩
    rw [h] at this
    cases this

theorem region_done (X : Ctx P T C Y ops p B w0 ιb nxb tn ds ι0 nx0 h0 hJ a0 wS vals env1 K) {L : Nat → Prop} {a : Act} {w : World} (hall : ∀ i, i < ops.size → L i)
    (S : PreS T ops p tn ds ι0 a0 wS vals L a w ∨ PostS T C Y ops p B w0 ιb nxb tn ds ι0 nx0 hJ a0 vals K L a w) : ∃ ι env h nx, K env h nx ∧ Inv B w0 ιb nxb tn ds ι env h nx a w := by
  have hin : ∀ i ∈ p.order, L i := fun i hi => hall i (X.plan.inb i hi)
  have S : PostS T C Y ops p B w0 ιb nxb tn ds ι0 nx0 hJ a0 vals K L a w := by
    rcases S with S | S
    · exact S.post X (fun i hi => hin i (mem_order.2 (.inr (.inl hi)))) (fun i hi _ => hin i (mem_order.2 (.inl hi)))
    · exact S
  obtain ⟨done, rest, a', ι, env, h, nx, e1, e2, e3, e4, e5, I, J, e6, e7, e8, _, _⟩ := S
  cases rest with
  | cons t r => exact absurd (hin t.1 (mem_order.2 (.inr (.inr (List.mem_map.2 ⟨t, by rw [e1]; simp, rfl⟩))))) (e3 t (by simp))
  | nil =>
    exact ⟨ι, env, h, nx, e8, J.env.congr (fun d => (I.q2 d fun i hi _ => hin i (mem_order.2 (.inl hi))).symm), J.heap, J.below, J.old, J.le, I.size, I.defers⟩

theorem region_any (X : Ctx P T C Y ops p B w0 ιb nxb tn ds ι0 nx0 h0 hJ a0 wS vals env1 K) (r : Option Nat) {Q : Exit → Act → World → Prop}
    (hQ : ∀ ι env h nx a w, K env h nx → Inv B w0 ιb nxb tn ds ι env h nx a w → Q .normal a w) : ∀ (fuel : Nat) (listed : Array Bool) (a : Act) (w : World), listed.size = ops.size → left ops.size listed ≤ fuel →
    (∀ i, Lst listed i → ∀ j ∈ predsAt ops.toList i, Lst listed j) →
    (PreS T ops p tn ds ι0 a0 wS vals (Lst listed) a w ∨ PostS T C Y ops p B w0 ιb nxb tn ds ι0 nx0 hJ a0 vals K (Lst listed) a w) → wpAnyIn (Fr r) 0 P .any ops Q fuel listed a w := by
  have fin : ∀ (listed : Array Bool) (a : Act) (w : World), listed.size = ops.size → Region.ready .any ops listed = [] →
      (PreS T ops p tn ds ι0 a0 wS vals (Lst listed) a w ∨ PostS T C Y ops p B w0 ιb nxb tn ds ι0 nx0 hJ a0 vals K (Lst listed) a w) → Q .normal a w := by
    intro listed a w hs hr S
    obtain ⟨ι, env, h, nx, h1, h2⟩ := region_done X (all_of_stuck X.plan hs hr) S
    exact hQ ι env h nx a w h1 h2
  intro fuel
  induction fuel with
  | zero =>
    intro listed a w hs hl cl S
    have hr : Region.ready .any ops listed = [] := by
      refine List.eq_nil_iff_forall_not_mem.2 fun i hi => ?_
      obtain ⟨h1, h2, _⟩ := (ready_iff hs).1 hi
      have := left_set h1 hs h2
      omega
    exact ⟨hr, fin listed a w hs hr S⟩
  | succ fuel ih =>
    intro listed a w hs hl cl S
    refine ⟨fun hr => fin listed a w hs hr S, fun i hi => ?_⟩
    obtain ⟨h1, h2, h3⟩ := (ready_iff hs).1 hi
    have hL : ∀ i, Lst listed i → i < ops.size := by
      intro j hj
      unfold Lst at hj
      by_cases h : j < listed.size
      · omega
      · simp [h] at hj
    have next : ∀ a w, (PreS T ops p tn ds ι0 a0 wS vals (adds (Lst listed) i) a w ∨ PostS T C Y ops p B w0 ιb nxb tn ds ι0 nx0 hJ a0 vals K (adds (Lst listed) i) a w) →
        wpAnyIn (Fr r) 0 P .any ops Q fuel (listed.setIfInBounds i true) a w := by
      intro a w S'
      have hset := Lst.set (listed := listed) (i := i) (by omega)
      refine ih _ a w (by simp [hs]) (by have := left_set h1 hs h2; omega) ?_ (by rw [hset]; exact S')
      rw [hset]
      rintro j (rfl | hj) k hk
      · exact .inr (h3 k hk)
      · exact .inr (cl j hj k hk)
    rcases mem_order.1 (X.plan.cover i h1) with h | h | h
    · exact head_step X cl hL h h2 h3 S r _ Q next
    · rcases S with S | S
      · exact alloc_step X h h2 S r _ Q fun a w s => next a w (.inl s)
      · obtain ⟨_, _, _, _, _, _, _, _, _, _, e4, _⟩ := S
        exact absurd (e4 i h) h2
    · have S : PostS T C Y ops p B w0 ιb nxb tn ds ι0 nx0 hJ a0 vals K (Lst listed) a w := by
        rcases S with S | S
        · have hfirst := tail_first X.plan.tailP (L := Lst listed) (fun t ht => S.noT _ (List.mem_map.2 ⟨t, ht, rfl⟩)) h cl h3
          obtain ⟨c, rr, hrr⟩ := hfirst
          obtain ⟨f1, f2⟩ := X.plan.first i c rr hrr
          exact S.post X (fun j hj => predsC_all cl h3 j (f1 j hj)) (fun j hj hk => predsC_all cl h3 j (f2 j hj hk))
        · exact S
      exact tail_step X h h2 cl h3 S r _ Q fun a w s => next a w (.inr s)

theorem vregion_ok (hT : TabOK P T) (hC : CallsOK P C) (hY : YieldsOK P Y) (hD : DetC C) (hm : P.follows .mixedOrders = true) (hp : PlanOK ops p) {ι : Nat → Loc} {env : List (Nat × Value)} {h : Heap} {nx : Nat} {a : Act} {w : World} (I : Inv B w0 ιb nxb tn ds ι env h nx a w)
    (hl : vregion std T C Y tn ops.toList p env h nx K) (r : Option Nat) {id : Nat} {Q : Exit → Act → World → Prop} (hQ : ∀ ι env h nx a w, K env h nx → Inv B w0 ιb nxb tn ds ι env h nx a w → Q .normal a w) :
    (Code.region id ops true).wpIn (Fr r) 0 P Q a w := by
  refine wpIn_region_any hm ?_
  unfold vregion at hl
  have H := I.heap.drawn (w.drawn + 1)
  have hb : Bel B w { w with drawn := w.drawn + 1 } := ⟨rfl, rfl, rfl, Nat.le_refl _, fun _ _ => rfl, Nat.le_succ _⟩
  have hsub : ∀ k o, look (asideHeap ops.toList env p.tail h) k = some o → look h k = some o := fun k o hk => asideHeap_sub hk
  obtain ⟨vals, env1, ι, nx, k1, hi, hn, k2, k3, k4, k5⟩ := vhead_ok hT hC hD hp.plain p.head env a ι nx (H.sub hsub) hl I.env I.size
  have X : Ctx P T C Y ops p B w0 ιb nxb tn ds ι nx h (asideHeap ops.toList env p.tail h) a { w with drawn := w.drawn + 1 } vals env1 K :=
    ⟨hT, hC, hY, hp, fun k hk => (hi k (Nat.lt_of_lt_of_le hk I.le)).trans (I.old k hk), Nat.le_trans I.le hn, I.size, I.defers, H.wide hi hn, I.below.trans hb, hsub, k2, k3, k4, k5, k1⟩
  have hno : ∀ i, ¬ Lst (Array.replicate ops.size false) i := by
    intro i
    unfold Lst
    by_cases h : i < ops.size <;> simp [h]
  refine region_any X r hQ ops.size _ a _ (by simp) ?_ (fun i hi => absurd hi (hno i)) (.inl ?_)
  · unfold left
    exact Nat.le_trans (List.length_filter_le _ _) (by simp)
  · refine ⟨fun t _ => hno t, Bel.refl _ _, putAll ops ι vals a, fun _ => 0, ?_, fun d _ => rfl, fun i _ hi => absurd hi (hno i), fun i _ j _ hi => absurd hi (hno i)⟩
    have hmem : ∀ i v, (i, v) ∈ vals → i ∈ p.head := fun i v h => by rw [← k2]; exact List.mem_map.2 ⟨_, h, rfl⟩
    have hnd : (vals.map (·.1)).Nodup := by
      have := hp.nodup
      unfold Plan.order at this
      rw [List.append_assoc, List.nodup_append] at this
      rw [k2]
      exact this.1
    refine ⟨I.size, by rw [putAll_size]; exact I.size, I.defers, by rw [putAll_defers]; exact I.defers, fun i v d hi hd => ?_, fun d hd => ?_, fun d hd => ?_, fun i d _ _ _ => rfl⟩
    · exact putAll_some vals a (by rw [I.size]; exact k4 _ hi d hd) hi hd (fun q hq h2 => hp.dsts _ _ d (dst_lt h2) (dst_lt hd) h2 hd) hnd
    · rw [putAll_none]
      intro q hq hqd
      exact hno q.1 (hd q.1 (hmem q.1 q.2 hq) hqd)
    · rw [putAll_none]
      intro q hq
      exact hd q.1 (.inl (hmem q.1 q.2 hq))
end
end Go.Aw
end

/-
  Regions: every order, one by one. No condition.
-/
set_option linter.unusedSimpArgs false
set_option linter.unusedVariables false
noncomputable section
namespace Go.Aw
open Go.RowKit
/-- One operation of a region. -/
def vstep (A : Ar) (T : Tab) (C : VC) (Y : VY) (tn : Nat) (ops : List Oper) (o : Oper) (e : List (Nat × Value)) (h : Heap) (nx : Nat) (K : KS) : Prop :=
  vguard A ops e o.guard (fun e => vop A T C Y e h nx o.op fun v h' nx' => vput tn e o.dst v fun e' => K e' h' nx') (fun e => vput tn e o.dst undef fun e' => K e' h nx)
def allM (l : List Nat) : List Nat → Bool
  | [] => true
  | j :: r => match memB j l with | true => allM l r | false => false
theorem allM_iff {l m : List Nat} : allM l m = true ↔ ∀ j ∈ m, j ∈ l := by
  induction m with
  | nil => simp [allM]
  | cons x r ih =>
    simp only [allM]
    split
    · rename_i h
      rw [ih]
      constructor
      · intro h2 j hj
        rcases List.mem_cons.1 hj with rfl | hj
        · exact memB_iff.1 h
        · exact h2 j hj
      · exact fun h2 j hj => h2 j (.tail _ hj)
    · rename_i h
      constructor
      · intro h2; cases h2
      · intro h2
        rw [memB_iff.2 (h2 x (.head _))] at h
        cases h
/-- What may come next: by the operations' own numbers, from i on. -/
def readyL (all : List Oper) (done : List Nat) : List Oper → Nat → List Nat
  | [], _ => []
  | o :: r, i => match memB i done with
    | true => readyL all done r (i + 1)
    | false => (match allM done (predsOf o) with | true => i :: readyL all done r (i + 1) | false => readyL all done r (i + 1))
theorem readyL_mem {all : List Oper} {done : List Nat} : ∀ {l : List Oper} {i k : Nat}, k ∈ readyL all done l i ↔ ∃ j o, k = i + j ∧ getL l j = some o ∧ k ∉ done ∧ ∀ x ∈ predsOf o, x ∈ done := by
  intro l
  induction l with
  | nil =>
    intro i k
    constructor
    · intro h; cases h
    · rintro ⟨j, o, _, h, _⟩
      rw [getL_eq] at h
      simp at h
  | cons p r ih =>
    intro i k
    have shift : (∃ j o, k = i + 1 + j ∧ getL r j = some o ∧ k ∉ done ∧ ∀ x ∈ predsOf o, x ∈ done) → ∃ j o, k = i + j ∧ getL (p :: r) j = some o ∧ k ∉ done ∧ ∀ x ∈ predsOf o, x ∈ done := by
      rintro ⟨j, o, h1, h2, h3⟩
      refine ⟨j + 1, o, by omega, ?_, h3⟩
      rw [getL_eq] at h2 ⊢
      simpa using h2
    have back : (∃ j o, k = i + j ∧ getL (p :: r) j = some o ∧ k ∉ done ∧ ∀ x ∈ predsOf o, x ∈ done) → (k = i ∧ i ∉ done ∧ ∀ x ∈ predsOf p, x ∈ done) ∨ ∃ j o, k = i + 1 + j ∧ getL r j = some o ∧ k ∉ done ∧ ∀ x ∈ predsOf o, x ∈ done := by
      rintro ⟨j, o, h1, h2, h3⟩
      cases j with
      | zero =>
        rw [getL_eq] at h2
        simp at h2
        subst h2
        exact .inl ⟨by omega, by rw [show i = k by omega]; exact h3.1, h3.2⟩
      | succ j =>
        refine .inr ⟨j, o, by omega, ?_, h3⟩
        rw [getL_eq] at h2 ⊢
        simpa using h2
    simp only [readyL]
    split
    · rename_i hm
      rw [ih]
      refine ⟨shift, fun h => ?_⟩
      rcases back h with ⟨_, hn, _⟩ | h
      · exact absurd (memB_iff.1 hm) hn
      · exact h
    · rename_i hm
      have hn : i ∉ done := fun h => by rw [memB_iff.2 h] at hm; cases hm
      split
      · rename_i ha
        rw [List.mem_cons, ih]
        constructor
        · rintro (rfl | h)
          · exact ⟨0, p, rfl, by rw [getL_eq]; rfl, hn, allM_iff.1 ha⟩
          · exact shift h
        · intro h
          rcases back h with ⟨h, _⟩ | h
          · exact .inl h
          · exact .inr h
      · rename_i ha
        rw [ih]
        refine ⟨shift, fun h => ?_⟩
        rcases back h with ⟨_, _, h⟩ | h
        · rw [allM_iff.2 h] at ha; cases ha
        · exact h
def vall (F : Nat → Prop) : List Nat → Prop
  | [] => True
  | [i] => F i
  | i :: r => F i ∧ vall F r
theorem vall_iff {F : Nat → Prop} : ∀ {l : List Nat}, vall F l ↔ ∀ i ∈ l, F i
  | [] => by simp [vall]
  | [i] => by simp [vall]
  | i :: j :: r => by
    rw [show vall F (i :: j :: r) = (F i ∧ vall F (j :: r)) from rfl, vall_iff]
    simp
/-- Every order; at its end K. -/
def vany (A : Ar) (T : Tab) (C : VC) (Y : VY) (tn : Nat) (ops : List Oper) (K : KS) : Nat → List Nat → KS
  | 0, _ => K
  | n + 1, done => fun e h nx => match readyL ops done ops 0 with
    | [] => K e h nx
    | i :: r => vall (fun j => match getL ops j with | some o => vstep A T C Y tn ops o e h nx (vany A T C Y tn ops K n (j :: done)) | none => False) (i :: r)
section
variable {P : Program} {T : Tab} {C : VC} {Y : VY} {ops : Array Oper}
variable {B : Nat} {w0 : World} {ιb : Nat → Loc} {nxb tn : Nat} {ds : List Deferred} {K : KS}
theorem vstep_ok (hT : TabOK P T) (hC : CallsOK P C) (hY : YieldsOK P Y) (r : Option Nat) {Q : Exit → Act → World → Prop} {i : Nat} {o : Oper} (ho : getL ops.toList i = some o) {ι : Nat → Loc} {e : List (Nat × Value)} {h : Heap} {nx : Nat} {a : Act} {w : World}
    (hl : vstep std T C Y tn ops.toList o e h nx K) (I : Inv B w0 ιb nxb tn ds ι e h nx a w) {next : Act → World → Prop}
    (hQ : ∀ ι e h nx a w, K e h nx → Inv B w0 ιb nxb tn ds ι e h nx a w → next a w) : wpOpIn (Fr r) 0 P ops Q i next a w := by
  have hoo : ops[i]? = some o := by rw [getL_eq] at ho; simpa using ho
  unfold wpOpIn
  simp only [hoo]
  unfold vstep at hl
  obtain ⟨env1, he1, hcase⟩ := vguard_ok I.env hl
  rcases hcase with ⟨hw, hl⟩ | ⟨hw, hl⟩
  · rw [if_pos hw]
    refine (vop_ok hT hC hY he1 I.heap hl).upon (vop_nodefer hl) rfl r _ _ fun v h' nx' ι' w' k1 k2 k3 k4 k5 k6 => ?_
    obtain ⟨env2, k7, k8, k9, k10⟩ := vput_ok (he1.names k6 k5) I.size k1 k2
    exact hQ ι' env2 h' nx' _ w' k7 (I.step k8 k3 k4 k5 k6 k9 k10)
  · rw [hw]
    refine ⟨fun _ _ => trivial, ?_⟩
    obtain ⟨env2, k7, k8, k9, k10⟩ := vput_ok he1 I.size hl (v := undef) (scT_g rfl)
    rw [tr_g (show gT undef = true from rfl)] at k8 k9 k10
    exact hQ ι env2 h nx _ w k7 (I.step k8 I.heap (Bel.refl _ _) (fun _ _ => rfl) (Nat.le_refl _) k9 k10)
theorem ready_same {listed : Array Bool} (hs : listed.size = ops.size) {done : List Nat} (hd : ∀ i, Lst listed i ↔ i ∈ done) {i : Nat} : i ∈ Region.ready .any ops listed ↔ i ∈ readyL ops.toList done ops.toList 0 := by
  rw [ready_iff hs, readyL_mem]
  constructor
  · rintro ⟨h1, h2, h3⟩
    have ho : getL ops.toList i = some ops[i] := by rw [getL_eq]; simp [h1]
    refine ⟨i, ops[i], by omega, ho, fun h => h2 ((hd i).2 h), fun x hx => (hd x).1 (h3 x ?_)⟩
    unfold predsAt
    rw [ho]
    exact hx
  · rintro ⟨j, o, h1, h2, h3, h4⟩
    have hij : i = j := by omega
    subst hij
    have hlt : i < ops.size := by
      rw [getL_eq] at h2
      have := (List.getElem?_eq_some_iff.1 h2).1
      simpa using this
    refine ⟨hlt, fun h => h3 ((hd i).1 h), fun x hx => (hd x).2 (h4 x ?_)⟩
    unfold predsAt at hx
    rw [h2] at hx
    exact hx
theorem vany_ok (hT : TabOK P T) (hC : CallsOK P C) (hY : YieldsOK P Y) (r : Option Nat) {Q : Exit → Act → World → Prop}
    (hQ : ∀ ι e h nx a w, K e h nx → Inv B w0 ιb nxb tn ds ι e h nx a w → Q .normal a w) : ∀ (n : Nat) (listed : Array Bool) (done : List Nat) (ι : Nat → Loc) (e : List (Nat × Value)) (h : Heap) (nx : Nat) (a : Act) (w : World),
    listed.size = ops.size → (∀ i, Lst listed i ↔ i ∈ done) → left ops.size listed ≤ n → vany std T C Y tn ops.toList K n done e h nx → Inv B w0 ιb nxb tn ds ι e h nx a w → wpAnyIn (Fr r) 0 P .any ops Q n listed a w := by
  intro n
  induction n with
  | zero =>
    intro listed done ι e h nx a w hs hd hl hv I
    refine ⟨?_, hQ ι e h nx a w hv I⟩
    refine List.eq_nil_iff_forall_not_mem.2 fun i hi => ?_
    obtain ⟨h1, h2, _⟩ := (ready_iff hs).1 hi
    have := left_set h1 hs h2
    omega
  | succ n ih =>
    intro listed done ι e h nx a w hs hd hl hv I
    simp only [vany] at hv
    split at hv
    · rename_i hr
      have hno : ∀ i, i ∉ Region.ready .any ops listed := fun i hi => by
        have := (ready_same hs hd).1 hi
        rw [hr] at this
        cases this
      exact ⟨fun _ => hQ ι e h nx a w hv I, fun i hi => absurd hi (hno i)⟩
    · rename_i i0 r0 hr
      rw [vall_iff] at hv
      refine ⟨fun hn => ?_, fun i hi => ?_⟩
      · exfalso
        have : i0 ∈ Region.ready .any ops listed := (ready_same hs hd).2 (by rw [hr]; exact .head _)
        rw [hn] at this
        cases this
      · obtain ⟨h1, h2, _⟩ := (ready_iff hs).1 hi
        have hv' := hv i (by rw [← hr]; exact (ready_same hs hd).1 hi)
        split at hv'
        case h_2 => exact hv'.elim
        rename_i o ho
        refine vstep_ok hT hC hY r ho hv' I fun ι e h nx a w hk J => ?_
        have hset := Lst.set (listed := listed) (i := i) (by omega)
        refine ih _ (i :: done) ι e h nx a w (by simp [hs]) (fun j => ?_) (by have := left_set h1 hs h2; omega) hk J
        rw [hset]
        unfold adds
        rw [hd j, List.mem_cons]
/-- A drawn region, each of its orders by itself. -/
theorem vanyR_ok (hT : TabOK P T) (hC : CallsOK P C) (hY : YieldsOK P Y) (hm : P.follows .mixedOrders = true) {ι : Nat → Loc} {env : List (Nat × Value)} {h : Heap} {nx : Nat} {a : Act} {w : World} (I : Inv B w0 ιb nxb tn ds ι env h nx a w)
    (hl : vany std T C Y tn ops.toList K ops.size [] env h nx) (r : Option Nat) {id : Nat} {Q : Exit → Act → World → Prop} (hQ : ∀ ι env h nx a w, K env h nx → Inv B w0 ιb nxb tn ds ι env h nx a w → Q .normal a w) :
    (Code.region id ops true).wpIn (Fr r) 0 P Q a w := by
  refine wpIn_region_any hm ?_
  have H := I.heap.drawn (w.drawn + 1)
  have hb : Bel B w { w with drawn := w.drawn + 1 } := ⟨rfl, rfl, rfl, Nat.le_refl _, fun _ _ => rfl, Nat.le_succ _⟩
  have hno : ∀ i, ¬ Lst (Array.replicate ops.size false) i := by
    intro i
    unfold Lst
    by_cases h : i < ops.size <;> simp [h]
  refine vany_ok hT hC hY r hQ ops.size _ [] ι env h nx a _ (by simp) (fun i => ⟨fun h => absurd h (hno i), fun h => by cases h⟩) ?_ hl ⟨I.env, H, I.below.trans hb, I.old, I.le, I.size, I.defers⟩
  unfold left
  exact Nat.le_trans (List.length_filter_le _ _) (by simp)
end
end Go.Aw
end

/-
  An evaluation's outcome is one. No condition.
-/
set_option linter.unusedSimpArgs false
set_option linter.unusedVariables false
noncomputable section
namespace Go.Aw
open Go.RowKit

def Det {α : Type} (E : (α → Prop) → Prop) : Prop := ∀ K, E K → ∃ x, K x ∧ ∀ K' : α → Prop, K' x → E K'
def un (K : KE) : Value × Heap × Nat → Prop := fun x => K x.1 x.2.1 x.2.2
def DetE (E : KE → Prop) : Prop := ∀ K : KE, E K → ∃ v h nx, K v h nx ∧ ∀ K' : KE, K' v h nx → E K'
def DetS (E : KS → Prop) : Prop := ∀ K : KS, E K → ∃ e h nx, K e h nx ∧ ∀ K' : KS, K' e h nx → E K'

theorem br_iff {b : Bool} {A B : Unit → Prop} : br b A B ↔ ((b = true ∧ A ()) ∨ (b = false ∧ B ())) := by
  cases b <;> simp [br]

variable {A : Ar} {T : Tab} {h : Heap} {nx : Nat}

theorem det_on {α : Type} {x : Option Value} {F : Value → (α → Prop) → Prop} (hF : ∀ v, Det (F v)) : Det (fun K => on x (fun v => F v K)) := by
  intro K hl
  cases x with
  | none => exact hl.elim
  | some v => exact hF v K hl
theorem detE_on {x : Option Value} {F : Value → KE → Prop} (hF : ∀ v, DetE (F v)) : DetE (fun K => on x (fun v => F v K)) := by
  intro K hl
  cases x with
  | none => exact hl.elim
  | some v => exact hF v K hl
theorem det_on1 {x : Option Value} : Det (on x) := by
  intro K hl
  cases x with
  | none => exact hl.elim
  | some v => exact ⟨v, hl, fun K' h => h⟩

theorem det_vload {t : TypeId} {x : Value} : Det (vload T h t x) := by
  intro K hl
  unfold vload at *
  repeat' (split at hl)
  all_goals first | (exact hl.elim) | (exact ⟨_, hl, fun K' h => h⟩) | (exact ⟨_, _, _, hl, fun K' h => h⟩) | (obtain ⟨hb, hl⟩ := must_iff.1 hl; exact ⟨_, hl, fun K' h => must_of hb h⟩) | (obtain ⟨hb, hl⟩ := must_iff.1 hl; exact ⟨_, _, _, hl, fun K' h => must_of hb h⟩)
theorem det_vfieldAddr {t : TypeId} {x : Value} {f : Nat} : Det (vfieldAddr T t x f) := by
  intro K hl
  unfold vfieldAddr at *
  repeat' (split at hl)
  all_goals first | (exact hl.elim) | (exact ⟨_, hl, fun K' h => h⟩) | (exact ⟨_, _, _, hl, fun K' h => h⟩) | (obtain ⟨hb, hl⟩ := must_iff.1 hl; exact ⟨_, hl, fun K' h => must_of hb h⟩) | (obtain ⟨hb, hl⟩ := must_iff.1 hl; exact ⟨_, _, _, hl, fun K' h => must_of hb h⟩)
theorem det_must {α : Type} {b : Bool} {E : (α → Prop) → Prop} (h : Det E) : Det (fun K => must b (E K)) := by
  intro K hl
  obtain ⟨hb, hl⟩ := must_iff.1 hl
  obtain ⟨x, h1, h2⟩ := h K hl
  exact ⟨x, h1, fun K' hk => must_of hb (h2 K' hk)⟩
theorem detE_must {b : Bool} {E : KE → Prop} (h : DetE E) : DetE (fun K => must b (E K)) := by
  intro K hl
  obtain ⟨hb, hl⟩ := must_iff.1 hl
  obtain ⟨x, y, z, h1, h2⟩ := h K hl
  exact ⟨x, y, z, h1, fun K' hk => must_of hb (h2 K' hk)⟩
theorem det_pure {α : Type} {x : α} : Det (fun K : α → Prop => K x) := fun K hl => ⟨x, hl, fun K' h => h⟩
theorem detE_pure {v : Value} {h : Heap} {nx : Nat} : DetE (fun K => K v h nx) := fun K hl => ⟨v, h, nx, hl, fun K' h => h⟩
theorem det_false {α : Type} : Det (fun _ : α → Prop => False) := fun K hl => hl.elim
theorem detE_false : DetE (fun _ => False) := fun K hl => hl.elim
theorem det_br {α : Type} {b : Bool} {E F : (α → Prop) → Prop} (hE : Det E) (hF : Det F) : Det (fun K => br b (fun _ => E K) (fun _ => F K)) := by
  intro K hl
  cases b
  · exact hF K hl
  · exact hE K hl
theorem detE_br {b : Bool} {E F : KE → Prop} (hE : DetE E) (hF : DetE F) : DetE (fun K => br b (fun _ => E K) (fun _ => F K)) := by
  intro K hl
  cases b
  · exact hF K hl
  · exact hE K hl

theorem det_vindexAddr {t : TypeId} {x i : Value} : Det (vindexAddr A T t x i) := by
  intro K hl
  unfold vindexAddr at *
  repeat' (split at hl)
  all_goals first | (exact hl.elim) | (exact ⟨_, hl, fun K' h => h⟩) | (exact ⟨_, _, _, hl, fun K' h => h⟩) | (obtain ⟨hb, hl⟩ := must_iff.1 hl; exact ⟨_, hl, fun K' h => must_of hb h⟩) | (obtain ⟨hb, hl⟩ := must_iff.1 hl; exact ⟨_, _, _, hl, fun K' h => must_of hb h⟩)
theorem det_vint {op : BinOp} {k : IntKind} {a b : Int} : Det (vint A op k a b) := by
  intro K hl
  unfold vint at *
  repeat' (split at hl)
  all_goals first | (exact hl.elim) | (exact ⟨_, hl, fun K' h => h⟩) | (exact ⟨_, _, _, hl, fun K' h => h⟩) | (obtain ⟨hb, hl⟩ := must_iff.1 hl; exact ⟨_, hl, fun K' h => must_of hb h⟩) | (obtain ⟨hb, hl⟩ := must_iff.1 hl; exact ⟨_, _, _, hl, fun K' h => must_of hb h⟩)
theorem det_vpart {t : TypeId} {cs : List Value} {o : Nat} : Det (vpart T t cs o) := by
  intro K hl
  unfold vpart at *
  repeat' (split at hl)
  all_goals first | (exact hl.elim) | (exact ⟨_, hl, fun K' h => h⟩) | (exact ⟨_, _, _, hl, fun K' h => h⟩) | (obtain ⟨hb, hl⟩ := must_iff.1 hl; exact ⟨_, hl, fun K' h => must_of hb h⟩) | (obtain ⟨hb, hl⟩ := must_iff.1 hl; exact ⟨_, _, _, hl, fun K' h => must_of hb h⟩)
theorem det_vfield {t : TypeId} {x : Value} {f : Nat} : Det (vfield T t x f) := by
  intro K hl
  unfold vfield at *
  repeat' (split at hl)
  all_goals first | (exact det_vpart K hl) | (exact hl.elim) | (exact ⟨_, hl, fun K' h => h⟩) | (exact ⟨_, _, _, hl, fun K' h => h⟩) | (obtain ⟨hb, hl⟩ := must_iff.1 hl; exact ⟨_, hl, fun K' h => must_of hb h⟩) | (obtain ⟨hb, hl⟩ := must_iff.1 hl; exact ⟨_, _, _, hl, fun K' h => must_of hb h⟩)
theorem det_vindex {t : TypeId} {x i : Value} : Det (vindex A T t x i) := by
  intro K hl
  unfold vindex at *
  repeat' (split at hl)
  all_goals first | (exact det_must det_vpart K hl) | (exact hl.elim) | (exact ⟨_, hl, fun K' h => h⟩) | (exact ⟨_, _, _, hl, fun K' h => h⟩) | (obtain ⟨hb, hl⟩ := must_iff.1 hl; exact ⟨_, hl, fun K' h => must_of hb h⟩) | (obtain ⟨hb, hl⟩ := must_iff.1 hl; exact ⟨_, _, _, hl, fun K' h => must_of hb h⟩)
theorem det_vbin {op : BinOp} {t : TypeId} {x y : Value} : Det (vbin A T op t x y) := by
  intro K hl
  unfold vbin at *
  repeat' (split at hl)
  all_goals first | (exact hl.elim) | (exact ⟨_, hl, fun K' h => h⟩) | (exact ⟨_, _, _, hl, fun K' h => h⟩) | (obtain ⟨hb, hl⟩ := must_iff.1 hl; exact ⟨_, hl, fun K' h => must_of hb h⟩) | (obtain ⟨hb, hl⟩ := must_iff.1 hl; exact ⟨_, _, _, hl, fun K' h => must_of hb h⟩) | (exact det_vint K hl)
theorem det_vun {op : UnOp} {x : Value} : Det (vun A op x) := by
  intro K hl
  unfold vun at *
  repeat' (split at hl)
  all_goals first | (exact hl.elim) | (exact ⟨_, hl, fun K' h => h⟩) | (exact ⟨_, _, _, hl, fun K' h => h⟩) | (obtain ⟨hb, hl⟩ := must_iff.1 hl; exact ⟨_, hl, fun K' h => must_of hb h⟩) | (obtain ⟨hb, hl⟩ := must_iff.1 hl; exact ⟨_, _, _, hl, fun K' h => must_of hb h⟩)
theorem det_vbuild {t : TypeId} {ps : List (Nat × Value)} : Det (vbuild T t ps) := by
  intro K hl
  unfold vbuild at *
  repeat' (split at hl)
  all_goals first | (exact hl.elim) | (exact ⟨_, hl, fun K' h => h⟩) | (exact ⟨_, _, _, hl, fun K' h => h⟩) | (obtain ⟨hb, hl⟩ := must_iff.1 hl; exact ⟨_, hl, fun K' h => must_of hb h⟩) | (obtain ⟨hb, hl⟩ := must_iff.1 hl; exact ⟨_, _, _, hl, fun K' h => must_of hb h⟩)
theorem det_vbuiltin {b : Builtin} {ts : Array TypeId} {vs : List Value} : Det (vbuiltin A T b ts vs) := by
  intro K hl
  unfold vbuiltin at *
  repeat' (split at hl)
  all_goals first | (exact hl.elim) | (exact ⟨_, hl, fun K' h => h⟩) | (exact ⟨_, _, _, hl, fun K' h => h⟩) | (obtain ⟨hb, hl⟩ := must_iff.1 hl; exact ⟨_, hl, fun K' h => must_of hb h⟩) | (obtain ⟨hb, hl⟩ := must_iff.1 hl; exact ⟨_, _, _, hl, fun K' h => must_of hb h⟩) | (exact det_on1 K hl)

theorem det_vnil {op : BinOp} {t : TypeId} {x : Value} : Det (vnil T h op t x) := by
  intro K hl
  unfold vnil at *
  repeat' (split at hl)
  all_goals first | (exact hl.elim) | (exact ⟨_, hl, fun K' h => h⟩)
theorem det_vlook {env : List (Nat × Value)} {op : Op} : Det (vlook A T env h op) := by
  show Det (fun K => vlook A T env h op K)
  cases op <;> simp only [vlook]
  case move x => exact det_on1
  case assign x => exact det_on1
  case pick c a b =>
    refine det_on fun u => ?_
    intro K hl
    split at hl
    · exact det_br det_on1 det_on1 K hl
    · exact hl.elim
  case nilCheck x =>
    refine det_on fun u => ?_
    intro K hl
    split at hl
    all_goals first | (exact hl.elim) | (exact ⟨_, hl, fun K' h => h⟩)
  case load t x => exact det_on fun u => det_vload
  case fieldAddr s x f => exact det_on fun u => det_vfieldAddr
  case field s x f => exact det_on fun u => det_vfield
  case indexAddr t x i => exact det_on fun u => det_on fun j => det_vindexAddr
  case index t x i => exact det_on fun u => det_on fun j => det_vindex
  case binOp op t x y yt =>
    refine det_on fun u => det_on fun v => ?_
    intro K hl
    split at hl
    · exact det_vnil K hl
    · exact det_vbin K hl
  case unOp op t x => exact det_on fun u => det_vun
  case convert s d x =>
    refine det_on fun u => ?_
    intro K hl
    split at hl
    · exact det_must det_pure K hl
    · exact hl.elim
  case makeFunc fn first cap =>
    intro K hl
    repeat' (split at hl)
    all_goals first | (exact hl.elim) | (exact ⟨_, hl, fun K' h => h⟩)
  case extract x i =>
    refine det_on fun u => ?_
    intro K hl
    split at hl
    · exact det_on1 K hl
    · exact hl.elim
  case build t ps =>
    intro K hl
    split at hl
    · exact det_vbuild K hl
    · exact hl.elim
  case call c =>
    intro K hl
    split at hl
    · split at hl
      · exact det_vbuiltin K hl
      · exact hl.elim
    · exact hl.elim
  all_goals exact det_false

theorem detE_of {E : (Value → Prop) → Prop} (hE : Det E) : DetE (fun K => E (fun v => K v h nx)) := by
  intro K hl
  obtain ⟨v, h1, h2⟩ := hE _ hl
  exact ⟨v, h, nx, h1, fun K' hk => h2 _ hk⟩

theorem det_vstore {t : TypeId} {x v : Value} : DetE (vstore T h nx t x v) := by
  intro K hl
  unfold vstore at *
  repeat' (split at hl)
  all_goals first | (exact hl.elim) | (exact ⟨_, hl, fun K' h => h⟩) | (exact ⟨_, _, _, hl, fun K' h => h⟩) | (obtain ⟨hb, hl⟩ := must_iff.1 hl; exact ⟨_, hl, fun K' h => must_of hb h⟩) | (obtain ⟨hb, hl⟩ := must_iff.1 hl; exact ⟨_, _, _, hl, fun K' h => must_of hb h⟩)
theorem det_valloc {t : TypeId} : DetE (valloc T h nx t) := by
  intro K hl
  unfold valloc at *
  repeat' (split at hl)
  all_goals first | (exact hl.elim) | (exact ⟨_, hl, fun K' h => h⟩) | (exact ⟨_, _, _, hl, fun K' h => h⟩) | (obtain ⟨hb, hl⟩ := must_iff.1 hl; exact ⟨_, hl, fun K' h => must_of hb h⟩) | (obtain ⟨hb, hl⟩ := must_iff.1 hl; exact ⟨_, _, _, hl, fun K' h => must_of hb h⟩)
theorem det_vbox {v : Value} : DetE (vbox h nx v) := by
  intro K hl
  unfold vbox at *
  repeat' (split at hl)
  all_goals first | (exact hl.elim) | (exact ⟨_, hl, fun K' h => h⟩) | (exact ⟨_, _, _, hl, fun K' h => h⟩) | (obtain ⟨hb, hl⟩ := must_iff.1 hl; exact ⟨_, hl, fun K' h => must_of hb h⟩) | (obtain ⟨hb, hl⟩ := must_iff.1 hl; exact ⟨_, _, _, hl, fun K' h => must_of hb h⟩)
theorem det_vbuildSlice {t : TypeId} {n : Nat} {ps : List (Nat × Value)} : DetE (vbuildSlice T h nx t n ps) := by
  intro K hl
  unfold vbuildSlice at *
  repeat' (split at hl)
  all_goals first | (exact hl.elim) | (exact ⟨_, hl, fun K' h => h⟩) | (exact ⟨_, _, _, hl, fun K' h => h⟩) | (obtain ⟨hb, hl⟩ := must_iff.1 hl; exact ⟨_, hl, fun K' h => must_of hb h⟩) | (obtain ⟨hb, hl⟩ := must_iff.1 hl; exact ⟨_, _, _, hl, fun K' h => must_of hb h⟩)
theorem det_vclear {t : TypeId} {x : Value} : DetE (vclear T h nx t x) := by
  intro K hl
  unfold vclear at *
  repeat' (split at hl)
  all_goals first | (exact hl.elim) | (exact ⟨_, hl, fun K' h => h⟩) | (exact ⟨_, _, _, hl, fun K' h => h⟩) | (obtain ⟨hb, hl⟩ := must_iff.1 hl; exact ⟨_, hl, fun K' h => must_of hb h⟩) | (obtain ⟨hb, hl⟩ := must_iff.1 hl; exact ⟨_, _, _, hl, fun K' h => must_of hb h⟩)
theorem det_vmapUpdate {t : TypeId} {x k v : Value} : DetE (vmapUpdate A T h nx t x k v) := by
  intro K hl
  unfold vmapUpdate at *
  repeat' (split at hl)
  all_goals first | (exact hl.elim) | (exact ⟨_, hl, fun K' h => h⟩) | (exact ⟨_, _, _, hl, fun K' h => h⟩) | (obtain ⟨hb, hl⟩ := must_iff.1 hl; exact ⟨_, hl, fun K' h => must_of hb h⟩) | (obtain ⟨hb, hl⟩ := must_iff.1 hl; exact ⟨_, _, _, hl, fun K' h => must_of hb h⟩)
theorem det_vlookup {t : TypeId} {x k : Value} {ok : Bool} : Det (vlookup A T h t x k ok) := by
  intro K hl
  unfold vlookup at *
  repeat' (split at hl)
  all_goals first | (exact hl.elim) | (exact ⟨_, hl, fun K' h => h⟩) | (exact ⟨_, _, _, hl, fun K' h => h⟩) | (obtain ⟨hb, hl⟩ := must_iff.1 hl; exact ⟨_, hl, fun K' h => must_of hb h⟩) | (obtain ⟨hb, hl⟩ := must_iff.1 hl; exact ⟨_, _, _, hl, fun K' h => must_of hb h⟩)
theorem detE_vhi {n c : Nat} {hi : Option Value} {G : Nat → KE → Prop} (hG : ∀ m, DetE (G m)) : DetE (fun K => vhi A n c hi fun m => G m K) := by
  intro K hl
  unfold vhi at *
  split at hl
  · exact hG _ K hl
  · exact detE_must (hG _) K hl
  · exact hl.elim
theorem det_vslice {t : TypeId} {x : Value} {lo hi mx : Option Value} : DetE (vslice A T h nx t x lo hi mx) := by
  intro K hl
  unfold vslice at *
  split at hl
  case h_2 => exact hl.elim
  split at hl
  · exact hl.elim
  split at hl
  · split at hl
    · exact detE_pure K hl
    · exact hl.elim
  · refine detE_vhi (fun m => ?_) K hl
    intro K hl
    split at hl
    · exact detE_pure K hl
    · refine detE_must ?_ K hl
      intro K hl
      split at hl
      · exact detE_br detE_pure detE_pure K hl
      · exact hl.elim
    · exact hl.elim
  · split at hl
    · exact detE_pure K hl
    · exact hl.elim
  · split at hl
    · exact detE_must detE_pure K hl
    · exact hl.elim
  · exact hl.elim
theorem detE_vsrc {sz : Nat} {x : Value} {G : Nat → List Value → KE → Prop} (hG : ∀ m l, DetE (G m l)) : DetE (fun K => vsrc h sz x fun m l => G m l K) := by
  intro K hl
  unfold vsrc at *
  split at hl
  · exact hG _ _ K hl
  · split at hl
    · exact detE_must (hG _ _) K hl
    · split at hl
      · exact hG _ _ K hl
      · exact hl.elim
    · split at hl
      · exact hG _ _ K hl
      · exact hl.elim
    · exact hl.elim
  · exact hl.elim
theorem det_vmakeSlice {t : TypeId} {l c : Value} : DetE (vmakeSlice A T h nx t l c) := by
  intro K hl
  unfold vmakeSlice at *
  split at hl
  case h_2 => exact hl.elim
  split at hl
  case h_2 => exact hl.elim
  exact detE_must detE_pure K hl
theorem det_vappend {st xt : TypeId} {s x : Value} : DetE (vappend A T h nx st xt s x) := by
  intro K hl
  unfold vappend at *
  split at hl
  case h_3 => exact hl.elim
  case h_1 =>
    split at hl
    case h_2 => exact hl.elim
    split at hl
    case h_2 => exact hl.elim
    exact detE_must detE_pure K hl
  split at hl
  · exact hl.elim
  split at hl
  · exact hl.elim
  refine detE_vsrc (fun m l => ?_) K hl
  intro K hl
  split at hl
  · exact detE_br detE_pure (detE_must detE_pure) K hl
  · split at hl
    · split at hl
      · exact detE_br detE_pure (detE_must detE_pure) K hl
      · exact hl.elim
    · exact detE_br (detE_must detE_pure) (detE_must detE_pure) K hl
    · exact hl.elim
  · exact hl.elim
end Go.Aw
end

/-
  An evaluation's outcome is one: operations, lists, regions. No condition.
-/
set_option linter.unusedSimpArgs false
set_option linter.unusedVariables false
noncomputable section
namespace Go.Aw
open Go.RowKit

variable {A : Ar} {T : Tab} {C : VC} {Y : VY}

theorem detE_opt {α : Type} {x : Option α} {F : α → KE → Prop} (hF : ∀ v, DetE (F v)) : DetE (fun K => match x with | some v => F v K | none => False) := by
  intro K hl
  cases x with
  | none => exact hl.elim
  | some v => exact hF v K hl

theorem det_vop (hC : DetC C) (hY : DetC Y) {env : List (Nat × Value)} {h : Heap} {nx : Nat} {op : Op} : DetE (vop A T C Y env h nx op) := by
  have hlook : DetE (fun K => vlook A T env h op (fun v => K v h nx)) := detE_of det_vlook
  show DetE (fun K => vop A T C Y env h nx op K)
  cases op
  case store t x y => exact detE_on fun p => detE_on fun v => det_vstore
  case alloc t => exact det_valloc
  case box t x => exact detE_on fun v => det_vbox
  case buildSlice t n ps =>
    simp only [vop]
    intro K hl
    split at hl
    · exact det_vbuildSlice K hl
    · exact hl.elim
  case slice t x lo hi mx =>
    simp only [vop]
    refine detE_on fun v => ?_
    intro K hl
    split at hl
    · exact det_vslice K hl
    · exact hl.elim
  case makeSlice t l c =>
    simp only [vop]
    exact detE_on fun x => detE_on fun y => det_vmakeSlice
  case makeMap t r =>
    cases r with
    | none => exact detE_pure
    | some r => exact hlook
  case lookup t m k ok => exact detE_on fun x => detE_on fun y => detE_of det_vlookup
  case mapUpdate t m k u => exact detE_on fun x => detE_on fun y => detE_on fun v => det_vmapUpdate
  case call c =>
    obtain ⟨cal, args, ats⟩ := c
    cases cal with
    | invoke r m => exact detE_false
    | builtin b =>
      cases b
      case append =>
        simp only [vop]
        intro K hl
        split at hl
        · exact det_vappend K hl
        · exact hl.elim
      case clear =>
        simp only [vop]
        intro K hl
        split at hl
        · exact det_vclear K hl
        · exact hl.elim
      all_goals exact hlook
    | value f =>
      simp only [vop]
      refine detE_on fun fv => ?_
      intro K hl
      split at hl
      · split at hl
        · split at hl
          · exact hC _ _ _ _ K hl
          · exact hl.elim
        · split at hl
          · exact hY _ _ _ _ K hl
          · exact hl.elim
        · exact hl.elim
      · exact hl.elim
  all_goals exact hlook

theorem vguard_cases {ops : List Oper} {env : List (Nat × Value)} {g : Option (Nat × Bool)} : (∃ e, ∀ Yk N, vguard A ops env g Yk N = Yk e) ∨ (∃ e, ∀ Yk N, vguard A ops env g Yk N = N e) ∨ (∀ Yk N, vguard A ops env g Yk N = False) := by
  unfold vguard
  cases g with
  | none => exact .inl ⟨env, fun _ _ => rfl⟩
  | some gw =>
    obtain ⟨j, want⟩ := gw
    simp only
    cases getL ops j with
    | none => exact .inr (.inr fun _ _ => rfl)
    | some o =>
      simp only
      cases o.dst with
      | none => exact .inr (.inr fun _ _ => rfl)
      | some t =>
        simp only
        cases look env t with
        | none => exact .inr (.inr fun _ _ => rfl)
        | some v =>
          cases v with
          | tuple vs => exact .inr (.inl ⟨env, fun _ _ => rfl⟩)
          | bool b =>
            simp only
            cases A.eqB b want with
            | true => exact .inl ⟨_, fun _ _ => rfl⟩
            | false => exact .inr (.inl ⟨_, fun _ _ => rfl⟩)
          | _ => exact .inr (.inr fun _ _ => rfl)
theorem vput_cases {tn : Nat} {env : List (Nat × Value)} {dst : Option Nat} {v : Value} : (∃ e, ∀ K, vput tn env dst v K = K e) ∨ (∀ K, vput tn env dst v K = False) := by
  unfold vput
  cases dst with
  | none => exact .inl ⟨env, fun _ => rfl⟩
  | some d =>
    simp only
    cases Nat.blt d tn with
    | true => exact .inl ⟨_, fun _ => rfl⟩
    | false => exact .inr fun _ => rfl

theorem detS_pure {e : List (Nat × Value)} {h : Heap} {nx : Nat} : DetS (fun K => K e h nx) := fun K hl => ⟨e, h, nx, hl, fun K' h => h⟩
theorem detS_false : DetS (fun _ => False) := fun K hl => hl.elim
theorem detS_guard {ops : List Oper} {env : List (Nat × Value)} {g : Option (Nat × Bool)} {F G : List (Nat × Value) → KS → Prop} (hF : ∀ e, DetS (F e)) (hG : ∀ e, DetS (G e)) : DetS (fun K => vguard A ops env g (fun e => F e K) (fun e => G e K)) := by
  rcases vguard_cases (A := A) (ops := ops) (env := env) (g := g) with ⟨e, h⟩ | ⟨e, h⟩ | h
  · simp only [h]; exact hF e
  · simp only [h]; exact hG e
  · simp only [h]; exact detS_false
theorem detS_put {tn : Nat} {env : List (Nat × Value)} {dst : Option Nat} {v : Value} {F : List (Nat × Value) → KS → Prop} (hF : ∀ e, DetS (F e)) : DetS (fun K => vput tn env dst v (fun e => F e K)) := by
  rcases vput_cases (tn := tn) (env := env) (dst := dst) (v := v) with ⟨e, h⟩ | h
  · simp only [h]; exact hF e
  · simp only [h]; exact detS_false
theorem detS_bind {E : KE → Prop} {F : Value → Heap → Nat → KS → Prop} (hE : DetE E) (hF : ∀ v h nx, DetS (F v h nx)) : DetS (fun K => E (fun v h nx => F v h nx K)) := by
  intro K hl
  obtain ⟨v, h, nx, h1, h2⟩ := hE _ hl
  obtain ⟨e, h', nx', h3, h4⟩ := hF v h nx K h1
  exact ⟨e, h', nx', h3, fun K' hk => h2 _ (h4 K' hk)⟩
theorem detS_bind1 {α : Type} {E : (α → Prop) → Prop} {F : α → KS → Prop} (hE : Det E) (hF : ∀ v, DetS (F v)) : DetS (fun K => E (fun v => F v K)) := by
  intro K hl
  obtain ⟨v, h1, h2⟩ := hE _ hl
  obtain ⟨e, h', nx', h3, h4⟩ := hF v K h1
  exact ⟨e, h', nx', h3, fun K' hk => h2 _ (h4 K' hk)⟩
theorem detS_bindS {E : KS → Prop} {F : List (Nat × Value) → Heap → Nat → KS → Prop} (hE : DetS E) (hF : ∀ v h nx, DetS (F v h nx)) : DetS (fun K => E (fun v h nx => F v h nx K)) := by
  intro K hl
  obtain ⟨v, h, nx, h1, h2⟩ := hE _ hl
  obtain ⟨e, h', nx', h3, h4⟩ := hF v h nx K h1
  exact ⟨e, h', nx', h3, fun K' hk => h2 _ (h4 K' hk)⟩
theorem detS_must {b : Bool} {E : KS → Prop} (h : DetS E) : DetS (fun K => must b (E K)) := by
  intro K hl
  obtain ⟨hb, hl⟩ := must_iff.1 hl
  obtain ⟨x, y, z, h1, h2⟩ := h K hl
  exact ⟨x, y, z, h1, fun K' hk => must_of hb (h2 K' hk)⟩

theorem det_vops (hC : DetC C) (hY : DetC Y) {tn : Nat} {ops : List Oper} : ∀ (l : List Oper) (env : List (Nat × Value)) (h : Heap) (nx : Nat), DetS (vops A T C Y tn ops l env h nx)
  | [], env, h, nx => detS_pure
  | o :: r, env, h, nx => by
    show DetS (fun K => vops A T C Y tn ops (o :: r) env h nx K)
    simp only [vops_cons]
    exact detS_guard (F := fun e K => vop A T C Y e h nx o.op fun v h' nx' => vput tn e o.dst v fun env' => vops A T C Y tn ops r env' h' nx' K) (G := fun e K => vput tn e o.dst undef fun env' => vops A T C Y tn ops r env' h nx K)
      (fun e => detS_bind (F := fun v h' nx' K => vput tn e o.dst v fun env' => vops A T C Y tn ops r env' h' nx' K) (det_vop hC hY) fun v h' nx' => detS_put (F := fun env' K => vops A T C Y tn ops r env' h' nx' K) fun e' => det_vops hC hY r e' h' nx')
      (fun e => detS_put (F := fun env' K => vops A T C Y tn ops r env' h nx K) fun e' => det_vops hC hY r e' h nx)

/-- Two things told: outcomes with names. -/
def DetV {α : Type} (E : (α → Nat → Prop) → Prop) : Prop := ∀ K, E K → ∃ v n, K v n ∧ ∀ K' : α → Nat → Prop, K' v n → E K'
theorem detV_of {E : (Value → Prop) → Prop} {n : Nat} (hE : Det E) : DetV (fun K => E (fun v => K v n)) := by
  intro K hl
  obtain ⟨v, h1, h2⟩ := hE _ hl
  exact ⟨v, n, h1, fun K' hk => h2 _ hk⟩
theorem detV_on {x : Option Value} {F : Value → (Value → Nat → Prop) → Prop} (hF : ∀ v, DetV (F v)) : DetV (fun K => on x (fun v => F v K)) := by
  cases x with
  | none => exact fun K hl => hl.elim
  | some v => exact hF v
theorem det_vquiet (hC : DetC C) {hJ : Heap} {nx : Nat} {env : List (Nat × Value)} {op : Op} : DetV (vquiet A T C hJ nx env op) := by
  have hlook : ∀ hh op', DetV (fun K => vlook A T env hh op' (fun v => K v nx)) := fun _ _ => detV_of det_vlook
  show DetV (fun K => vquiet A T C hJ nx env op K)
  cases op
  case load t x => simp only [vquiet]; exact hlook hJ _
  case lookup t m k ok => exact detV_on fun x => detV_on fun y => detV_of det_vlookup
  case slice t x lo hi mx =>
    simp only [vquiet]
    refine detV_on fun v => ?_
    intro K hl
    split at hl
    · obtain ⟨v, h', nx', h1, h2⟩ := det_vslice _ hl
      exact ⟨v, nx', h1, fun K' hk => h2 _ hk⟩
    · exact hl.elim
  case call c =>
    obtain ⟨cal, args, ats⟩ := c
    cases cal with
    | invoke r m => exact fun K hl => hl.elim
    | builtin b => simp only [vquiet]; exact hlook [] _
    | value f =>
      simp only [vquiet]
      refine detV_on fun fv => ?_
      intro K hl
      split at hl
      · split at hl
        · split at hl
          · obtain ⟨v, h', nx', h1, h2⟩ := hC _ _ _ _ _ hl
            split at h1
            · rename_i hb
              exact ⟨v, nx, h1, fun K' hk => h2 _ (by rw [hb]; exact hk)⟩
            · exact h1.elim
          · exact hl.elim
        · exact hl.elim
      · exact hl.elim
  all_goals (simp only [vquiet]; exact hlook [] _)

theorem det_bind {α β : Type} {E : (α → Prop) → Prop} {F : α → (β → Prop) → Prop} (hE : Det E) (hF : ∀ v, Det (F v)) : Det (fun K => E (fun v => F v K)) := by
  intro K hl
  obtain ⟨v, h1, h2⟩ := hE _ hl
  obtain ⟨e, h3, h4⟩ := hF v K h1
  exact ⟨e, h3, fun K' hk => h2 _ (h4 K' hk)⟩
theorem detV_false {α : Type} : DetV (fun _ : α → Nat → Prop => False) := fun _ hl => hl.elim
theorem detV_pure {α : Type} {v : α} {n : Nat} : DetV (fun K : α → Nat → Prop => K v n) := fun _ hl => ⟨v, n, hl, fun _ h => h⟩
theorem detV_bind {α β : Type} {E : (α → Nat → Prop) → Prop} {F : α → Nat → (β → Nat → Prop) → Prop} (hE : DetV E) (hF : ∀ v n, DetV (F v n)) : DetV (fun K => E (fun v n => F v n K)) := by
  intro K hl
  obtain ⟨v, n, h1, h2⟩ := hE _ hl
  obtain ⟨e, m, h3, h4⟩ := hF v n K h1
  exact ⟨e, m, h3, fun K' hk => h2 _ (h4 K' hk)⟩
theorem detV_guard {α : Type} {ops : List Oper} {env : List (Nat × Value)} {g : Option (Nat × Bool)} {F G : List (Nat × Value) → (α → Nat → Prop) → Prop} (hF : ∀ e, DetV (F e)) (hG : ∀ e, DetV (G e)) : DetV (fun K => vguard A ops env g (fun e => F e K) (fun e => G e K)) := by
  rcases vguard_cases (A := A) (ops := ops) (env := env) (g := g) with ⟨e, h⟩ | ⟨e, h⟩ | h
  · simp only [h]; exact hF e
  · simp only [h]; exact hG e
  · simp only [h]; exact detV_false
theorem detV_put {α : Type} {tn : Nat} {env : List (Nat × Value)} {dst : Option Nat} {v : Value} {F : List (Nat × Value) → (α → Nat → Prop) → Prop} (hF : ∀ e, DetV (F e)) : DetV (fun K => vput tn env dst v (fun e => F e K)) := by
  rcases vput_cases (tn := tn) (env := env) (dst := dst) (v := v) with ⟨e, h⟩ | h
  · simp only [h]; exact hF e
  · simp only [h]; exact detV_false
theorem det_vhead (hC : DetC C) {tn : Nat} {ops : List Oper} {hJ : Heap} : ∀ (l : List Nat) (env : List (Nat × Value)) (nx : Nat), DetV (vhead A T C tn ops hJ l env nx)
  | [], env, nx => detV_pure
  | i :: r, env, nx => by
    show DetV (fun K => vhead A T C tn ops hJ (i :: r) env nx K)
    simp only [vhead_cons]
    cases getL ops i with
    | none => exact detV_false
    | some o =>
      exact detV_guard (F := fun e K => vquiet A T C hJ nx e o.op fun v nx' => vput tn e o.dst v fun env => vhead A T C tn ops hJ r env nx' K) (G := fun e K => vput tn e o.dst undef fun env => vhead A T C tn ops hJ r env nx K)
        (fun e => detV_bind (F := fun v n K => vput tn e o.dst v fun env => vhead A T C tn ops hJ r env n K) (det_vquiet hC) fun v n => detV_put (F := fun env K => vhead A T C tn ops hJ r env n K) fun e' => det_vhead hC r e' n)
        (fun e => detV_put (F := fun env K => vhead A T C tn ops hJ r env nx K) fun e' => det_vhead hC r e' nx)
theorem detS_bind2 {E : (List (Nat × Value) → Nat → Prop) → Prop} {F : List (Nat × Value) → Nat → KS → Prop} (hE : DetV E) (hF : ∀ e n, DetS (F e n)) : DetS (fun K => E (fun e n => F e n K)) := by
  intro K hl
  obtain ⟨e0, n0, h1, h2⟩ := hE _ hl
  obtain ⟨e, h, nx, h3, h4⟩ := hF e0 n0 K h1
  exact ⟨e, h, nx, h3, fun K' hk => h2 _ (h4 K' hk)⟩

theorem det_vallocs {tn : Nat} {ops : List Oper} : ∀ (l : List Nat) (env : List (Nat × Value)) (h : Heap) (nx : Nat), DetS (vallocs T tn ops l env h nx)
  | [], env, h, nx => detS_pure
  | i :: r, env, h, nx => by
    intro K hl
    simp only [vallocs_cons] at hl ⊢
    split at hl
    · split at hl
      · exact detS_put (F := fun e K => vallocs T tn ops r e _ _ K) (fun e => det_vallocs r e _ _) K hl
      · exact hl.elim
    · exact hl.elim

theorem det_vtail (hC : DetC C) (hY : DetC Y) {tn : Nat} {ops : List Oper} {hJ : Heap} : ∀ (l : List (Nat × Bool)) (env : List (Nat × Value)) (h : Heap) (nx : Nat), DetS (vtail A T C Y tn ops hJ l env h nx)
  | [], env, h, nx => detS_pure
  | (i, chk) :: r, env, h, nx => by
    show DetS (fun K => vtail A T C Y tn ops hJ ((i, chk) :: r) env h nx K)
    simp only [vtail_cons]
    cases getL ops i with
    | none => exact detS_false
    | some o =>
      exact detS_guard (F := fun e K => must (asideOK e hJ chk o.op) (vop A T C Y e h nx o.op fun v h' nx' => vput tn e o.dst v fun env' => vtail A T C Y tn ops hJ r env' h' nx' K)) (G := fun e K => vput tn e o.dst undef fun env' => vtail A T C Y tn ops hJ r env' h nx K)
        (fun e => detS_must (detS_bind (F := fun v h' nx' K => vput tn e o.dst v fun env' => vtail A T C Y tn ops hJ r env' h' nx' K) (det_vop hC hY) fun v h' nx' => detS_put (F := fun env' K => vtail A T C Y tn ops hJ r env' h' nx' K) fun e' => det_vtail hC hY r e' h' nx'))
        (fun e => detS_put (F := fun env' K => vtail A T C Y tn ops hJ r env' h nx K) fun e' => det_vtail hC hY r e' h nx)

theorem det_vregion (hC : DetC C) (hY : DetC Y) {tn : Nat} {ops : List Oper} {p : Plan} {env : List (Nat × Value)} {h : Heap} {nx : Nat} : DetS (vregion A T C Y tn ops p env h nx) := by
  show DetS (fun K => vregion A T C Y tn ops p env h nx K)
  unfold vregion
  exact detS_bind2 (F := fun e n K => vallocs T tn ops p.allocs e h n fun env2 h2 nx2 => vtail A T C Y tn ops (asideHeap ops env p.tail h) p.tail env2 h2 nx2 K) (det_vhead hC p.head env nx) fun e n =>
    detS_bindS (F := fun env2 h2 nx2 K => vtail A T C Y tn ops (asideHeap ops env p.tail h) p.tail env2 h2 nx2 K) (det_vallocs p.allocs e h n) fun e2 h2 nx2 => det_vtail hC hY p.tail e2 h2 nx2
end Go.Aw
end

/-
  Names renamed: a part of what is known, by other names. No condition.
-/
set_option linter.unusedSimpArgs false
set_option linter.unusedVariables false
noncomputable section
namespace Go.Aw
open Go.RowKit

def at0 (ρ : Nat → Nat) : Nat → Loc := fun k => .lay (ρ k) 0 0
/-- A value by other names. -/
def ren (ρ : Nat → Nat) : Value → Value := tr (at0 ρ)
def ren1 (ρ : Nat → Nat) : Value → Value := trS (at0 ρ)
/-- All names are below n. -/
def nmT (n : Nat) : Value → Prop := scT (at0 id) n
def nmS (n : Nat) : Value → Prop := scS (at0 id) n

def ObjRen (ρ : Nat → Nat) (n : Nat) : AObj → AObj → Prop
  | .cells wr0 g0 sz0 cs0, .cells wr g sz cs => wr0 = wr ∧ g0 = g ∧ sz0 = sz ∧ cs = cs0.map (ren1 ρ) ∧ ∀ v ∈ cs0, nmS n v
  | .map es0, .map es => es = es0.map (fun e => (e.1, ren1 ρ e.2)) ∧ ∀ e ∈ es0, nmS n e.2
  | .zero, .zero => True
  | _, _ => False

structure RenOK (b : Nat) (ρ : Nat → Nat) (e0 : List (Nat × Value)) (h0 : Heap) (n0 : Nat) (e : List (Nat × Value)) (h : Heap) (nx : Nat) : Prop where
  env : ∀ t v, look e0 t = some v → look e t = some (ren ρ v) ∧ nmT n0 v
  heap : ∀ k o, look h0 k = some o → k < n0 ∧ ∃ o', look h (ρ k) = some o' ∧ ObjRen ρ n0 o o'
  inj : ∀ k k' o o', look h0 k = some o → look h0 k' = some o' → ρ k = ρ k' → k = k'
  fix : ∀ k, k < b → ρ k = k
  le : b ≤ n0

section
variable {ι : Nat → Loc} {ρ : Nat → Nat} {n m : Nat}

theorem trP_ren (v : Value) : trP ι (trP (at0 ρ) v) = trP (fun k => ι (ρ k)) v := by
  cases v with
  | pointer a =>
    cases a with
    | none => rfl
    | some a =>
      simp only [trP, at0, Nat.zero_add]
  | slice a n c =>
    cases a with
    | none => rfl
    | some a =>
      simp only [trP, at0, Nat.zero_add, Nat.add_zero]
  | map a =>
    cases a with
    | none => rfl
    | some a => simp only [trP, at0]
  | _ => rfl
theorem trFn_ren {f : Fn} (h : scFn ι n (trFn (at0 ρ) f)) : trFn ι (trFn (at0 ρ) f) = trFn (fun k => ι (ρ k)) f := by
  cases f with
  | yield l =>
    have h := h.2
    simp only [trFn, at0]
    cases hl : ι (ρ l) with
    | nil p => rw [hl] at h; cases h
    | lay b o e => rfl
  | _ => rfl
theorem trS_ren {v : Value} (h : scS ι n (trS (at0 ρ) v)) : trS ι (trS (at0 ρ) v) = trS (fun k => ι (ρ k)) v := by
  cases v with
  | func f a c =>
    have h1 := trFn_ren (ι := ι) (n := n) (f := f) h.1
    simp only [trS, h1, Array.map_map]
    congr 2
    funext x
    exact trP_ren x
  | pointer a => have := trP_ren (ι := ι) (ρ := ρ) (.pointer a); cases a <;> exact this
  | slice a n c => have := trP_ren (ι := ι) (ρ := ρ) (.slice a n c); cases a <;> exact this
  | map a => have := trP_ren (ι := ι) (ρ := ρ) (.map a); cases a <;> exact this
  | _ => rfl
theorem trA_ren {v : Value} (h : scA ι n (trA (at0 ρ) v)) : trA ι (trA (at0 ρ) v) = trA (fun k => ι (ρ k)) v := by
  cases v with
  | agg cs =>
    simp only [trA, Array.map_map]
    congr 1
    apply Array.map_congr_left
    intro x hx
    exact trS_ren (n := n) (h (trS (at0 ρ) x) (by simp only [Array.toList_map, List.mem_map]; exact ⟨x, by simpa using hx, rfl⟩))
  | pointer a => have := trS_ren (ι := ι) (ρ := ρ) (n := n) (v := .pointer a); cases a <;> exact this h
  | slice a l c => have := trS_ren (ι := ι) (ρ := ρ) (n := n) (v := .slice a l c); cases a <;> exact this h
  | map a => have := trS_ren (ι := ι) (ρ := ρ) (n := n) (v := .map a); cases a <;> exact this h
  | func f a c => exact trS_ren (ι := ι) (ρ := ρ) (n := n) (v := .func f a c) h
  | _ => rfl
theorem tr_ren {v : Value} (h : scT ι n (ren ρ v)) : tr ι (ren ρ v) = tr (fun k => ι (ρ k)) v := by
  unfold ren at h ⊢
  cases v with
  | tuple cs =>
    simp only [tr, Array.map_map]
    congr 1
    apply Array.map_congr_left
    intro x hx
    exact trA_ren (n := n) (h (trA (at0 ρ) x) (by simp only [Array.toList_map, List.mem_map]; exact ⟨x, by simpa using hx, rfl⟩))
  | pointer a => have := trA_ren (ι := ι) (ρ := ρ) (n := n) (v := .pointer a); cases a <;> exact this h
  | slice a l c => have := trA_ren (ι := ι) (ρ := ρ) (n := n) (v := .slice a l c); cases a <;> exact this h
  | map a => have := trA_ren (ι := ι) (ρ := ρ) (n := n) (v := .map a); cases a <;> exact this h
  | func f a c => exact trA_ren (ι := ι) (ρ := ρ) (n := n) (v := .func f a c) h
  | agg c => exact trA_ren (ι := ι) (ρ := ρ) (n := n) (v := .agg c) h
  | _ => rfl

theorem scP_ren {v : Value} (h : scP ι n (trP (at0 ρ) v)) (hm : scP (at0 id) m v) : scP (fun k => ι (ρ k)) m v := by
  cases v with
  | pointer a =>
    cases a with
    | none => trivial
    | some a => exact ⟨hm.1, h.2⟩
  | slice a l c =>
    cases a with
    | none => trivial
    | some a => exact ⟨hm.1, fun hf => h.2 hf⟩
  | map a =>
    cases a with
    | none => trivial
    | some a => exact ⟨hm.1, h.2⟩
  | agg c => exact hm.elim
  | tuple c => exact hm.elim
  | _ => trivial
theorem scS_ren {v : Value} (h : scS ι n (trS (at0 ρ) v)) (hm : scS (at0 id) m v) : scS (fun k => ι (ρ k)) m v := by
  cases v with
  | func f a c =>
    refine ⟨?_, fun x hx => ?_⟩
    · have h1 := h.1
      have h2 := hm.1
      cases f with
      | yield l => exact ⟨h2.1, h1.2⟩
      | _ => trivial
    · refine scP_ren (n := n) (h.2 _ ?_) (hm.2 x hx)
      simp only [Array.toList_map, List.mem_map]
      exact ⟨x, hx, rfl⟩
  | pointer a => have := scP_ren (ι := ι) (ρ := ρ) (n := n) (m := m) (v := .pointer a); cases a <;> exact this h hm
  | slice a l c => have := scP_ren (ι := ι) (ρ := ρ) (n := n) (m := m) (v := .slice a l c); cases a <;> exact this h hm
  | map a => have := scP_ren (ι := ι) (ρ := ρ) (n := n) (m := m) (v := .map a); cases a <;> exact this h hm
  | agg c => exact hm.elim
  | tuple c => exact hm.elim
  | _ => trivial
theorem scA_ren {v : Value} (h : scA ι n (trA (at0 ρ) v)) (hm : scA (at0 id) m v) : scA (fun k => ι (ρ k)) m v := by
  cases v with
  | agg cs =>
    intro x hx
    refine scS_ren (n := n) (h _ ?_) (hm x hx)
    simp only [Array.toList_map, List.mem_map]
    exact ⟨x, hx, rfl⟩
  | pointer a => have := scS_ren (ι := ι) (ρ := ρ) (n := n) (m := m) (v := .pointer a); cases a <;> exact this h hm
  | slice a l c => have := scS_ren (ι := ι) (ρ := ρ) (n := n) (m := m) (v := .slice a l c); cases a <;> exact this h hm
  | map a => have := scS_ren (ι := ι) (ρ := ρ) (n := n) (m := m) (v := .map a); cases a <;> exact this h hm
  | func f a c => exact scS_ren (ι := ι) (ρ := ρ) (n := n) (m := m) (v := .func f a c) h hm
  | tuple c => exact hm.elim
  | _ => trivial
theorem scT_ren {v : Value} (h : scT ι n (ren ρ v)) (hm : nmT m v) : scT (fun k => ι (ρ k)) m v := by
  unfold ren at h
  unfold nmT at hm
  cases v with
  | tuple cs =>
    intro x hx
    refine scA_ren (n := n) (h _ ?_) (hm x hx)
    simp only [Array.toList_map, List.mem_map]
    exact ⟨x, hx, rfl⟩
  | pointer a => have := scA_ren (ι := ι) (ρ := ρ) (n := n) (m := m) (v := .pointer a); cases a <;> exact this h hm
  | slice a l c => have := scA_ren (ι := ι) (ρ := ρ) (n := n) (m := m) (v := .slice a l c); cases a <;> exact this h hm
  | map a => have := scA_ren (ι := ι) (ρ := ρ) (n := n) (m := m) (v := .map a); cases a <;> exact this h hm
  | func f a c => exact scA_ren (ι := ι) (ρ := ρ) (n := n) (m := m) (v := .func f a c) h hm
  | agg c => exact scA_ren (ι := ι) (ρ := ρ) (n := n) (m := m) (v := .agg c) h hm
  | _ => trivial

theorem gS_ren {v : Value} (h : gS (trS (at0 ρ) v) = true) : gS v = true := by
  cases v with
  | pointer a => cases a with
    | none => rfl
    | some a => simp [trS, trP, at0, gS] at h
  | slice a n c => cases a with
    | none => rfl
    | some a => simp [trS, trP, at0, gS] at h
  | map a => cases a with
    | none => rfl
    | some a => simp [trS, trP, at0, gS] at h
  | func f a c =>
    cases f with
    | func f => simpa [trS, trFn, gS] using h
    | yield l => simp [trS, trFn, at0, gS] at h
    | _ => simp [trS, trFn, gS] at h
  | _ => exact h
theorem allG_ren {l : List Value} (h : allG (l.map (ren1 ρ)) = true) : allG l = true :=
  allG_of fun v hv => gS_ren (allG_mem h (List.mem_map_of_mem hv))

theorem ORel_ren {B : Nat} {w : World} {o0 o : AObj} {l : Loc} (h : ORel ι B w o l) (hs : OSc ι n o) (hr : ObjRen ρ m o0 o) : ORel (fun k => ι (ρ k)) B w o0 l := by
  cases o0 with
  | cells wr0 g0 sz0 cs0 =>
    cases o with
    | cells wr g sz cs =>
      obtain ⟨rfl, rfl, rfl, rfl, hn⟩ := hr
      cases l with
      | nil p =>
        have h1 : cs0.map (ren1 ρ) = [] ∧ (sz0 = 0 ∨ wr0 = true → p.isSome = true) := by cases wr0 <;> exact h
        have h2 : cs0 = [] := by simpa using h1.1
        cases wr0 <;> exact ⟨h2, h1.2⟩
      | lay b off e =>
        cases wr0 with
        | true =>
          obtain ⟨h1, h2, arr, t, h3, h4, h5⟩ := h
          refine ⟨h1, fun hg => allG_ren (h2 hg), arr, t, h3, by simpa using h4, fun i v hv => ?_⟩
          rw [← trS_ren (n := n) (hs _ (List.mem_map_of_mem (List.mem_of_getElem? hv)))]
          exact h5 i _ (by rw [List.getElem?_map, hv]; rfl)
        | false =>
          obtain ⟨h1, h2, h5⟩ := h
          refine ⟨h1, fun hg => allG_ren (h2 hg), fun i v hv => ?_⟩
          rw [← trS_ren (n := n) (hs _ (List.mem_map_of_mem (List.mem_of_getElem? hv)))]
          exact h5 i _ (by rw [List.getElem?_map, hv]; rfl)
    | _ => exact hr.elim
  | map es0 =>
    cases o with
    | map es =>
      obtain ⟨rfl, hn⟩ := hr
      cases l with
      | nil p => exact h.elim
      | lay b off e =>
        obtain ⟨h1, ents, clock, h2, h3, h4⟩ := h
        refine ⟨h1, ents, clock, h2, h3.trans ?_, fun x hx => h4 (x.1, ren1 ρ x.2) (List.mem_map_of_mem hx)⟩
        rw [List.map_map]
        apply List.map_congr_left
        intro x hx
        simp only [Function.comp_apply, ren1]
        rw [trS_ren (n := n) (hs (x.1, ren1 ρ x.2) (List.mem_map_of_mem hx))]
    | _ => exact hr.elim
  | zero =>
    cases o with
    | zero => cases l <;> exact h
    | _ => exact hr.elim
  | _ => exact hr.elim

theorem OSc_ren {o0 o : AObj} (h : OSc ι n o) (hr : ObjRen ρ m o0 o) : OSc (fun k => ι (ρ k)) m o0 := by
  cases o0 with
  | cells wr0 g0 sz0 cs0 =>
    cases o with
    | cells wr g sz cs =>
      obtain ⟨rfl, rfl, rfl, rfl, hn⟩ := hr
      exact fun v hv => scS_ren (n := n) (h _ (List.mem_map_of_mem hv)) (hn v hv)
    | _ => exact hr.elim
  | map es0 =>
    cases o with
    | map es =>
      obtain ⟨rfl, hn⟩ := hr
      exact fun x hx => scS_ren (n := n) (h (x.1, ren1 ρ x.2) (List.mem_map_of_mem hx)) (hn x hx)
    | _ => exact hr.elim
  | zero => trivial
  | _ => exact hr.elim
theorem ObjRen.alone {o0 o : AObj} (hr : ObjRen ρ m o0 o) (h : o0.alone = true) : o.alone = true := by
  cases o0 <;> cases o <;> first | exact hr.elim | (obtain ⟨rfl, _⟩ := hr; exact h) | exact h

variable {b : Nat} {e0 e : List (Nat × Value)} {h0 h : Heap} {n0 nx : Nat}

theorem RenOK.relH (r : RenOK b ρ e0 h0 n0 e h nx) {B : Nat} {w : World} (H : RelH ι B h nx w) : RelH (fun k => ι (ρ k)) B h0 n0 w := by
  refine ⟨fun k o hk => ?_, fun k k' o o' h1 h2 hne ha q hq => ?_, fun k o hk => (r.heap k o hk).1, H.size, fun k o hk => ?_⟩
  · obtain ⟨_, o', h1, h2⟩ := r.heap k o hk
    exact ORel_ren (H.obj _ _ h1) (H.sc _ _ h1) h2
  · obtain ⟨_, p, k1, k2⟩ := r.heap k o h1
    obtain ⟨_, p', k3, k4⟩ := r.heap k' o' h2
    exact H.sep _ _ p p' k1 k3 (fun e => hne (r.inj k k' o o' h1 h2 e)) (k2.alone ha) q hq
  · obtain ⟨_, o', h1, h2⟩ := r.heap k o hk
    exact OSc_ren (H.sc _ _ h1) h2
theorem RenOK.envOK (r : RenOK b ρ e0 h0 n0 e h nx) {a : Act} (H : EnvOK ι nx e a) : EnvOK (fun k => ι (ρ k)) n0 e0 a := by
  intro t v hv
  obtain ⟨h1, h2⟩ := r.env t v hv
  obtain ⟨h3, h4⟩ := H t _ h1
  exact ⟨by rw [← tr_ren h4]; exact h3, scT_ren h4 h2⟩
end
end Go.Aw
end
