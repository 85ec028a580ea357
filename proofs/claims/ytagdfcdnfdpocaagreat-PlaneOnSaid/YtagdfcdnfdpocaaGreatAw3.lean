/-
  Types as a table; the state; operations that only look: what they yield. No condition.
-/
import Derived.Test.YtagdfcdnfdpocaaGreatAw2
import Derived.IntWalk
import Derived.Laws.StructEq
noncomputable section
namespace Go.Aw
open Go.RowKit

/-! ### Arithmetic, kept behind a name -/
structure Ar where
  add : Int → Int → Int
  sub : Int → Int → Int
  mul : Int → Int → Int
  quo : Int → Int → Int
  rem : Int → Int → Int
  neg : Int → Int
  lt : Int → Int → Bool
  le : Int → Int → Bool
  eq : Int → Int → Bool
  fits : IntKind → Int → Bool
  ix : Nat → Int → Nat → Nat
  num : Nat → Int
  toN : Int → Nat
  subN : Nat → Nat → Nat
  andB : Bool → Bool → Bool
  notB : Bool → Bool
  eqB : Bool → Bool → Bool
  max : Int → Int → Int
  min : Int → Int → Int

def fitsK (k : IntKind) (n : Int) : Bool :=
  match k with
  | .i8 => decide (-128 ≤ n) && decide (n ≤ 127)
  | .i16 => decide (-32768 ≤ n) && decide (n ≤ 32767)
  | .i32 => decide (-2147483648 ≤ n) && decide (n ≤ 2147483647)
  | .i64 => decide (-9223372036854775808 ≤ n) && decide (n ≤ 9223372036854775807)
  | .u8 => decide (0 ≤ n) && decide (n ≤ 255)
  | .u16 => decide (0 ≤ n) && decide (n ≤ 65535)
  | .u32 => decide (0 ≤ n) && decide (n ≤ 4294967295)
  | .u64 => decide (0 ≤ n) && decide (n ≤ 18446744073709551615)

theorem wrap_fits {k : IntKind} {n : Int} (h : fitsK k n = true) : k.wrap n = n := by
  cases k <;> simp only [fitsK, Bool.and_eq_true, decide_eq_true_eq] at h
  · exact IntWalk.i8_in n h
  · exact IntWalk.i16_in n h
  · exact IntWalk.i32_in n h
  · exact IntWalk.i64_in n h
  · exact IntWalk.u8_in n h
  · exact IntWalk.u16_in n h
  · exact IntWalk.u32_in n h
  · exact IntWalk.u64_in n h

def std : Ar where
  add a b := a + b
  sub a b := a - b
  mul a b := a * b
  quo a b := a.tdiv b
  rem a b := a.tmod b
  neg a := 0 - a
  lt a b := decide (a < b)
  le a b := decide (a ≤ b)
  eq a b := decide (a = b)
  fits := fitsK
  ix o i s := o + i.toNat * s
  num n := n
  toN i := i.toNat
  subN a b := a - b
  andB a b := a && b
  notB a := !a
  eqB a b := a == b
  max a b := if b > a then b else a
  min a b := if b < a then b else a

/-! ### Types -/
inductive TyK where
  | sc
  | int (k : IntKind)
  | bool
  | str
  | st (fs : List (Nat × TypeId))
  | ar (n : Nat) (e : TypeId)
  | sl (e : TypeId)
  | mp (k e : TypeId)
  | ptr (e : TypeId)

structure TyI where
  kind : TyK
  size : Nat
  bytes : Nat
  zv : Value

def TyI.isAgg (i : TyI) : Bool := match i.kind with | .st _ => true | .ar _ _ => true | _ => false
abbrev Tab := List (TypeId × TyI)

def KOK : TypeDesc → TyK → Bool
  | .struct f, .st fs => f.toList.map (fun f => (f.offset, f.type)) == fs && f.all (fun f => f.name != "_")
  | .struct _, _ => false
  | .array n e, .ar m e' => n == m && e == e'
  | .array _ _, _ => false
  | .int k, .int k' => k == k'
  | .bool, .bool => true
  | .string, .str => true
  | .slice e, .sl e' => e == e'
  | .map k e, .mp k' e' => k == k' && e == e'
  | .pointer e, .ptr e' => e == e'
  | _, .sc => true
  | _, _ => false

structure TyOK (P : Program) (t : TypeId) (i : TyI) : Prop where
  info : ∃ x, P.info? t = some x ∧ x.size = i.size ∧ x.bytes = i.bytes ∧ x.zero = some i.zv
  desc : ∃ d, P.underlying t = some d ∧ KOK d i.kind = true
  zs : i.zv.cells.size = i.size
  zg : gA i.zv = true
  held : P.stoodInHeld t = false
  guard : P.eqGuardType P.depth t = false
  pos : 0 < i.size

def TabOK (P : Program) (T : Tab) : Prop := ∀ t i, look T t = some i → TyOK P t i

section
variable {P : Program} {t : TypeId} {i : TyI}
theorem TyOK.typeInfo (h : TyOK P t i) (w : World) : ∃ x, (typeInfo t).run P w = .ok x w ∧ x.size = i.size ∧ x.bytes = i.bytes ∧ x.zero = some i.zv := by
  obtain ⟨x, hx, h1, h2, h3⟩ := h.info
  exact ⟨x, by simp [Go.typeInfo, hx], h1, h2, h3⟩
theorem TyOK.sizeOf (h : TyOK P t i) (w : World) : (Go.sizeOf t).run P w = .ok i.size w := by
  obtain ⟨x, hx, h1, _⟩ := h.typeInfo w
  simp [Go.sizeOf, hx, h1]
theorem TyOK.zero (h : TyOK P t i) (w : World) : (zeroValue t).run P w = .ok i.zv w := by
  obtain ⟨x, hx, _, _, h3⟩ := h.typeInfo w
  simp [zeroValue, hx, h3]
theorem TyOK.isAgg (h : TyOK P t i) (w : World) : (Go.isAgg t).run P w = .ok i.isAgg w := by
  obtain ⟨d, hd, hk⟩ := h.desc
  simp only [Go.isAgg, Sem.run_bind, run_underlying hd, Result.andThen_ok]
  unfold TyI.isAgg
  cases d <;> cases hi : i.kind <;> simp [KOK, hi] at hk ⊢
theorem TyOK.sl (h : TyOK P t i) {e : TypeId} (hk : i.kind = .sl e) : P.underlying t = some (.slice e) := by
  obtain ⟨d, hd, hk'⟩ := h.desc
  rw [hk] at hk'
  cases d <;> simp [KOK] at hk'
  subst hk'; exact hd
theorem TyOK.ar (h : TyOK P t i) {n : Nat} {e : TypeId} (hk : i.kind = .ar n e) : P.underlying t = some (.array n e) := by
  obtain ⟨d, hd, hk'⟩ := h.desc
  rw [hk] at hk'
  cases d <;> simp [KOK] at hk'
  obtain ⟨rfl, rfl⟩ := hk'; exact hd
theorem TyOK.mp (h : TyOK P t i) {k e : TypeId} (hk : i.kind = .mp k e) : P.underlying t = some (.map k e) := by
  obtain ⟨d, hd, hk'⟩ := h.desc
  rw [hk] at hk'
  cases d <;> simp [KOK] at hk'
  obtain ⟨rfl, rfl⟩ := hk'; exact hd
theorem TyOK.st (h : TyOK P t i) {fs : List (Nat × TypeId)} (hk : i.kind = .st fs) : ∃ f : Array Field, P.underlying t = some (.struct f) ∧ f.toList.map (fun f => (f.offset, f.type)) = fs ∧ ∀ x ∈ f.toList, x.name ≠ "_" := by
  obtain ⟨d, hd, hk'⟩ := h.desc
  rw [hk] at hk'
  cases d with
  | struct f =>
    simp only [KOK, Bool.and_eq_true, beq_iff_eq] at hk'
    refine ⟨f, hd, hk'.1, fun x hx => ?_⟩
    have := Array.all_eq_true_iff_forall_mem.1 hk'.2 x (by simpa using hx)
    simpa using this
  | _ => simp [KOK] at hk'
theorem TyOK.int (h : TyOK P t i) {k : IntKind} (hk : i.kind = .int k) : P.underlying t = some (.int k) := by
  obtain ⟨d, hd, hk'⟩ := h.desc
  rw [hk] at hk'
  cases d <;> simp [KOK] at hk'
  subst hk'; exact hd
theorem TyOK.bool (h : TyOK P t i) (hk : i.kind = .bool) : P.underlying t = some .bool := by
  obtain ⟨d, hd, hk'⟩ := h.desc
  rw [hk] at hk'
  cases d <;> simp [KOK] at hk'
  exact hd
theorem TyOK.str (h : TyOK P t i) (hk : i.kind = .str) : P.underlying t = some .string := by
  obtain ⟨d, hd, hk'⟩ := h.desc
  rw [hk] at hk'
  cases d <;> simp [KOK] at hk'
  exact hd
end

/-! ### The state -/
structure St where
  env : List (Nat × Value)
  tn : Nat
  heap : Heap
  nx : Nat

def opv (env : List (Nat × Value)) : Operand → Option Value
  | .tmp t => look env t
  | .const v => match gT v with | true => some v | false => none
  | .func f => some (.func (.func f) #[] #[])
  | .global _ => none

/-- The temporaries that are known. -/
def EnvOK (ι : Nat → Loc) (n : Nat) (env : List (Nat × Value)) (a : Act) : Prop :=
  ∀ t v, look env t = some v → a.tmps[t]? = some (tr ι v) ∧ scT ι n v

theorem EnvOK.opv {ι : Nat → Loc} {n : Nat} {env : List (Nat × Value)} {a : Act} (h : EnvOK ι n env a) {x : Operand} {v : Value} (hv : opv env x = some v) : a.eval x = tr ι v ∧ scT ι n v := by
  cases x with
  | tmp t =>
    obtain ⟨h1, h2⟩ := h t v hv
    exact ⟨by simp [Act.eval, h1], h2⟩
  | const u =>
    simp only [Aw.opv] at hv
    split at hv
    · rename_i hg
      injection hv with hv
      subst hv
      exact ⟨(tr_g hg).symm, scT_g hg⟩
    · cases hv
  | func f =>
    simp only [Aw.opv] at hv
    injection hv with hv
    subst hv
    exact ⟨by simp [Act.eval, tr, trA, trS, trFn], by simp [scT, scA, scS, scFn]⟩
  | global g => cases hv

/-! ### Cells of a list -/
def nth : List Value → Nat → Option Value
  | [], _ => none
  | v :: _, 0 => some v
  | _ :: r, n + 1 => nth r n
theorem nth_eq (l : List Value) (n : Nat) : nth l n = l[n]? := by
  induction l generalizing n with
  | nil => rfl
  | cons v r ih => cases n <;> simp [nth, ih]
def getN (l : List Value) (o : Nat) : Nat → Option (List Value)
  | 0 => some []
  | n + 1 => match nth l o with
    | none => none
    | some v => match getN l (o + 1) n with
      | none => none
      | some r => some (v :: r)
theorem getN_spec {l : List Value} : ∀ {n o : Nat} {r : List Value}, getN l o n = some r → r.length = n ∧ ∀ j, j < n → r[j]? = l[o + j]? ∧ ∃ v, l[o + j]? = some v
  | 0, o, r, h => by simp [getN] at h; subst h; simp
  | n + 1, o, r, h => by
    simp only [getN] at h
    split at h
    · cases h
    · rename_i v hv
      split at h
      · cases h
      · rename_i r' hr
        injection h with h
        subst h
        obtain ⟨h1, h2⟩ := getN_spec hr
        refine ⟨by simp [h1], fun j hj => ?_⟩
        rw [nth_eq] at hv
        cases j with
        | zero => simp [hv]
        | succ j =>
          obtain ⟨h3, h4⟩ := h2 j (by omega)
          rw [show o + 1 + j = o + (j + 1) by omega] at h3 h4
          exact ⟨by simpa using h3, h4⟩

end Go.Aw
