/-
  Parts of the proof, put together. No condition.
-/
import Derived.Test.YtmkcjbpekejgdaaGreatAwC
import Derived.RangeFuncLeaves
/-
  Code. No condition.
-/
set_option linter.unusedSimpArgs false
set_option linter.unusedVariables false
noncomputable section
namespace Go.Aw
open Go.RowKit

def viter (F : KS → KS) (n : Nat) : KS := @Nat.rec (fun _ => KS) (fun _ _ _ => False) (fun _ ih e h nx => F ih e h nx) n
/-- How loops are met: reckoned (at most so many rounds), or by what holds at their heads (names below the base stay). -/
inductive LM where
  | fuel (n : Nat)
  | inv (b : Nat)
def LM.low : LM → Nat → Prop
  | .fuel _, _ => True
  | .inv b, n => n ≤ b
/-- Some of what is known, by other names. -/
def Into (b : Nat) (I : KS) : KS := fun e h nx => ∃ e0 h0 n0 ρ, I e0 h0 n0 ∧ RenOK b ρ e0 h0 n0 e h nx
def vloop (M : LM) (F : KS → KS) : KS := fun e h nx =>
  match M with
  | .fuel n => viter F n e h nx
  | .inv b => ∃ I : Nat → KS, (∃ n, Into b (I n) e h nx) ∧ ∀ n e h nx, I n e h nx → F (fun e h nx => ∃ m, m < n ∧ Into b (I m) e h nx) e h nx

/-- A drawn region without a plan: every order; at the end some of what is known, by other names. -/
def vregA (A : Ar) (T : Tab) (C : VC) (Y : VY) (tn : Nat) (M : LM) (ops : Array Oper) : List (Nat × Value) → Heap → Nat → KS → Prop := fun e h nx K =>
  match M with
  | .fuel _ => False
  | .inv b => ∃ I : KS, vany A T C Y tn ops.toList (Into b I) ops.size [] e h nx ∧ ∀ e h nx, I e h nx → K e h nx

/-- A range over a function, of this code. -/
abbrev VR := Operand → Array Tmp → Code → Code → KS → (Nat → KS) → KS → KS

def vcode (A : Ar) (T : Tab) (C : VC) (Y : VY) (tn : Nat) (PL : Nat → Option Plan) (M : LM) (R : VR) (c : Code) : KS → (Nat → KS) → KS → KS :=
  @Code.rec (fun _ => KS → (Nat → KS) → KS → KS) (fun kn _ _ => kn)
    (fun id ops draw kn _ _ e h nx => match draw with
      | false => vops A T C Y tn ops.toList ops.toList e h nx kn
      | true => (match PL id with | some p => vregion A T C Y tn ops.toList p e h nx kn | none => vregA A T C Y tn M ops e h nx kn))
    (fun _ _ iha ihb kn kx kr => iha (ihb kn kx kr) kx kr)
    (fun c _ _ iht ihf kn kx kr e h nx => match opv e c with
      | some (.bool b) => br b (fun _ => iht kn kx kr e h nx) (fun _ => ihf kn kx kr e h nx)
      | _ => False)
    (fun id _ ih kn kx kr => ih kn (fun j => match Nat.beq j id with | true => kn | false => kx j) kr)
    (fun _ ih _ kx kr => vloop M (fun k => ih k kx kr))
    (fun g ps as bd _ _ kn kx kr => R g ps as bd kn kx kr)
    (fun id _ kx _ => kx id)
    (fun _ ih kn kx kr => ih kn kx kr)
    (fun _ kn _ _ => kn)
    (fun _ _ _ _ _ _ _ => False)
    (fun _ _ kr => kr)
    (fun _ _ _ _ _ _ _ => False) c

section
variable {A : Ar} {T : Tab} {C : VC} {Y : VY} {tn : Nat} {PL : Nat → Option Plan} {M : LM} {R : VR} {kn kr : KS} {kx : Nat → KS} {e : List (Nat × Value)} {h : Heap} {nx : Nat}
theorem vcode_region {id : Nat} {ops : Array Oper} {draw : Bool} : vcode A T C Y tn PL M R (.region id ops draw) kn kx kr e h nx = match draw with
      | false => vops A T C Y tn ops.toList ops.toList e h nx kn
      | true => (match PL id with | some p => vregion A T C Y tn ops.toList p e h nx kn | none => vregA A T C Y tn M ops e h nx kn) := rfl
theorem vcode_cond {c : Operand} {t f : Code} : vcode A T C Y tn PL M R (.cond c t f) kn kx kr e h nx = match opv e c with
      | some (.bool b) => br b (fun _ => vcode A T C Y tn PL M R t kn kx kr e h nx) (fun _ => vcode A T C Y tn PL M R f kn kx kr e h nx)
      | _ => False := rfl
theorem vcode_block {id : Nat} {b : Code} : vcode A T C Y tn PL M R (.block id b) kn kx kr e h nx = vcode A T C Y tn PL M R b kn (fun j => match Nat.beq j id with | true => kn | false => kx j) kr e h nx := rfl
theorem vcode_loop {b : Code} : vcode A T C Y tn PL M R (.loop b) kn kx kr e h nx = vloop M (fun k => vcode A T C Y tn PL M R b k kx kr) e h nx := rfl
end

def plansOK (PL : Nat → Option Plan) : Code → Bool
  | .region id ops true => (match PL id with | some p => planOK ops p | none => true)
  | .seq a b => plansOK PL a && plansOK PL b
  | .cond _ a b => plansOK PL a && plansOK PL b
  | .block _ b => plansOK PL b
  | .loop b => plansOK PL b
  | .scope b => plansOK PL b
  | _ => true

def markOf (b : Nat) : Deferred := { target := .collected b, args := #[] }
def Marks (B0 B : Nat) (w : World) (ds : List Deferred) : Prop := ∃ bs : List Nat, ds = bs.map markOf ∧ bs.Nodup ∧ ∀ b ∈ bs, B0 ≤ b ∧ b < B ∧ w.heap[b]? = some (.deferred (some []))

/-- What is known between two pieces of code: past a range over a function the base is another. -/
def CInv (B0 : Nat) (w0 : World) (ι0 : Nat → Loc) (nx0 tn : Nat) (ι : Nat → Loc) (env : List (Nat × Value)) (h : Heap) (nx : Nat) (a : Act) (w : World) : Prop :=
  ∃ B w1 ι1 nx1 ds, B0 ≤ B ∧ Bel B0 w0 w1 ∧ (∀ k, k < nx0 → ι1 k = ι0 k) ∧ nx0 ≤ nx1 ∧ Marks B0 B w1 ds ∧ Inv B w1 ι1 nx1 tn ds ι env h nx a w

section
variable {P : Program} {T : Tab} {C : VC} {Y : VY} {B0 : Nat} {w0 : World} {ι0 : Nat → Loc} {nx0 tn : Nat} {PL : Nat → Option Plan} {M : LM} {R : VR}

/-- What the exits must hold, in the machine. -/
structure Ends (B0 : Nat) (w0 : World) (ι0 : Nat → Loc) (nx0 tn : Nat) (kn : KS) (kx : Nat → KS) (kr : KS) (Q : Exit → Act → World → Prop) : Prop where
  n : ∀ ι e h nx a w, kn e h nx → CInv B0 w0 ι0 nx0 tn ι e h nx a w → Q .normal a w
  x : ∀ id ι e h nx a w, kx id e h nx → CInv B0 w0 ι0 nx0 tn ι e h nx a w → Q (.exit id) a w
  r : ∀ ι e h nx a w, kr e h nx → CInv B0 w0 ι0 nx0 tn ι e h nx a w → Q .ret a w

def RangeOK (P : Program) (r : Option Nat) (tn : Nat) (R : VR) : Prop := ∀ g ps as bd kn kx kr e h nx, R g ps as bd kn kx kr e h nx → ∀ B0 w0 ι0 nx0 Q, Ends B0 w0 ι0 nx0 tn kn kx kr Q → ∀ ι a w, CInv B0 w0 ι0 nx0 tn ι e h nx a w →
  (Code.rangeFunc g ps as bd).wpIn (Fr r) 0 P Q a w

theorem stepR_scope {b : Frame} {a : Act} {k : List Item} {cs : List Frame} {w : World} {c : Code} : step P (lone (b.atR a (.code (.scope c) :: k)) cs w) = .next (lone (b.atR a (.code c :: .inScope c :: k)) cs w) :=
  step_lone_go (by simp [stepG, stepG.exec, Frame.atR])
theorem stepR_inScope {b : Frame} {a : Act} {k : List Item} {cs : List Frame} {w : World} {c : Code} : step P (lone (b.atR a (.inScope c :: k)) cs w) = .next (lone (b.atR a k) cs w) :=
  step_lone_go (by simp [stepG, stepG.exec, Frame.atR])

theorem wpIn_scope_straight {F : Fence} {n : Nat} {c : Code} {Q : Exit → Act → World → Prop} {a : Act} {w : World} (h : c.wpIn F n P (fun e a w => (∀ l, e ≠ .goto l) ∧ Q e a w) a w) : (Code.scope c).wpIn F n P Q a w := by
  intro b k cs hro hb hr
  have h0 : (lone (b.atR a (.code (.scope c) :: k)) cs w).fenced P F := fenced_calm hb hr rfl
  obtain ⟨e, a₁, w₁, ⟨hg, hq⟩, harr⟩ := h b (.inScope c :: k) cs hro hb hr
  cases e with
  | normal => exact ⟨.normal, a₁, w₁, hq, .head h0 stepR_scope (StepsIn.trans harr (.one (fenced_calm hb hr rfl) stepR_inScope))⟩
  | exit id =>
    have hx : exitTo id (.inScope c :: k) = exitTo id k := by simp [exitTo]
    exact ⟨.exit id, a₁, w₁, hq, fun k' hk => .head h0 stepR_scope (harr.1 k' (by rw [hx]; exact hk)),
      fun hr' hk => let ⟨k₁, h1, h2⟩ := harr.2 hr' (by rw [hx]; exact hk); ⟨k₁, h1, .head h0 stepR_scope h2⟩⟩
  | goto l => exact absurd rfl (hg l)
  | ret => exact ⟨_, a₁, w₁, hq, .of_steps (.one h0 stepR_scope) harr⟩
  | panic ch => exact ⟨_, a₁, w₁, hq, .of_steps (.one h0 stepR_scope) harr⟩
  | outgrown => exact ⟨_, a₁, w₁, hq, .of_steps (.one h0 stepR_scope) harr⟩

theorem CInv.into {ι : Nat → Loc} {e : List (Nat × Value)} {h : Heap} {nx : Nat} {a : Act} {w : World} {b : Nat} {I : KS} (J : CInv B0 w0 ι0 nx0 tn ι e h nx a w) (hb : nx0 ≤ b) (hi : Into b I e h nx) : ∃ ι' e' h' nx', I e' h' nx' ∧ CInv B0 w0 ι0 nx0 tn ι' e' h' nx' a w := by
  obtain ⟨e', h', nx', ρ, hI, r⟩ := hi
  obtain ⟨B, w1, ι1, nx1, ds, h1, h2, h3, h4, h5, J⟩ := J
  refine ⟨fun k => ι (ρ k), e', h', nx', hI, B, w1, ι0, nx0, ds, h1, h2, fun _ _ => rfl, Nat.le_refl _, h5, r.envOK J.env, r.relH J.heap, J.below, fun k hk => ?_, Nat.le_trans hb r.le, J.size, J.defers⟩
  rw [r.fix k (Nat.lt_of_lt_of_le hk hb)]
  exact (J.old k (Nat.lt_of_lt_of_le hk h4)).trans (h3 k hk)

theorem least {p : Nat → Prop} (h : ∃ n, p n) : ∃ m, p m ∧ ∀ k, p k → m ≤ k := by
  obtain ⟨n, hn⟩ := h
  induction n using Nat.strongRecOn with
  | _ n ih =>
    by_cases hk : ∃ k, p k ∧ k < n
    · obtain ⟨k, h1, h2⟩ := hk
      exact ih k h2 h1
    · exact ⟨n, hn, fun k h1 => Nat.le_of_not_lt fun h2 => hk ⟨k, h1, h2⟩⟩

theorem wpIn_loop_ks {r : Option Nat} {c : Code} {Q : Exit → Act → World → Prop} {a : Act} {w : World} {I : Nat → Act → World → Prop} {n : Nat} (h₀ : I n a w)
    (round : ∀ n a w, I n a w → c.wpIn (Fr r) 0 P (Exit.then (fun a' w' => ∃ m, m < n ∧ I m a' w') Q) a w) : (Code.loop c).wpIn (Fr r) 0 P Q a w := by
  classical
  refine wpIn_loop (fun a w => ∃ n, I n a w) (fun a w => if h : ∃ n, I n a w then Classical.choose (least h) else 0) ⟨n, h₀⟩ fun a w h => ?_
  have hs := Classical.choose_spec (least h)
  refine Code.wpIn_mono (fun e a' w' hq => ?_) (round _ a w hs.1)
  cases e <;> try exact hq
  obtain ⟨m, hm, hI⟩ := hq
  refine ⟨⟨m, hI⟩, ?_⟩
  have h' : ∃ n, I n a' w' := ⟨m, hI⟩
  simp only [dif_pos h', dif_pos h]
  exact Nat.lt_of_le_of_lt ((Classical.choose_spec (least h')).2 m hI) hm

theorem viter_mono {F G : KS → KS} (hFG : ∀ (k k' : KS) e h nx, (∀ e h nx, k e h nx → k' e h nx) → F k e h nx → G k' e h nx) : ∀ n e h nx, viter F n e h nx → viter G n e h nx
  | 0, _, _, _, hl => hl.elim
  | n + 1, e, h, nx, hl => hFG _ _ e h nx (fun e h nx => viter_mono hFG n e h nx) hl

theorem vcode_mono (hD : DetC C) (hY : DetC Y) (hR : ∀ g ps as bd (kn kn' : KS) (kx kx' : Nat → KS) (kr kr' : KS) e h nx, (∀ e h nx, kn e h nx → kn' e h nx) → (∀ id e h nx, kx id e h nx → kx' id e h nx) → (∀ e h nx, kr e h nx → kr' e h nx) → R g ps as bd kn kx kr e h nx → R g ps as bd kn' kx' kr' e h nx) :
    ∀ (c : Code) (kn kn' : KS) (kx kx' : Nat → KS) (kr kr' : KS) e h nx, (∀ e h nx, kn e h nx → kn' e h nx) → (∀ id e h nx, kx id e h nx → kx' id e h nx) → (∀ e h nx, kr e h nx → kr' e h nx) →
      vcode std T C Y tn PL M R c kn kx kr e h nx → vcode std T C Y tn PL M R c kn' kx' kr' e h nx := by
  intro c
  induction c with
  | skip => exact fun kn kn' kx kx' kr kr' e h nx h1 _ _ hl => h1 _ _ _ hl
  | region id ops draw =>
    intro kn kn' kx kx' kr kr' e h nx h1 _ _ hl
    simp only [vcode_region, vcode_cond] at hl ⊢
    cases draw with
    | false =>
      obtain ⟨e', h', nx', k1, k2⟩ := det_vops hD hY _ _ _ _ kn hl
      exact k2 kn' (h1 _ _ _ k1)
    | true =>
      simp only at hl ⊢
      cases hp : PL id with
      | none =>
        rw [hp] at hl
        simp only [vregA] at hl ⊢
        cases M with
        | fuel n => exact hl.elim
        | inv b =>
          obtain ⟨I, hi, hI⟩ := hl
          exact ⟨I, hi, fun e h nx q => h1 _ _ _ (hI _ _ _ q)⟩
      | some p =>
        rw [hp] at hl
        obtain ⟨e', h', nx', k1, k2⟩ := det_vregion hD hY kn hl
        exact k2 kn' (h1 _ _ _ k1)
  | seq a b iha ihb =>
    intro kn kn' kx kx' kr kr' e h nx h1 h2 h3 hl
    exact iha _ _ kx kx' kr kr' e h nx (fun e h nx => ihb kn kn' kx kx' kr kr' e h nx h1 h2 h3) h2 h3 hl
  | cond c t f iht ihf =>
    intro kn kn' kx kx' kr kr' e h nx h1 h2 h3 hl
    simp only [vcode_region, vcode_cond] at hl ⊢
    split at hl
    · rename_i b hb
      rcases br_cases hl with ⟨rfl, hl⟩ | ⟨rfl, hl⟩
      · exact iht kn kn' kx kx' kr kr' e h nx h1 h2 h3 hl
      · exact ihf kn kn' kx kx' kr kr' e h nx h1 h2 h3 hl
    · exact hl.elim
  | block id b ih =>
    intro kn kn' kx kx' kr kr' e h nx h1 h2 h3 hl
    refine ih _ _ _ _ kr kr' e h nx h1 (fun j e h nx hk => ?_) h3 hl
    cases hb : Nat.beq j id with
    | true => simp only [hb] at hk ⊢; exact h1 _ _ _ hk
    | false => simp only [hb] at hk ⊢; exact h2 _ _ _ _ hk
  | loop b ih =>
    intro kn kn' kx kx' kr kr' e h nx h1 h2 h3 hl
    simp only [vcode_loop, vloop] at hl ⊢
    cases M with
    | fuel n =>
      exact viter_mono (fun k k' e h nx hk => ih k k' kx kx' kr kr' e h nx hk h2 h3) n e h nx hl
    | inv b =>
      obtain ⟨I, h0, hI⟩ := hl
      exact ⟨I, h0, fun n e h nx hi => ih _ _ kx kx' kr kr' e h nx (fun _ _ _ q => q) h2 h3 (hI n e h nx hi)⟩
  | rangeFunc g ps as bd _ _ => exact fun kn kn' kx kx' kr kr' e h nx h1 h2 h3 hl => hR g ps as bd kn kn' kx kx' kr kr' e h nx h1 h2 h3 hl
  | exit id => exact fun kn kn' kx kx' kr kr' e h nx _ h2 _ hl => h2 _ _ _ _ hl
  | ret => exact fun kn kn' kx kx' kr kr' e h nx _ _ h3 hl => h3 _ _ _ hl
  | label l => exact fun kn kn' kx kx' kr kr' e h nx h1 _ _ hl => h1 _ _ _ hl
  | scope b ih => exact fun kn kn' kx kx' kr kr' e h nx h1 h2 h3 hl => ih kn kn' kx kx' kr kr' e h nx h1 h2 h3 hl
  | goto l => exact fun _ _ _ _ _ _ _ _ _ _ _ _ hl => hl.elim
  | refuse s => exact fun _ _ _ _ _ _ _ _ _ _ _ _ hl => hl.elim
end
end Go.Aw
end

/-
  Code, in the machine. No condition.
-/
set_option linter.unusedSimpArgs false
set_option linter.unusedVariables false
noncomputable section
namespace Go.Aw
open Go.RowKit

section
variable {P : Program} {T : Tab} {C : VC} {Y : VY} {tn : Nat} {PL : Nat → Option Plan} {M : LM} {R : VR}

def RMono (R : VR) : Prop := ∀ g ps as bd (kn kn' : KS) (kx kx' : Nat → KS) (kr kr' : KS) e h nx, (∀ e h nx, kn e h nx → kn' e h nx) → (∀ id e h nx, kx id e h nx → kx' id e h nx) → (∀ e h nx, kr e h nx → kr' e h nx) → R g ps as bd kn kx kr e h nx → R g ps as bd kn' kx' kr' e h nx

theorem vcode_ok (hT : TabOK P T) (hC : CallsOK P C) (hY : YieldsOK P Y) (hD : DetC C) (hDY : DetC Y) (hm : P.follows .mixedOrders = true) (r : Option Nat) (hR : RangeOK P r tn R) (hRm : RMono R) :
    ∀ (c : Code), plansOK PL c = true → ∀ (kn : KS) (kx : Nat → KS) (kr : KS) e h nx, vcode std T C Y tn PL M R c kn kx kr e h nx → ∀ B0 w0 ι0 nx0 Q, M.low nx0 → Ends B0 w0 ι0 nx0 tn kn kx kr Q → ∀ ι a w, CInv B0 w0 ι0 nx0 tn ι e h nx a w →
      c.wpIn (Fr r) 0 P Q a w := by
  intro c
  induction c with
  | skip => exact fun _ kn kx kr e h nx hl B0 w0 ι0 nx0 Q hM E ι a w I => wpIn_skip (E.n ι e h nx a w hl I)
  | region id ops draw =>
    intro hp kn kx kr e h nx hl B0 w0 ι0 nx0 Q hM E ι a w I
    obtain ⟨B, w1, ι1, nx1, ds, h1, h2, h3, h4, h5, J⟩ := I
    simp only [vcode_region, vcode_cond, vcode_loop] at hl
    cases draw with
    | false =>
      refine wpIn_region_list (vops_ok hT hC hY r ops.toList ι e h nx a w hl J fun ι' e' h' nx' a' w' hk J' => ?_)
      exact E.n ι' e' h' nx' a' w' hk ⟨B, w1, ι1, nx1, ds, h1, h2, h3, h4, h5, J'⟩
    | true =>
      simp only [plansOK] at hp
      simp only at hl
      cases hpl : PL id with
      | none =>
        rw [hpl] at hl
        simp only [vregA] at hl
        cases M with
        | fuel n => exact hl.elim
        | inv b =>
          obtain ⟨I, hi, hI⟩ := hl
          refine vanyR_ok hT hC hY hm J hi r fun ι' e' h' nx' a' w' hk J' => ?_
          obtain ⟨ι2, e2, h2', nx2, k1, k2⟩ := CInv.into ⟨B, w1, ι1, nx1, ds, h1, h2, h3, h4, h5, J'⟩ hM hk
          exact E.n ι2 e2 h2' nx2 a' w' (hI _ _ _ k1) k2
      | some p =>
        rw [hpl] at hl hp
        exact vregion_ok hT hC hY hD hm (planOK_spec hp) J hl r fun ι' e' h' nx' a' w' hk J' => E.n ι' e' h' nx' a' w' hk ⟨B, w1, ι1, nx1, ds, h1, h2, h3, h4, h5, J'⟩
  | seq a b iha ihb =>
    intro hp kn kx kr e h nx hl B0 w0 ι0 nx0 Q hM E ι ac w I
    simp only [plansOK, Bool.and_eq_true] at hp
    refine wpIn_seq (iha hp.1 _ kx kr e h nx hl B0 w0 ι0 nx0 _ hM ⟨fun ι e h nx a w hk I => ?_, fun id ι e h nx a w hk I => ?_, fun ι e h nx a w hk I => ?_⟩ ι ac w I)
    · exact ihb hp.2 kn kx kr e h nx hk B0 w0 ι0 nx0 Q hM E ι a w I
    · exact E.x id ι e h nx a w hk I
    · exact E.r ι e h nx a w hk I
  | cond c t f iht ihf =>
    intro hp kn kx kr e h nx hl B0 w0 ι0 nx0 Q hM E ι a w I
    simp only [plansOK, Bool.and_eq_true] at hp
    simp only [vcode_region, vcode_cond, vcode_loop] at hl
    split at hl
    case h_2 => exact hl.elim
    rename_i b hb
    have hc : a.eval c = .bool b := by
      obtain ⟨B, w1, ι1, nx1, ds, h1, h2, h3, h4, h5, J⟩ := I
      rw [(J.env.opv hb).1, tr_bool]
    rcases br_cases hl with ⟨rfl, hl⟩ | ⟨rfl, hl⟩
    · exact wpIn_cond_true hc (iht hp.1 kn kx kr e h nx hl B0 w0 ι0 nx0 Q hM E ι a w I)
    · exact wpIn_cond_false hc (ihf hp.2 kn kx kr e h nx hl B0 w0 ι0 nx0 Q hM E ι a w I)
  | block id b ih =>
    intro hp kn kx kr e h nx hl B0 w0 ι0 nx0 Q hM E ι a w I
    refine wpIn_block (ih hp _ _ kr e h nx hl B0 w0 ι0 nx0 (Exit.inBlock id Q) hM ⟨E.n, fun j ι e h nx a w hk I => ?_, E.r⟩ ι a w I)
    cases hb : Nat.beq j id with
    | true =>
      rw [hb] at hk
      simp only [Exit.inBlock, if_pos (beq_true hb)]
      exact E.n ι e h nx a w hk I
    | false =>
      rw [hb] at hk
      simp only [Exit.inBlock, if_neg (beq_false hb)]
      exact E.x j ι e h nx a w hk I
  | loop b ih =>
    intro hp kn kx kr e h nx hl B0 w0 ι0 nx0 Q hM E ι a w I
    simp only [vcode_region, vcode_cond, vcode_loop] at hl
    cases M with
    | fuel n0 =>
      refine wpIn_loop_ks (I := fun n a w => ∃ ι e h nx, viter (fun k => vcode std T C Y tn PL (.fuel n0) R b k kx kr) n e h nx ∧ CInv B0 w0 ι0 nx0 tn ι e h nx a w) (n := n0) ⟨ι, e, h, nx, hl, I⟩ fun m a w hi => ?_
      obtain ⟨ι, e, h, nx, h1, I⟩ := hi
      cases m with
      | zero => exact h1.elim
      | succ m =>
        refine ih hp (viter (fun k => vcode std T C Y tn PL (.fuel n0) R b k kx kr) m) kx kr e h nx h1 B0 w0 ι0 nx0 (Exit.then (fun a' w' => ∃ m', m' < m + 1 ∧ ∃ ι e h nx, viter (fun k => vcode std T C Y tn PL (.fuel n0) R b k kx kr) m' e h nx ∧ CInv B0 w0 ι0 nx0 tn ι e h nx a' w') Q) hM ⟨fun ι e h nx a w hk I => ?_, fun id ι e h nx a w hk I => E.x id ι e h nx a w hk I, fun ι e h nx a w hk I => E.r ι e h nx a w hk I⟩ ι a w I
        exact ⟨m, Nat.lt_succ_self m, ι, e, h, nx, hk, I⟩
    | inv bs =>
      obtain ⟨J, ⟨n, h0⟩, hJ⟩ := hl
      obtain ⟨ι', e', h', nx', h0', I'⟩ := I.into hM h0
      refine wpIn_loop_ks (I := fun n a w => ∃ ι e h nx, J n e h nx ∧ CInv B0 w0 ι0 nx0 tn ι e h nx a w) (n := n) ⟨ι', e', h', nx', h0', I'⟩ fun n a w hi => ?_
      obtain ⟨ι, e, h, nx, h1, I⟩ := hi
      refine ih hp _ kx kr e h nx (hJ n e h nx h1) B0 w0 ι0 nx0 (Exit.then (fun a' w' => ∃ m, m < n ∧ ∃ ι e h nx, J m e h nx ∧ CInv B0 w0 ι0 nx0 tn ι e h nx a' w') Q) hM ⟨fun ι e h nx a w hk I => ?_, fun id ι e h nx a w hk I => E.x id ι e h nx a w hk I, fun ι e h nx a w hk I => E.r ι e h nx a w hk I⟩ ι a w I
      obtain ⟨m, hm, hk⟩ := hk
      obtain ⟨ι', e', h', nx', hk', I'⟩ := I.into hM hk
      exact ⟨m, hm, ι', e', h', nx', hk', I'⟩
  | rangeFunc g ps as bd _ _ => exact fun _ kn kx kr e h nx hl B0 w0 ι0 nx0 Q hM E ι a w I => hR g ps as bd kn kx kr e h nx hl B0 w0 ι0 nx0 Q E ι a w I
  | exit id => exact fun _ kn kx kr e h nx hl B0 w0 ι0 nx0 Q hM E ι a w I => wpIn_exit (E.x id ι e h nx a w hl I)
  | ret => exact fun _ kn kx kr e h nx hl B0 w0 ι0 nx0 Q hM E ι a w I => wpIn_ret (E.r ι e h nx a w hl I)
  | label l => exact fun _ kn kx kr e h nx hl B0 w0 ι0 nx0 Q hM E ι a w I => wpIn_label (E.n ι e h nx a w hl I)
  | scope b ih =>
    intro hp kn kx kr e h nx hl B0 w0 ι0 nx0 Q hM E ι a w I
    refine wpIn_scope_straight (ih hp kn kx kr e h nx hl B0 w0 ι0 nx0 _ hM ⟨fun ι e h nx a w hk I => ⟨fun l he => (by cases he), E.n ι e h nx a w hk I⟩, fun id ι e h nx a w hk I => ⟨fun l he => (by cases he), E.x id ι e h nx a w hk I⟩, fun ι e h nx a w hk I => ⟨fun l he => (by cases he), E.r ι e h nx a w hk I⟩⟩ ι a w I)
  | goto l => exact fun _ _ _ _ _ _ _ hl => hl.elim
  | refuse s => exact fun _ _ _ _ _ _ _ hl => hl.elim
end
end Go.Aw
end

/-
  A function's results; its end. No condition.
-/
set_option linter.unusedSimpArgs false
set_option linter.unusedVariables false
noncomputable section
namespace Go.Aw
open Go.RowKit

def vresults (T : Tab) (e : List (Nat × Value)) (h : Heap) (l : List ResultVar) : (List Value → Prop) → Prop :=
  @List.rec ResultVar (fun _ => (List Value → Prop) → Prop) (fun K => K [])
    (fun x _ ih K => match x with
      | .tmp t => on (look e t) fun v => ih fun l => K (v :: l)
      | .cell a t => on (look e a) fun p => vload T h t p fun v => ih fun l => K (v :: l)) l
theorem vresults_tmp {T : Tab} {e : List (Nat × Value)} {h : Heap} {t : Nat} {r : List ResultVar} {K : List Value → Prop} : vresults T e h (.tmp t :: r) K = on (look e t) fun v => vresults T e h r fun l => K (v :: l) := rfl
theorem vresults_cell {T : Tab} {e : List (Nat × Value)} {h : Heap} {a : Nat} {t : TypeId} {r : List ResultVar} {K : List Value → Prop} : vresults T e h (.cell a t :: r) K = on (look e a) fun p => vload T h t p fun v => vresults T e h r fun l => K (v :: l) := rfl

def noTup : List Value → Bool
  | [] => true
  | .tuple _ :: _ => false
  | _ :: r => noTup r

def vend (T : Tab) (fn : Func) (K : KE) : KS := fun e h nx => vresults T e h fn.results.toList fun l =>
  match l with
  | [v] => K v h nx
  | l => match noTup l with | true => K (.tuple l.toArray) h nx | false => False

def resOne (tmps : Array Value) : ResultVar → Sem Value
  | .tmp t => pure (tmps.getD t undef)
  | .cell b t => do loadVar t (← asAddr (tmps.getD b undef))
theorem results_eq (fn : Func) (tmps : Array Value) : results fn tmps = (do let vs ← fn.results.mapM (resOne tmps); pure (if h : vs.size = 1 then vs[0] else .tuple vs)) := by
  unfold results
  congr 1

section
variable {P : Program} {T : Tab}

theorem vresults_ok (hT : TabOK P T) {ι : Nat → Loc} {B nx : Nat} {e : List (Nat × Value)} {h : Heap} {a : Act} (he : EnvOK ι nx e a) {w : World} (H : RelH ι B h nx w) : ∀ (l : List ResultVar) (K : List Value → Prop), vresults T e h l K →
    ∃ vs, K vs ∧ vs.length = l.length ∧ (∀ v ∈ vs, scT ι nx v) ∧ ∀ w', RelH ι B h nx w' → (l.mapM (resOne a.tmps)).run P w' = .ok (vs.map (tr ι)) w'
  | [], K, hl => ⟨[], hl, rfl, by simp, fun w' _ => by simp⟩
  | .tmp t :: r, K, hl => by
    simp only [vresults_tmp, vresults_cell] at hl
    obtain ⟨v, hv, hl⟩ := on_ok hl
    obtain ⟨vs, h1, h2, h3, h4⟩ := vresults_ok hT he H r _ hl
    obtain ⟨e1, e2⟩ := he t v hv
    refine ⟨v :: vs, h1, by simp [h2], fun u hu => ?_, fun w' H' => ?_⟩
    · rcases List.mem_cons.1 hu with rfl | hu
      · exact e2
      · exact h3 u hu
    · have := h4 w' H'
      have h6 : (resOne a.tmps (.tmp t)).run P w' = .ok (tr ι v) w' := by simp [resOne, e1]
      simp only [List.mapM_cons, Sem.run_bind, Sem.run_pure, Result.andThen_ok, this, h6, List.map_cons]
  | .cell b t :: r, K, hl => by
    simp only [vresults_tmp, vresults_cell] at hl
    obtain ⟨p, hp, hl⟩ := on_ok hl
    obtain ⟨v, hk, hv, hrun⟩ := vload_ok (P := P) hT hl H
    obtain ⟨vs, h1, h2, h3, h4⟩ := vresults_ok hT he H r _ hk
    obtain ⟨e1, e2⟩ := he b p hp
    refine ⟨v :: vs, h1, by simp [h2], fun u hu => ?_, fun w' H' => ?_⟩
    · rcases List.mem_cons.1 hu with rfl | hu
      · exact scT_of_A hv
      · exact h3 u hu
    · have := h4 w' H'
      have e3 : a.tmps.getD b undef = tr ι p := by simp [e1]
      have h5 := hrun w' H'
      have hptr : ∃ ad, tr ι p = .pointer (some ad) := by
        unfold vload at hl
        split at hl
        · rename_i k o
          simp only [tr_pointer]
          split at hl
          · rename_i ti wr g sz cs ht hlk
            have hsc : k < nx ∧ (ι k).isAt = true := e2
            cases hι : ι k with
            | nil q => rw [hι] at hsc; cases hsc.2
            | lay b o e => exact ⟨_, rfl⟩
          · exact hl.elim
        · exact hl.elim
      obtain ⟨ad, had⟩ := hptr
      rw [had] at h5
      simp only [Instr.loadAt, Instr.sureAddr, Sem.run_bind, Sem.run_pure, Result.andThen_ok] at h5
      have h6 : (resOne a.tmps (.cell b t)).run P w' = .ok (tr ι v) w' := by
        simp only [resOne, e3, had, asAddr, Sem.run_bind, Sem.run_pure, Result.andThen_ok, h5]
      simp only [List.mapM_cons, Sem.run_bind, Sem.run_pure, Result.andThen_ok, h6, this, List.map_cons]

theorem vend_ok (hT : TabOK P T) {fn : Func} {K : KE} {ι : Nat → Loc} {B nx : Nat} {e : List (Nat × Value)} {h : Heap} {a : Act} (he : EnvOK ι nx e a) {w : World} (H : RelH ι B h nx w) (hl : vend T fn K e h nx) :
    ∃ v, K v h nx ∧ scT ι nx v ∧ ∀ w', RelH ι B h nx w' → (results fn a.tmps).run P w' = .ok (tr ι v) w' := by
  unfold vend at hl
  obtain ⟨vs, h1, h2, h3, h4⟩ := vresults_ok hT he H _ _ hl
  have hres : ∀ w', RelH ι B h nx w' → (results fn a.tmps).run P w' = .ok (if h : (vs.map (tr ι)).toArray.size = 1 then (vs.map (tr ι)).toArray[0] else .tuple (vs.map (tr ι)).toArray) w' := by
    intro w' H'
    have := h4 w' H'
    rw [results_eq, Array.mapM_eq_mapM_toList]
    simp only [Sem.run_bind, Sem.run_map, this, Result.andThen_ok, Sem.run_pure]
  split at h1
  · rename_i v
    exact ⟨v, h1, h3 v (by simp), fun w' H' => by rw [hres w' H']; simp⟩
  · rename_i hne
    split at h1
    case h_2 => exact h1.elim
    rename_i hnt
    have hA : ∀ v ∈ vs, scA ι nx v := by
      clear h4 hres hne h2 hl h1
      induction vs with
      | nil => simp
      | cons x r ih =>
        intro v hv
        have hx : (∀ c, x ≠ .tuple c) ∧ noTup r = true := by
          cases x <;> first | exact ⟨fun c e => (by cases e), hnt⟩ | (simp [noTup] at hnt)
        rcases List.mem_cons.1 hv with rfl | hv
        · exact scA_of_T hx.1 (h3 v (by simp))
        · exact ih (fun u hu => h3 u (by simp [hu])) hx.2 v hv
    refine ⟨_, h1, fun v hv => hA v (by simpa using hv), fun w' H' => ?_⟩
    rw [hres w' H']
    have hlen : vs.length ≠ 1 := by
      intro e
      obtain ⟨v, rfl⟩ := List.length_eq_one_iff.1 e
      exact hne v rfl
    rw [dif_neg (by simpa using hlen)]
    simp only [tr]
    congr 2
    apply Array.ext'
    simp only [List.map_toArray]
    apply List.map_congr_left
    intro v hv
    exact tr_of_A (hA v hv)
end
end Go.Aw
end

/-
  A function's end, marks and all; ranges over functions; rounds: the evaluation. No condition.
-/
set_option linter.unusedSimpArgs false
set_option linter.unusedVariables false
noncomputable section
namespace Go.Aw
open Go.RowKit

/-! ### the evaluation -/
def afterLoop (h : Heap) (nx : Nat) : Heap := shutH (rem (rem h (nx + 1)) nx)

def vrange (C : VC) (f tn : Nat) : VR := fun g ps as bd kn kx kr e h nx =>
  on (opv e g) fun gv => match gv with
    | .func (.func q) first cap => (match first.toList, capPtr cap.toList with
      | [], true => C q (.func (.yield (nx + 1)) #[] #[] :: cap.toList)
          (upd (upd h nx .deferred) (nx + 1) (.loop { state := .ready, pending := none, fn := f, env := e, tn := tn, params := ps.toList, assign := as, body := bd, defers := nx })) (nx + 2) fun _ h' nx' =>
          (match look h' (nx + 1), look h' nx with
          | some (.loop l), some .deferred => (match l.state, l.pending with
            | .busy, _ => False
            | _, none => kn e (afterLoop h' nx) nx'
            | _, some (.exit id) => kx id e (afterLoop h' nx) nx'
            | _, some .ret => kr e (afterLoop h' nx) nx'
            | _, _ => False)
          | _, _ => False)
      | _, _ => False)
    | _ => False
def noRange : VR := fun _ _ _ _ _ _ _ _ _ _ => False

def zipPut (tn : Nat) : List (Nat × Value) → List Nat → List Value → Option (List (Nat × Value))
  | e, [], [] => some e
  | e, t :: ts, v :: vs => match Nat.blt t tn with | true => zipPut tn (put e t v) ts vs | false => none
  | _, _, _ => none

def vfin (q : Nat) (K : KE) (j : Option Code) : KS := fun _ h nx =>
  match look h q with
  | some (.loop l) => K (.bool j.isNone) (upd h q (.loop { l with state := if j.isNone then .ready else .done, pending := j })) nx
  | _ => False

def vround (A : Ar) (T : Tab) (C : VC) (Y : VY) (PL : Nat → Nat → Option Plan) (M : LM) : VY := fun q args h nx K =>
  match look h q with
  | some (.loop l) => (match zipPut l.tn l.env l.params args, plansOK (PL l.fn) l.assign && plansOK (PL l.fn) l.body with
    | some e0, true => vcode A T C Y l.tn (PL l.fn) M noRange l.assign (fun e1 h1 nx1 =>
        match look h1 q with
        | some (.loop l1) => (match l1.state with
          | .ready => vcode A T C Y l.tn (PL l.fn) M noRange l.body (vfin q K none) (fun id => vfin q K (some (.exit id))) (vfin q K (some .ret)) e1 (upd h1 q (.loop { l1 with state := .busy })) nx1
          | _ => False)
        | _ => False) (fun _ _ _ _ => False) (fun _ _ _ => False) e0 h nx
    | _, _ => False)
  | _ => False

def initEnv : Nat → List Value → List (Nat × Value)
  | _, [] => []
  | i, v :: r => (i, v) :: initEnv (i + 1) r
def prune (n : Nat) : Heap → Heap
  | [] => []
  | (k, o) :: r => match Nat.blt k n with | true => (k, o) :: prune n r | false => prune n r

/-- What the reckoning is given: types, functions, plans, which functions' names may be dropped, contracts in a body's place, how loops are met. -/
structure Cfg where
  A : Ar
  T : Tab
  FT : Nat → Option Func
  PL : Nat → Nat → Option Plan
  PR : Nat → Bool
  X : Nat → Option (List Value → Heap → Nat → KE → Prop)
  M : Nat

def vbody (c : Cfg) (M : Option Nat) (C : VC) (Y : VY) : VC := fun f args h nx K =>
  match c.X f with
  | some x => x args h nx K
  | none => match c.FT f with
    | none => False
    | some fn => (match fn.body, Nat.ble args.length fn.ntmps with
      | some b, true =>
        let fin : KS := vend c.T fn fun v h' nx' => K v (match c.PR f with | true => prune nx h' | false => h') nx'
        vcode c.A c.T C Y fn.ntmps (c.PL f) (match M with | some n => .fuel n | none => .inv nx) (vrange C f fn.ntmps) b fin (fun _ _ _ _ => False) fin (initEnv 0 args) h nx
      | _, _ => False)

/-- Calls (false) and rounds (true), so deep. -/
def vcall (c : Cfg) : Nat → Bool → VC
  | 0, _ => fun _ _ _ _ _ => False
  | d + 1, false => vbody c (some c.M) (vcall c d false) (vcall c d true)
  | d + 1, true => vround c.A c.T (vcall c d false) (vcall c d true) c.PL (.fuel c.M)

section
variable {P : Program} {T : Tab}

theorem look_prune {n : Nat} {h : Heap} {k : Nat} {o : AObj} (hl : look (prune n h) k = some o) : look h k = some o := by
  induction h with
  | nil => exact hl
  | cons x r ih =>
    obtain ⟨j, q⟩ := x
    simp only [prune] at hl
    by_cases hjk : j = k
    · subst hjk
      split at hl
      · simpa [look_cons] using hl
      · rename_i hn
        -- the name is too high: nothing is left of it
        have : ∀ (r : Heap), look (prune n r) j = none := by
          intro r
          induction r with
          | nil => rfl
          | cons y r ih2 =>
            obtain ⟨i, q2⟩ := y
            simp only [prune]
            split
            · rename_i hi
              have hne : Nat.beq i j = false := by
                cases hb : Nat.beq i j with
                | false => rfl
                | true => rw [beq_true hb] at hi; rw [hi] at hn; cases hn
              simp only [look_cons, hne]
              exact ih2
            · exact ih2
        rw [this] at hl
        cases hl
    · have hne : Nat.beq j k = false := by
        cases hb : Nat.beq j k with
        | false => rfl
        | true => exact absurd (beq_true hb) hjk
      simp only [look_cons, hne]
      split at hl
      · simp only [look_cons, hne] at hl
        exact ih hl
      · exact ih hl

theorem RelH.down {ι : Nat → Loc} {B B0 nx : Nat} {h : Heap} {w : World} (H : RelH ι B h nx w) (hB : B0 ≤ B) : RelH ι B0 h nx w := by
  refine ⟨fun k o hk => ?_, H.sep, H.low, Nat.le_trans hB H.size, H.sc⟩
  have ho := H.obj k o hk
  cases hι : ι k with
  | nil p => rw [hι] at ho; cases o <;> first | exact ho | exact ho.elim
  | lay b off e =>
    rw [hι] at ho
    cases o with
    | cells wr g sz cs =>
      cases wr with
      | true => exact ⟨Nat.le_trans hB ho.1, ho.2⟩
      | false => exact ho
    | map es => exact ⟨Nat.le_trans hB ho.1, ho.2⟩
    | loop l => exact ⟨Nat.le_trans hB ho.1, ho.2⟩
    | deferred => exact ⟨Nat.le_trans hB ho.1, ho.2⟩
    | zero => exact ho

/-- A mark's block is shut: nothing that is named lies there. -/
theorem RelH.taken {ι : Nat → Loc} {B nx : Nat} {h : Heap} {w : World} (H : RelH ι B h nx w) {b : Nat} (hb : b < B) {ds : Option (List Deferred)} (hd : w.heap[b]? = some (.deferred ds)) (o : Obj) :
    RelH ι B h nx { w with heap := w.heap.setIfInBounds b o } := by
  have hother : ∀ c, c ≠ b → (w.heap.setIfInBounds b o)[c]? = w.heap[c]? := fun c hc => by rw [Array.getElem?_setIfInBounds_ne (fun e => hc e.symm)]
  refine ⟨fun k q hk => ?_, H.sep, H.low, by simpa using H.size, H.sc⟩
  have hq := H.obj k q hk
  by_cases hkb : (ι k).blk = some b
  · -- only what is read, and that is empty
    cases hι : ι k with
    | nil p => rw [hι] at hkb; cases hkb
    | lay c off e =>
      have hcb : c = b := by rw [hι] at hkb; simpa [Loc.blk] using hkb
      subst hcb
      rw [hι] at hq
      cases q with
      | cells wr g sz cs =>
        cases wr with
        | true => have := hq.1; omega
        | false =>
          refine ⟨by simpa using hq.1, hq.2.1, fun i v hv => ?_⟩
          have := hq.2.2 i v hv
          simp [World.cell?, hd] at this
      | map es => have := hq.1; omega
      | loop l => have := hq.1; omega
      | deferred => have := hq.1; omega
      | zero => exact hq.elim
  · exact hq.keep (fun c hc => hother c (fun e => hkb (e ▸ hc))) (by simp)

theorem leaves_marks {ι : Nat → Loc} {B B0 nx : Nat} {h : Heap} {fn : Func} {tmps : Array Value} {Rr : Ending → World → Prop} : ∀ (bs : List Nat) (w : World), bs.Nodup → (∀ b ∈ bs, B0 ≤ b ∧ b < B ∧ w.heap[b]? = some (.deferred (some []))) → RelH ι B h nx w →
    (∀ w', RelH ι B h nx w' → Bel B0 w w' → ∃ u, (results fn tmps).run P w' = .ok u w' ∧ Rr (.returned u) w') → LeavesInM Fence.wide 0 P fn tmps Rr (bs.map markOf) .returning w
  | [], w, _, _, H, hR => hR w H (Bel.refl _ _)
  | b :: bs, w, hn, hb, H, hR => by
    rw [List.nodup_cons] at hn
    obtain ⟨h1, h2, h3⟩ := hb b (by simp)
    have hlt := (Array.getElem?_eq_some_iff.1 h3).1
    have hbel : Bel B0 w { w with heap := w.heap.setIfInBounds b (.deferred none) } := ⟨rfl, rfl, rfl, by simp, fun c hc => by
      simp [Array.getElem?_setIfInBounds_ne (show b ≠ c by omega)], Nat.le_refl _⟩
    refine ⟨by simp, .inl ⟨b, { w with heap := w.heap.setIfInBounds b (.deferred none) }, rfl, ?_, ?_⟩⟩
    · simp [Instr.takeDeferred, getObj, setObj, Sem.run, h3]
    · refine leaves_marks bs _ hn.2 (fun c hc => ?_) (H.taken h2 h3 _) (fun w' H' hb' => hR w' H' (hbel.trans hb'))
      obtain ⟨k1, k2, k3⟩ := hb c (by simp [hc])
      have hne : b ≠ c := fun e => hn.1 (e ▸ hc)
      exact ⟨k1, k2, by simp [Array.getElem?_setIfInBounds_ne hne, k3]⟩
end
end Go.Aw
end

/-
  Functions, in the machine. No condition.
-/
set_option linter.unusedSimpArgs false
set_option linter.unusedVariables false
noncomputable section
namespace Go.Aw
open Go.RowKit

section
variable {P : Program} {T : Tab} {C : VC} {Y : VY}

theorem initEnv_look : ∀ (l : List Value) (i t : Nat) (v : Value), look (initEnv i l) t = some v → i ≤ t ∧ l[t - i]? = some v
  | [], i, t, v, h => by cases h
  | x :: r, i, t, v, h => by
    simp only [initEnv, look_cons] at h
    split at h
    · rename_i hb
      have := beq_true hb
      subst this
      injection h with h
      subst h
      exact ⟨Nat.le_refl _, by simp⟩
    · obtain ⟨h1, h2⟩ := initEnv_look r (i + 1) t v h
      refine ⟨by omega, ?_⟩
      rw [show t - i = (t - (i + 1)) + 1 by omega]
      simpa using h2

theorem initEnv_ok {ι : Nat → Loc} {n : Nat} {args : List Value} (hs : ∀ v ∈ args, scT ι n v) {k : Nat} {ds : List Deferred} : EnvOK ι n (initEnv 0 args) { tmps := (args.map (tr ι)).toArray ++ Array.replicate k undef, defers := ds } := by
  intro t v h
  obtain ⟨_, h2⟩ := initEnv_look args 0 t v h
  rw [Nat.sub_zero] at h2
  have hlt := (List.getElem?_eq_some_iff.1 h2).1
  refine ⟨?_, hs v (List.mem_of_getElem? h2)⟩
  rw [Array.getElem?_append_left (by simpa using hlt)]
  simp [h2]

theorem body_ok (hT : TabOK P T) (hC : CallsOK P C) (hY : YieldsOK P Y) (hD : DetC C) (hDY : DetC Y) (hm : P.follows .mixedOrders = true) {f : FuncId} {fn : Func} {b : Code} (hf : P.funcs[f]? = some fn) (hb : fn.body = some b) {nx : Nat} {PL : Nat → Option Plan} (hp : plansOK PL b = true)
    {M : LM} (hM : M.low nx) {R : VR} (hR : RangeOK P none fn.ntmps R) (hRm : RMono R) {args : List Value} (ha : args.length ≤ fn.ntmps) {h : Heap} {K K' : KE} (hK : ∀ v h' nx', K' v h' nx' → ∃ h'', K v h'' nx' ∧ ∀ k o, look h'' k = some o → look h' k = some o)
    (hl : vcode std T C Y fn.ntmps PL M R b (vend T fn K') (fun _ _ _ _ => False) (vend T fn K') (initEnv 0 args) h nx) {ι : Nat → Loc} {B : Nat} {w : World} (H : RelH ι B h nx w) (hs : ∀ v ∈ args, scT ι nx v) :
    CallsIn Fence.wide 0 P f (args.map (tr ι)).toArray w (Ret B w ι nx K) := by
  refine callsIn_of_wp_marks hf hb trivial ?_ rfl
  have hend : ∀ ι' e h' nx' a w', vend T fn K' e h' nx' → CInv B w ι nx fn.ntmps ι' e h' nx' a w' → LeavesInM Fence.wide 0 P fn a.tmps (Ret B w ι nx K) a.defers .returning w' := by
    intro ι' e h' nx' a w' hv I
    obtain ⟨B1, w1, ι1, nx1, ds, h1, h2, h3, h4, ⟨bs, rfl, hnd, hbs⟩, J⟩ := I
    rw [J.defers]
    obtain ⟨v, k1, k2, k3⟩ := vend_ok hT J.env J.heap hv
    obtain ⟨h'', k4, k5⟩ := hK v h' nx' k1
    refine leaves_marks (B := B1) (B0 := B) bs w' hnd (fun x hx => ?_) J.heap (fun w2 H2 hb2 => ⟨_, k3 w2 H2, v, h'', nx', ι', k4, k2, (H2.down h1).sub k5, ?_, fun k hk => (J.old k (Nat.lt_of_lt_of_le hk h4)).trans (h3 k hk), Nat.le_trans h4 J.le, rfl⟩)
    · obtain ⟨q1, q2, q3⟩ := hbs x hx
      exact ⟨q1, q2, by rw [J.below.block x q2]; exact q3⟩
    · exact (h2.trans (J.below.mono h1)).trans hb2
  refine vcode_ok hT hC hY hD hDY hm none hR hRm b hp _ _ _ _ h nx hl B w ι nx _ hM ⟨?_, ?_, ?_⟩ ι _ w ?_
  · exact fun ι' e h' nx' a w' hv I => hend ι' e h' nx' a w' hv I
  · exact fun id ι' e h' nx' a w' hv I => hv.elim
  · exact fun ι' e h' nx' a w' hv I => hend ι' e h' nx' a w' hv I
  · refine ⟨B, w, ι, nx, [], Nat.le_refl _, Bel.refl _ _, fun _ _ => rfl, Nat.le_refl _, ⟨[], rfl, by simp, by simp⟩, initEnv_ok hs, H, Bel.refl _ _, fun _ _ => rfl, Nat.le_refl _, ?_, rfl⟩
    simp
    omega
end
end Go.Aw
end

/-
  A range over a function, in the machine. No condition.
-/
set_option linter.unusedSimpArgs false
set_option linter.unusedVariables false
noncomputable section
namespace Go.Aw
open Go.RowKit

section
variable {P : Program} {T : Tab} {C : VC} {Y : VY}

theorem run_getLoop {w : World} {l : Nat} {r : Loop} (h : w.heap[l]? = some (.loop r)) : (Instr.getLoop l).run P w = .ok r w := by
  simp [Instr.getLoop, getObj, Sem.run, h]
theorem run_setLoop {w : World} {l : Nat} {r : Loop} (h : w.heap[l]? = some (.loop r)) (o : Obj) : (setObj l o).run P w = .ok () { w with heap := w.heap.setIfInBounds l o } := by
  simp [setObj, Sem.run, h]

theorem vrange_ok (hC : CallsOK P C) {f tn : Nat} : RangeOK P none tn (vrange C f tn) := by
  intro g ps as bd kn kx kr e h nx hl B0 w0 ι0 nx0 Q E ι a w I
  obtain ⟨B, w1, ι1, nx1, ds, h1, h2, h3, h4, ⟨bs, hds, hnd, hbs⟩, J⟩ := I
  unfold vrange at hl
  obtain ⟨gv, hgv, hl⟩ := on_ok hl
  obtain ⟨e1, e2⟩ := J.env.opv hgv
  split at hl
  case h_2 => exact hl.elim
  rename_i q first cap
  split at hl
  case h_2 => exact hl.elim
  rename_i hfirst hcap
  obtain ⟨first⟩ := first
  simp only at hfirst
  subst hfirst
  refine wpIn_rangeFunc fun fnid _ => ?_
  -- the records
  have H := J.heap
  have hA := H.new (.deferred (some [])) .deferred ⟨H.size, (MapKept.heap_alloc w _).1⟩ trivial
  generalize hι2 : ins ι nx (.lay w.heap.size 0 0) = ι2 at hA
  generalize hwA : w.alloc (.deferred (some [])) = wA at hA
  have hbA : Bel w.heap.size w wA := by rw [← hwA]; exact below_alloc w _
  have hi2 : ∀ k, k < nx → ι2 k = ι k := fun k hk => by rw [← hι2]; exact ins_lt _ _ hk
  have hmark : ι2 nx = .lay w.heap.size 0 0 := by rw [← hι2]; exact ins_same _ _ _
  let rec_ : Loop := { state := .ready, pending := none, fn := fnid, tmps := a.tmps, params := ps, assign := as, body := bd, defers := w.heap.size }
  let la : LoopA := { state := .ready, pending := none, fn := f, env := e, tn := tn, params := ps.toList, assign := as, body := bd, defers := nx }
  have hi3' : ∀ k, k < nx → ins ι2 (nx + 1) (.lay wA.heap.size 0 0) k = ι k := fun k hk => by rw [ins_lt _ _ (by omega)]; exact hi2 k hk
  have hB := hA.new (.loop rec_) (.loop la) (by
    refine ⟨hA.size, rec_, (MapKept.heap_alloc wA _).1, rfl, rfl, trivial, J.size, fun t v hv => ?_, rfl, rfl, rfl, ?_⟩
    · obtain ⟨k1, k2⟩ := J.env t v hv
      rw [tr_eq hi3' k2]
      exact k1
    · show (ins ι2 (nx + 1) (.lay wA.heap.size 0 0) nx).blk = some w.heap.size
      rw [ins_lt _ _ (by omega), hmark]
      rfl) ⟨fun t v hv => scT_mono (by omega) hi3' (J.env t v hv).2, by show nx < nx + 1 + 1; omega⟩
  generalize hι3 : ins ι2 (nx + 1) (.lay wA.heap.size 0 0) = ι3 at hB hi3'
  generalize hwB : wA.alloc (.loop rec_) = wB at hB
  have hbB : Bel wA.heap.size wA wB := by rw [← hwB]; exact below_alloc wA _
  have hl3 : ι3 (nx + 1) = .lay wA.heap.size 0 0 := by rw [← hι3]; exact ins_same _ _ _
  have hm3 : ι3 nx = .lay w.heap.size 0 0 := by rw [← hι3, ins_lt _ _ (by omega)]; exact hmark
  have hwA1 : w.heap.size < wA.heap.size := by rw [← hwA]; exact (Array.getElem?_eq_some_iff.1 (MapKept.heap_alloc w _).1).1
  -- the call
  obtain ⟨⟨fn, hfn, hbody, hname⟩, hcalls⟩ := hC q _ _ _ _ hl ι3 B wB hB (by
    intro v hv
    rcases List.mem_cons.1 hv with rfl | hv
    · simp [scT, scA, scS, scFn, hl3, Loc.isAt]
    · obtain ⟨p, rfl⟩ := capPtr_spec hcap v hv
      exact scT_mono (by omega) hi3' (show scT ι nx (.pointer (some p)) from e2.2 _ hv))
  have hcapm : cap.map (trP ι) = (cap.toList.map (tr ι3)).toArray := by
    apply Array.ext'
    simp only [Array.toList_map]
    apply List.map_congr_left
    intro v hv
    obtain ⟨p, rfl⟩ := capPtr_spec hcap v hv
    exact (tr_eq hi3' (show scT ι nx (.pointer (some p)) from e2.2 _ hv)).symm
  have hy : tr ι3 (.func (.yield (nx + 1)) #[] #[]) = .func (.yield wA.heap.size) #[] #[] := by simp [tr, trA, trS, trFn, hl3]
  obtain ⟨bdy, hb'⟩ := Option.isSome_iff_exists.1 hbody
  have hname' : fn.name ≠ "runtime.NumGoroutine" := by simpa using hname
  refine ⟨wA.heap.size, [markOf w.heap.size], wB, { target := .fn (.func q) (cap.map (trP ι)), args := #[.func (.yield wA.heap.size) #[] #[]] }, wB, q, ((Value.func (.yield (nx + 1)) #[] #[] :: cap.toList).map (tr ι3)).toArray, wB, ?_, ?_, fun _ _ => trivial, ?_, fun hdep => absurd hdep (by simp [Fr, Fence.wide]), ?_⟩
  · have hr : (Fr none).round = none := rfl
    rw [hr]
    subst hwB
    subst hwA
    simp [Instr.enterLoop, markOf, rec_]
  · have he1 : a.eval g = .func (.func q) #[] (cap.map (trP ι)) := e1
    have hc : ∀ v, a.eval (.const v) = v := fun _ => rfl
    simp [resolve, rangeCall, he1, hc, Deferred.ofValue]
  · simp [invoke, callFunc, hfn, hname', hb', hcapm, hy]
  · refine CallsIn.mono (F := Fence.wide) hcalls fun en w3 hret => ?_
    cases en with
    | panicked c => exact hret.elim
    | outgrown => exact hret.elim
    | returned u =>
      obtain ⟨v, h', nx', ι', k1, k2, k3, k4, k5, k6, rfl⟩ := hret
      split at k1
      case h_2 => exact k1.elim
      rename_i l' hl1 hl2
      have hι'l : ι' (nx + 1) = .lay wA.heap.size 0 0 := (k5 _ (by omega)).trans hl3
      have hι'm : ι' nx = .lay w.heap.size 0 0 := (k5 _ (by omega)).trans hm3
      have ho := k3.obj _ _ hl1
      rw [hι'l] at ho
      obtain ⟨o1, r', o2, o3, o4, _⟩ := ho
      have hd := k3.obj _ _ hl2
      rw [hι'm] at hd
      have hnb : l'.state ≠ .busy := by
        intro hs
        simp [hs] at k1
      have hend : (Instr.endLoop wA.heap.size).run P w3 = .ok l'.pending { w3 with heap := w3.heap.setIfInBounds wA.heap.size (.loop { r' with state := .exhausted }) } := by
        have hne : r'.state ≠ .busy := by rw [o3]; exact hnb
        have hbeq : (r'.state == .busy) = false := by simpa using hne
        simp [Instr.endLoop, run_getLoop o2, run_setLoop o2, hbeq, o4]
        exact fun h => absurd h hne
      -- past it
      generalize hw4 : ({ w3 with heap := w3.heap.setIfInBounds wA.heap.size (.loop { r' with state := .exhausted }) } : World) = w4 at hend
      have hoth : ∀ c, c ≠ wA.heap.size → w4.heap[c]? = w3.heap[c]? := fun c hc => by rw [← hw4]; simp [Array.getElem?_setIfInBounds_ne (fun e => hc e.symm)]
      have hsz4 : w4.heap.size = w3.heap.size := by rw [← hw4]; simp
      have hb4 : Bel B w3 w4 := ⟨by rw [← hw4], by rw [← hw4], by rw [← hw4], by omega, fun c hc => hoth c (by omega), by rw [← hw4]; exact Nat.le_refl _⟩
      have hR : RelH ι' B (rem (rem h' (nx + 1)) nx) nx' w4 := by
        refine ((k3.rem (nx + 1)).rem nx).keep (fun k o b hk hkb => hoth b fun e => ?_) (by omega)
        rw [look_rem] at hk
        split at hk
        · cases hk
        · rw [look_rem] at hk
          split at hk
          · cases hk
          · rename_i hne
            exact k3.sep (nx + 1) k _ o hl1 hk (fun e => hne e.symm) rfl wA.heap.size (by rw [hι'l]; rfl) (by rw [hkb, e])
      have hBw : Bel B w w4 := ((hbA.mono H.size).trans (hbB.mono hA.size)).trans (k4.trans hb4)
      have hi' : ∀ k, k < nx → ι' k = ι k := fun k hk => (k5 k (by omega)).trans (hi3' k hk)
      have I' : CInv B0 w0 ι0 nx0 tn ι' e (afterLoop h' nx) nx' { a with defers := [markOf w.heap.size] ++ a.defers } w4 := by
        refine ⟨w4.heap.size, w4, ι', nx', markOf w.heap.size :: ds, ?_, ?_, fun k hk => ?_, ?_, ⟨w.heap.size :: bs, by rw [hds]; rfl, ?_, fun b hb => ?_⟩, J.env.names (by omega) hi', hR.shut, Bel.refl _ _, fun _ _ => rfl, Nat.le_refl _, J.size, by rw [← J.defers]; rfl⟩
        · exact Nat.le_trans h1 hR.size
        · exact h2.trans ((J.below.mono h1).trans (hBw.mono h1))
        · have q1 : k < nx1 := Nat.lt_of_lt_of_le hk h4
          exact (hi' k (Nat.lt_of_lt_of_le q1 J.le)).trans ((J.old k q1).trans (h3 k hk))
        · have := J.le; omega
        · rw [List.nodup_cons]
          refine ⟨fun hm => ?_, hnd⟩
          have := (hbs _ hm).2.1
          have := H.size
          omega
        · rcases List.mem_cons.1 hb with rfl | hb
          · have := H.size
            have hsz := hBw.size
            have hk := k4.size
            have hk2 := hbB.size
            refine ⟨by omega, by omega, ?_⟩
            rw [hoth _ (by omega)]
            exact hd.2
          · obtain ⟨q1, q2, q3⟩ := hbs b hb
            have := hR.size
            refine ⟨q1, by omega, ?_⟩
            rw [hBw.block b q2, J.below.block b q2]
            exact q3
      refine ⟨_, w4, hend, ?_⟩
      split at k1
      · exact k1.elim
      · rename_i hp _; rw [hp]; exact E.n _ _ _ _ _ _ k1 I'
      · rename_i hp _; rw [hp]; exact wpIn_exit (E.x _ _ _ _ _ _ _ k1 I')
      · rename_i hp _; rw [hp]; exact wpIn_ret (E.r _ _ _ _ _ _ k1 I')
      · exact k1.elim
end
end Go.Aw
end

/-
  A round of a loop over a function, in the machine. No condition.
-/
set_option linter.unusedSimpArgs false
set_option linter.unusedVariables false
noncomputable section
namespace Go.Aw
open Go.RowKit

section
variable {P : Program} {T : Tab} {C : VC} {Y : VY}

theorem loop_set {ι : Nat → Loc} {B nx : Nat} {h : Heap} {w : World} (H : RelH ι B h nx w) {l : Nat} {la : LoopA} (hl : look h l = some (.loop la)) {b o e : Nat} (hι : ι l = .lay b o e) :
    ∃ r : Loop, w.heap[b]? = some (.loop r) ∧ r.state = la.state ∧ r.pending = la.pending ∧ B ≤ b ∧ ∀ st pd, RelH ι B (upd h l (.loop { la with state := st, pending := pd })) nx { w with heap := w.heap.setIfInBounds b (.loop { r with state := st, pending := pd }) } ∧
      Bel B w { w with heap := w.heap.setIfInBounds b (.loop { r with state := st, pending := pd }) } := by
  have ho := H.obj l _ hl
  rw [hι] at ho
  obtain ⟨h0, r, h1, h2, h3, h4, h5, h6, h7, h8, h9, h10⟩ := ho
  have hlt := (Array.getElem?_eq_some_iff.1 h1).1
  refine ⟨r, h1, h2, h3, h0, fun st pd => ⟨?_, ⟨rfl, rfl, rfl, by simp, fun c hc => by simp [Array.getElem?_setIfInBounds_ne (show b ≠ c by omega)], Nat.le_refl _⟩⟩⟩
  refine H.set hl rfl ?_ (show OSc ι nx (.loop { la with state := st, pending := pd }) from ⟨(H.sc l _ hl).1, (H.sc l _ hl).2⟩) rfl (fun c hc => ?_) (by simp)
  · rw [hι]
    exact ⟨h0, { r with state := st, pending := pd }, by simp [Array.getElem?_setIfInBounds_self_of_lt hlt], rfl, rfl, trivial, h5, h6, h7, h8, h9, h10⟩
  · have : b ≠ c := fun e => hc (by rw [hι, e]; rfl)
    simp [Array.getElem?_setIfInBounds_ne this]

theorem zipPut_ok {ι : Nat → Loc} {n tn : Nat} : ∀ (ps : List Nat) (args : List Value) (e e0 : List (Nat × Value)) (tm : Array Value) (ds : List Deferred), zipPut tn e ps args = some e0 → EnvOK ι n e { tmps := tm, defers := ds } → tm.size = tn → (∀ v ∈ args, scT ι n v) →
    ps.length = args.length ∧ EnvOK ι n e0 { tmps := (ps.zip (args.map (tr ι))).foldl (fun tmps q => tmps.setIfInBounds q.1 q.2) tm, defers := ds } ∧ ((ps.zip (args.map (tr ι))).foldl (fun tmps q => tmps.setIfInBounds q.1 q.2) tm).size = tn
  | [], [], e, e0, tm, ds, h, he, hs, _ => by simp [zipPut] at h; subst h; exact ⟨rfl, he, hs⟩
  | [], _ :: _, _, _, _, _, h, _, _, _ => by simp [zipPut] at h
  | _ :: _, [], _, _, _, _, h, _, _, _ => by simp [zipPut] at h
  | t :: ts, v :: vs, e, e0, tm, ds, h, he, hs, ha => by
    simp only [zipPut] at h
    split at h
    · rename_i ht
      have ht := blt_true ht
      have := he.upd (d := t) (v := v) (by show t < tm.size; omega) (ha v (by simp))
      obtain ⟨h1, h2, h3⟩ := zipPut_ok ts vs (put e t v) e0 (tm.setIfInBounds t (tr ι v)) ds h this (by simp [hs]) (fun u hu => ha u (by simp [hu]))
      exact ⟨by simp [h1], h2, h3⟩
    · cases h

theorem vfin_ok {ι0 ι : Nat → Loc} {B0 nx0 nx tn : Nat} {w0 : World} {e : List (Nat × Value)} {h : Heap} {a : Act} {w : World} (I : CInv B0 w0 ι0 nx0 tn ι e h nx a w) {q : Nat} {K : KE} {j : Option Code} {b o ex : Nat} (hq : q < nx0) (hι : ι0 q = .lay b o ex) (hl : vfin q K j e h nx) :
    ∃ v w', (Instr.endRound b j).run P w = .ok v w' ∧ Ret B0 w0 ι0 nx0 K (.returned v) w' := by
  obtain ⟨B, w1, ι1, nx1, ds, h1, h2, h3, h4, h5, J⟩ := I
  unfold vfin at hl
  split at hl
  case h_2 => exact hl.elim
  rename_i la hk
  have hold : ∀ k, k < nx0 → ι k = ι0 k := fun k hk => (J.old k (Nat.lt_of_lt_of_le hk h4)).trans (h3 k hk)
  obtain ⟨r, k1, k2, k3, k4, k5⟩ := loop_set J.heap hk ((hold q hq).trans hι)
  obtain ⟨k6, k7⟩ := k5 (if j.isNone then .ready else .done) j
  refine ⟨.bool j.isNone, _, ?_, .bool j.isNone, _, nx, ι, hl, by simp [scT, scA, scS, scP], k6.down h1, ?_, hold, Nat.le_trans h4 J.le, rfl⟩
  · simp only [Instr.endRound, Sem.run_bind, run_getLoop k1, Result.andThen_ok, run_setLoop k1, Sem.run_pure]
  · exact h2.trans ((J.below.trans k7).mono h1)

theorem noRange_ok {r : Option Nat} {tn : Nat} : RangeOK P r tn noRange := fun g ps as bd kn kx kr e h nx hl => hl.elim
theorem noRange_mono : RMono noRange := fun g ps as bd kn kn' kx kx' kr kr' e h nx _ _ _ hl => hl.elim

theorem vround_ok (hT : TabOK P T) (hC : CallsOK P C) (hY : YieldsOK P Y) (hD : DetC C) (hDY : DetC Y) (hm : P.follows .mixedOrders = true) {PL : Nat → Nat → Option Plan} {M : Nat} : YieldsOK P (vround std T C Y PL (.fuel M)) := by
  intro q args h nx K hl ι B w H hs b o ex hι
  unfold vround at hl
  split at hl
  case h_2 => exact hl.elim
  rename_i la hk
  split at hl
  case h_2 => exact hl.elim
  rename_i e0 hz hpl
  simp only [Bool.and_eq_true] at hpl
  have hq : q < nx := H.low q _ hk
  have ho := H.obj q _ hk
  rw [hι] at ho
  obtain ⟨g0, r, g1, g2, g3, g4, g5, g6, g7, g8, g9, g10⟩ := ho
  have henv : EnvOK ι nx la.env { tmps := r.tmps, defers := [] } := fun t v hv => ⟨g6 t v hv, (H.sc q _ hk).1 t v hv⟩
  obtain ⟨z1, z2, z3⟩ := zipPut_ok la.params args la.env e0 r.tmps [] hz henv g5 hs
  have hsz : (args.map (tr ι)).toArray.size = r.params.size := by
    rw [← Array.length_toList (xs := r.params), g7]
    simp [z1]
  refine ⟨r.fn, (la.params.zip (args.map (tr ι))).foldl (fun tmps q => tmps.setIfInBounds q.1 q.2) r.tmps, r.assign, r.body, ?_, ?_⟩
  · have hf : (r.params.zip (args.map (tr ι)).toArray).foldl (fun tmps x => match x with | (t, a) => tmps.setIfInBounds t a) r.tmps = (la.params.zip (args.map (tr ι))).foldl (fun tmps q => tmps.setIfInBounds q.1 q.2) r.tmps := by
      rw [← Array.foldl_toList, ← g7]
      simp
    simp only [Instr.yield, Sem.run_bind, run_getLoop g1, Result.andThen_ok, hsz, ne_eq, not_true_eq_false, if_false, Sem.run_ite, Sem.run_pure]
    rw [← hf]
  · refine roundIn_of_wpIn trivial ?_
    rw [g8]
    have hbase : CInv B w ι nx la.tn ι e0 h nx { tmps := (la.params.zip (args.map (tr ι))).foldl (fun tmps q => tmps.setIfInBounds q.1 q.2) r.tmps, defers := [] } w :=
      ⟨B, w, ι, nx, [], Nat.le_refl _, Bel.refl _ _, fun _ _ => rfl, Nat.le_refl _, ⟨[], rfl, by simp, by simp⟩, z2, H, Bel.refl _ _, fun _ _ => rfl, Nat.le_refl _, z3, rfl⟩
    refine vcode_ok hT hC hY hD hDY hm (some b) noRange_ok noRange_mono la.assign hpl.1 _ _ _ e0 h nx hl B w ι nx _ trivial ⟨?_, fun id ι e h nx a w hk _ => hk.elim, fun ι e h nx a w hk _ => hk.elim⟩ ι _ w hbase
    intro ι1 e1 h1 nx1 a1 w1 hk1 I1
    obtain ⟨B1, wb, ιb, nxb, ds, i1, i2, i3, i4, i5, J⟩ := I1
    split at hk1
    case h_2 => exact hk1.elim
    rename_i l1 hl1
    split at hk1
    case h_2 => exact hk1.elim
    rename_i hst
    have hold : ∀ k, k < nx → ι1 k = ι k := fun k hk => (J.old k (Nat.lt_of_lt_of_le hk i4)).trans (i3 k hk)
    obtain ⟨r1, k1, k2, k3, k4, k5⟩ := loop_set J.heap hl1 ((hold q hq).trans hι)
    obtain ⟨k6, k7⟩ := k5 .busy r1.pending
    rw [show ({ l1 with state := .busy, pending := r1.pending } : LoopA) = { l1 with state := .busy } by rw [k3]] at k6
    refine ⟨{ w1 with heap := w1.heap.setIfInBounds b (.loop { r1 with state := .busy }) }, ?_, ?_⟩
    · have hr : r1.state = .ready := k2.trans hst
      simp [Instr.beginRound, run_getLoop k1, run_setLoop k1, hr]
    · rw [g9]
      have I2 : CInv B w ι nx la.tn ι1 e1 (upd h1 q (.loop { l1 with state := .busy })) nx1 a1 { w1 with heap := w1.heap.setIfInBounds b (.loop { r1 with state := .busy }) } :=
        ⟨B1, wb, ιb, nxb, ds, i1, i2, i3, i4, i5, J.step J.env k6 k7 (fun _ _ => rfl) (Nat.le_refl _) J.size rfl⟩
      refine vcode_ok hT hC hY hD hDY hm (some b) noRange_ok noRange_mono la.body hpl.2 _ _ _ e1 _ nx1 hk1 B w ι nx _ trivial ⟨?_, ?_, ?_⟩ ι1 a1 _ I2
      · exact fun ι e h nx a w hk I => vfin_ok I hq hι hk
      · exact fun id ι e h nx a w hk I => vfin_ok I hq hι hk
      · exact fun ι e h nx a w hk I => vfin_ok I hq hι hk
end
end Go.Aw
end

/-
  All functions, so deep: what is reckoned is what the machine does. No condition.
-/
set_option linter.unusedSimpArgs false
set_option linter.unusedVariables false
noncomputable section
namespace Go.Aw
open Go.RowKit

theorem detE_bindS {E : KS → Prop} {F : List (Nat × Value) → Heap → Nat → KE → Prop} (hE : DetS E) (hF : ∀ v h nx, DetE (F v h nx)) : DetE (fun K => E (fun v h nx => F v h nx K)) := by
  intro K hl
  obtain ⟨v, h, nx, h1, h2⟩ := hE _ hl
  obtain ⟨e, h', nx', h3, h4⟩ := hF v h nx K h1
  exact ⟨e, h', nx', h3, fun K' hk => h2 _ (h4 K' hk)⟩
theorem detE_bindE {E : KE → Prop} {F : Value → Heap → Nat → KE → Prop} (hE : DetE E) (hF : ∀ v h nx, DetE (F v h nx)) : DetE (fun K => E (fun v h nx => F v h nx K)) := by
  intro K hl
  obtain ⟨v, h, nx, h1, h2⟩ := hE _ hl
  obtain ⟨e, h', nx', h3, h4⟩ := hF v h nx K h1
  exact ⟨e, h', nx', h3, fun K' hk => h2 _ (h4 K' hk)⟩
theorem detE_bind1 {α : Type} {E : (α → Prop) → Prop} {F : α → KE → Prop} (hE : Det E) (hF : ∀ v, DetE (F v)) : DetE (fun K => E (fun v => F v K)) := by
  intro K hl
  obtain ⟨v, h1, h2⟩ := hE _ hl
  obtain ⟨e, h', nx', h3, h4⟩ := hF v K h1
  exact ⟨e, h', nx', h3, fun K' hk => h2 _ (h4 K' hk)⟩

/-- An end that hangs on K has one outcome. -/
def DetK (f : KE → KS) : Prop := ∀ e h nx, DetE (fun K => f K e h nx)

variable {A : Ar} {T : Tab} {C : VC} {Y : VY}

def RDet (R : VR) : Prop := ∀ g ps as bd (kn : KE → KS) (kx : Nat → KE → KS) (kr : KE → KS), DetK kn → (∀ i, DetK (kx i)) → DetK kr → DetK (fun K => R g ps as bd (kn K) (fun i => kx i K) (kr K))

theorem det_viter {F : KE → KS → KS} (hF : ∀ k : KE → KS, DetK k → DetK (fun K => F K (k K))) : ∀ m, DetK (fun K => viter (F K) m)
  | 0 => fun _ _ _ => detE_false
  | m + 1 => hF (fun K => viter (F K) m) (det_viter hF m)

theorem det_vcode (hC : DetC C) (hY : DetC Y) {tn : Nat} {PL : Nat → Option Plan} {n : Nat} {R : VR} (hR : RDet R) : ∀ (c : Code) (kn : KE → KS) (kx : Nat → KE → KS) (kr : KE → KS), DetK kn → (∀ i, DetK (kx i)) → DetK kr →
    DetK (fun K => vcode A T C Y tn PL (.fuel n) R c (kn K) (fun i => kx i K) (kr K)) := by
  intro c
  induction c with
  | skip => exact fun kn kx kr h1 _ _ => h1
  | region id ops draw =>
    intro kn kx kr h1 _ _ e h nx
    simp only [vcode_region, vcode_cond]
    cases draw with
    | false => exact detE_bindS (F := fun e h nx K => kn K e h nx) (det_vops hC hY _ _ _ _) h1
    | true =>
      simp only
      cases PL id with
      | none => exact detE_false
      | some p => exact detE_bindS (F := fun e h nx K => kn K e h nx) (det_vregion hC hY) h1
  | seq a b iha ihb => exact fun kn kx kr h1 h2 h3 => iha (fun K => vcode A T C Y tn PL (.fuel n) R b (kn K) (fun i => kx i K) (kr K)) kx kr (ihb kn kx kr h1 h2 h3) h2 h3
  | cond c t f iht ihf =>
    intro kn kx kr h1 h2 h3 e h nx
    simp only [vcode_region, vcode_cond]
    intro K hl
    split at hl
    · rename_i b hb
      exact detE_br (iht kn kx kr h1 h2 h3 e h nx) (ihf kn kx kr h1 h2 h3 e h nx) K hl
    · exact hl.elim
  | block id b ih =>
    intro kn kx kr h1 h2 h3
    have := ih kn (fun j => match Nat.beq j id with | true => kn | false => kx j) kr h1 (fun j => by
      cases hb : Nat.beq j id with
      | true => simp only; exact h1
      | false => simp only; exact h2 j) h3
    intro e h nx
    have h5 := this e h nx
    have heq : (fun K => vcode A T C Y tn PL (.fuel n) R (.block id b) (kn K) (fun i => kx i K) (kr K) e h nx) = (fun K => vcode A T C Y tn PL (.fuel n) R b (kn K) (fun i => (match Nat.beq i id with | true => kn | false => kx i) K) (kr K) e h nx) := by
      funext K
      simp only [vcode_block]
      congr 1
      funext j
      cases Nat.beq j id <;> rfl
    show DetE (fun K => vcode A T C Y tn PL (.fuel n) R (.block id b) (kn K) (fun i => kx i K) (kr K) e h nx)
    rw [heq]
    exact h5
  | loop b ih =>
    intro kn kx kr h1 h2 h3 e h nx
    simp only [vcode_loop, vloop]
    exact det_viter (F := fun K k => vcode A T C Y tn PL (.fuel n) R b k (fun i => kx i K) (kr K)) (fun k hk => ih k kx kr hk h2 h3) n e h nx
  | rangeFunc g ps as bd _ _ => exact fun kn kx kr h1 h2 h3 => hR g ps as bd kn kx kr h1 h2 h3
  | exit id => exact fun kn kx kr _ h2 _ => h2 id
  | ret => exact fun kn kx kr _ _ h3 => h3
  | label l => exact fun kn kx kr h1 _ _ => h1
  | scope b ih => exact fun kn kx kr h1 h2 h3 => ih kn kx kr h1 h2 h3
  | goto l => exact fun _ _ _ _ _ _ _ _ _ => detE_false
  | refuse s => exact fun _ _ _ _ _ _ _ _ _ => detE_false

theorem det_vrange (hC : DetC C) {f tn : Nat} : RDet (vrange C f tn) := by
  intro g ps as bd kn kx kr h1 h2 h3 e h nx
  simp only [vrange]
  refine detE_on fun gv => ?_
  intro K hl
  split at hl
  case h_2 => exact hl.elim
  split at hl
  case h_2 => exact hl.elim
  rename_i q first cap _ _ hfirst hcap
  refine detE_bindE (E := C q _ _ _) (F := fun v h' nx' K => (match look h' (nx + 1), look h' nx with
          | some (.loop l), some .deferred => (match l.state, l.pending with
            | .busy, _ => False
            | _, none => kn K e (afterLoop h' nx) nx'
            | _, some (.exit id) => kx id K e (afterLoop h' nx) nx'
            | _, some .ret => kr K e (afterLoop h' nx) nx'
            | _, _ => False)
          | _, _ => False)) (hC _ _ _ _) (fun v h' nx' => ?_) K hl
  intro K hl
  split at hl
  case h_2 => exact hl.elim
  split at hl
  · exact hl.elim
  · exact h1 _ _ _ K hl
  · exact h2 _ _ _ _ K hl
  · exact h3 _ _ _ K hl
  · exact hl.elim

theorem vrange_mono (hC : DetC C) {f tn : Nat} : RMono (vrange C f tn) := by
  intro g ps as bd kn kn' kx kx' kr kr' e h nx h1 h2 h3 hl
  unfold vrange at hl ⊢
  obtain ⟨gv, hgv, hl⟩ := on_ok hl
  rw [hgv]
  simp only [on]
  split at hl
  case h_2 => exact hl.elim
  split at hl
  case h_2 => exact hl.elim
  obtain ⟨v, h', nx', k1, k2⟩ := hC _ _ _ _ _ hl
  refine k2 _ ?_
  split at k1
  case h_2 => exact k1.elim
  split at k1
  · exact k1.elim
  · exact h1 _ _ _ k1
  · exact h2 _ _ _ _ k1
  · exact h3 _ _ _ k1
  · exact k1.elim
end Go.Aw
end

/-
  All functions, so deep: what is reckoned is what the machine does. No condition.
-/
set_option linter.unusedSimpArgs false
set_option linter.unusedVariables false
noncomputable section
namespace Go.Aw
open Go.RowKit

section
variable {A : Ar} {T : Tab} {C : VC} {Y : VY}

theorem det_vresults {e : List (Nat × Value)} {h : Heap} : ∀ (l : List ResultVar), Det (vresults T e h l)
  | [] => det_pure
  | .tmp t :: r => by
    show Det (fun K => vresults T e h (.tmp t :: r) K)
    simp only [vresults_tmp, vresults_cell]
    exact det_on (F := fun v K => vresults T e h r fun l => K (v :: l)) fun v => det_bind (F := fun l K => K (v :: l)) (det_vresults r) fun l => det_pure
  | .cell a t :: r => by
    show Det (fun K => vresults T e h (.cell a t :: r) K)
    simp only [vresults_tmp, vresults_cell]
    exact det_on (F := fun p K => vload T h t p fun v => vresults T e h r fun l => K (v :: l)) fun p => det_bind (F := fun v K => vresults T e h r fun l => K (v :: l)) det_vload fun v =>
      det_bind (F := fun l K => K (v :: l)) (det_vresults r) fun l => det_pure

theorem det_vend {fn : Func} {g : Value → Heap → Nat → Value × Heap × Nat} : DetK (fun K => vend T fn (fun v h nx => K (g v h nx).1 (g v h nx).2.1 (g v h nx).2.2)) := by
  intro e h nx
  unfold vend
  refine detE_bind1 (F := fun l K => match l with
    | [v] => K (g v h nx).1 (g v h nx).2.1 (g v h nx).2.2
    | l => match noTup l with | true => K (g (.tuple l.toArray) h nx).1 (g (.tuple l.toArray) h nx).2.1 (g (.tuple l.toArray) h nx).2.2 | false => False) (det_vresults _) fun l => ?_
  intro K hl
  split at hl
  · exact detE_pure K hl
  · split at hl
    · exact detE_pure K hl
    · exact hl.elim

theorem det_vfin {q : Nat} {j : Option Code} : DetK (fun K => vfin q K j) := by
  intro e h nx
  simp only [vfin]
  cases look h q with
  | none => exact detE_false
  | some o => cases o <;> first | exact detE_pure | exact detE_false

theorem noRange_det : RDet noRange := fun _ _ _ _ _ _ _ _ _ _ _ _ _ => detE_false

theorem det_vround (hC : DetC C) (hY : DetC Y) {PL : Nat → Nat → Option Plan} {n : Nat} : DetC (vround A T C Y PL (.fuel n)) := by
  intro q args h nx
  show DetE (fun K => vround A T C Y PL (.fuel n) q args h nx K)
  unfold vround
  intro K hl
  split at hl
  case h_2 => exact hl.elim
  rename_i la hk
  split at hl
  case h_2 => exact hl.elim
  rename_i e0 hz hpl
  refine det_vcode hC hY noRange_det la.assign (fun K e1 h1 nx1 =>
        match look h1 q with
        | some (.loop l1) => (match l1.state with
          | .ready => vcode A T C Y la.tn (PL la.fn) (.fuel n) noRange la.body (vfin q K none) (fun id => vfin q K (some (.exit id))) (vfin q K (some .ret)) e1 (upd h1 q (.loop { l1 with state := .busy })) nx1
          | _ => False)
        | _ => False) (fun _ _ _ _ _ => False) (fun _ _ _ _ => False) ?_ (fun _ _ _ _ => detE_false) (fun _ _ _ => detE_false) e0 h nx K hl
  intro e1 h1 nx1 K hl
  dsimp only at hl ⊢
  split at hl
  case h_2 => exact hl.elim
  split at hl
  case h_2 => exact hl.elim
  exact det_vcode hC hY noRange_det la.body (fun K => vfin q K none) (fun id K => vfin q K (some (.exit id))) (fun K => vfin q K (some .ret)) det_vfin (fun _ => det_vfin) det_vfin e1 _ nx1 K hl

theorem det_vbody {c : Cfg} {n : Nat} (hC : DetC C) (hY : DetC Y) (hX : ∀ f x, c.X f = some x → ∀ args h nx, DetE (x args h nx)) : DetC (vbody c (some n) C Y) := by
  intro f args h nx
  show DetE (fun K => vbody c (some n) C Y f args h nx K)
  unfold vbody
  intro K hl
  split at hl
  · rename_i x hx
    exact hX f x hx args h nx K hl
  · split at hl
    · exact hl.elim
    · rename_i fn hfn
      split at hl
      case h_2 => exact hl.elim
      rename_i b hb hle
      have hv : DetK (fun K => vend c.T fn (fun v h' nx' => K v (match c.PR f with | true => prune nx h' | false => h') nx')) :=
        det_vend (g := fun v h' nx' => (v, (match c.PR f with | true => prune nx h' | false => h'), nx'))
      exact det_vcode hC hY (det_vrange hC) b (fun K => vend c.T fn (fun v h' nx' => K v (match c.PR f with | true => prune nx h' | false => h') nx')) (fun _ _ _ _ _ => False) (fun K => vend c.T fn (fun v h' nx' => K v (match c.PR f with | true => prune nx h' | false => h') nx')) hv (fun _ _ _ _ => detE_false) hv _ h nx K hl
end

/-- A contract in a body's place. -/
def XOK (P : Program) (f : Nat) (x : List Value → Heap → Nat → KE → Prop) : Prop := (∀ args h nx K, x args h nx K → ∀ ι B w, RelH ι B h nx w → (∀ v ∈ args, scT ι nx v) →
  (∃ fn, P.funcs[f]? = some fn ∧ fn.body.isSome = true ∧ (fn.name == "runtime.NumGoroutine") = false) ∧ CallsIn Fence.wide 0 P f (args.map (tr ι)).toArray w (Ret B w ι nx K)) ∧ ∀ args h nx, DetE (x args h nx)

structure CfgOK (P : Program) (c : Cfg) : Prop where
  ar : c.A = std
  tab : TabOK P c.T
  mixed : P.follows .mixedOrders = true
  funcs : ∀ f fn, c.FT f = some fn → P.funcs[f]? = some fn ∧ (fn.name == "runtime.NumGoroutine") = false ∧ ∀ b, fn.body = some b → plansOK (c.PL f) b = true
  xs : ∀ f x, c.X f = some x → XOK P f x

section
variable {P : Program} {c : Cfg} {C : VC} {Y : VY}

theorem vbody_ok (hc : CfgOK P c) (hC : CallsOK P C) (hY : YieldsOK P Y) (hD : DetC C) (hDY : DetC Y) (M : Option Nat) : CallsOK P (vbody c M C Y) := by
  intro f args h nx K hl ι B w H hs
  unfold vbody at hl
  split at hl
  · rename_i x hx
    exact (hc.xs f x hx).1 args h nx K hl ι B w H hs
  · split at hl
    · exact hl.elim
    · rename_i fn hfn
      split at hl
      case h_2 => exact hl.elim
      rename_i b hb hle
      obtain ⟨h1, h2, h3⟩ := hc.funcs f fn hfn
      refine ⟨⟨fn, h1, by rw [hb]; rfl, h2⟩, ?_⟩
      rw [hc.ar] at hl
      refine body_ok (K' := fun v h' nx' => K v (match c.PR f with | true => prune nx h' | false => h') nx') hc.tab hC hY hD hDY hc.mixed h1 hb (h3 b hb) (by cases M with | none => exact Nat.le_refl _ | some n => trivial) (vrange_ok hC) (vrange_mono hD) (Nat.le_of_ble_eq_true hle) (fun v h' nx' hk => ⟨_, hk, fun k o hlk => ?_⟩) hl H hs
      cases hpr : c.PR f with
      | true => rw [hpr] at hlk; exact look_prune hlk
      | false => rw [hpr] at hlk; exact hlk

theorem vcall_ok (hc : CfgOK P c) : ∀ d, CallsOK P (vcall c d false) ∧ YieldsOK P (vcall c d true) ∧ DetC (vcall c d false) ∧ DetC (vcall c d true)
  | 0 => ⟨fun _ _ _ _ _ hl => hl.elim, fun _ _ _ _ _ hl => hl.elim, fun _ _ _ _ _ hl => hl.elim, fun _ _ _ _ _ hl => hl.elim⟩
  | d + 1 => by
    obtain ⟨h1, h2, h3, h4⟩ := vcall_ok hc d
    refine ⟨vbody_ok hc h1 h2 h3 h4 _, ?_, det_vbody h3 h4 (fun f x hx => (hc.xs f x hx).2), det_vround h3 h4⟩
    show YieldsOK P (vround c.A c.T (vcall c d false) (vcall c d true) c.PL (.fuel c.M))
    rw [hc.ar]
    exact vround_ok hc.tab h1 h2 h3 h4 hc.mixed
end
end Go.Aw
end

/-
  A types' table, checked. No condition.
-/
set_option linter.unusedSimpArgs false
set_option linter.unusedVariables false
noncomputable section
namespace Go.Aw
open Go.RowKit

def vSame : Value → Value → Bool
  | .int k a, .int k' b => kEq k k' && decide (a = b)
  | .bool a, .bool b => a == b
  | .pointer none, .pointer none => true
  | .slice none n c, .slice none m d => Nat.beq n m && Nat.beq c d
  | .map none, .map none => true
  | .nilFunc, .nilFunc => true
  | .nilIface, .nilIface => true
  | .string a, .string b => (match a.data.toList, b.data.toList with | [], [] => true | _, _ => false)
  | _, _ => false
def allSame : List Value → List Value → Bool
  | [], [] => true
  | x :: r, y :: s => vSame x y && allSame r s
  | _, _ => false
def aSame : Value → Value → Bool
  | .agg xs, .agg ys => allSame xs.toList ys.toList
  | x, y => vSame x y

theorem vSame_eq {x y : Value} (h : vSame x y = true) : x = y := by
  unfold vSame at h
  split at h
  · simp only [Bool.and_eq_true, decide_eq_true_eq] at h
    rw [kEq_true h.1, h.2]
  · simpa using h
  · rfl
  · simp only [Bool.and_eq_true] at h
    rw [beq_true h.1, beq_true h.2]
  · rfl
  · rfl
  · rfl
  · rename_i a b
    split at h
    · rename_i h1 h2
      obtain ⟨⟨a⟩⟩ := a
      obtain ⟨⟨b⟩⟩ := b
      simp at h1 h2
      rw [h1, h2]
    · cases h
  · cases h
theorem allSame_eq : ∀ {x y : List Value}, allSame x y = true → x = y
  | [], [], _ => rfl
  | [], _ :: _, h => by cases h
  | _ :: _, [], h => by cases h
  | x :: r, y :: s, h => by
    simp only [allSame, Bool.and_eq_true] at h
    rw [vSame_eq h.1, allSame_eq h.2]
theorem aSame_eq {x y : Value} (h : aSame x y = true) : x = y := by
  unfold aSame at h
  split at h
  · congr 1
    apply Array.ext'
    exact allSame_eq h
  · exact vSame_eq h

def tyB (P : Program) (t : TypeId) (i : TyI) : Bool :=
  (match P.info? t with | some x => Nat.beq x.size i.size && Nat.beq x.bytes i.bytes && (match x.zero with | some z => aSame z i.zv | none => false) | none => false) &&
  (match P.underlying t with | some d => KOK d i.kind | none => false) &&
  Nat.beq i.zv.cells.size i.size && gA i.zv && !P.stoodInHeld t && !P.eqGuardType P.depth t && Nat.blt 0 i.size
def tabB (P : Program) : Tab → Bool
  | [] => true
  | (t, i) :: r => tyB P t i && tabB P r

theorem tyB_ok {P : Program} {t : TypeId} {i : TyI} (h : tyB P t i = true) : TyOK P t i := by
  unfold tyB at h
  simp only [Bool.and_eq_true, Bool.not_eq_true'] at h
  obtain ⟨⟨⟨⟨⟨⟨h1, h2⟩, h3⟩, h4⟩, h5⟩, h6⟩, h7⟩ := h
  split at h1
  case h_2 => cases h1
  rename_i x hx
  simp only [Bool.and_eq_true] at h1
  obtain ⟨⟨h8, h9⟩, h10⟩ := h1
  split at h10
  case h_2 => cases h10
  rename_i z hz
  split at h2
  case h_2 => cases h2
  rename_i d hd
  exact ⟨⟨x, hx, beq_true h8, beq_true h9, by rw [hz, aSame_eq h10]⟩, ⟨d, hd, h2⟩, beq_true h3, h4, h5, h6, blt_true h7⟩
theorem tabB_ok {P : Program} : ∀ {T : Tab}, tabB P T = true → TabOK P T
  | [], _, t, i, h => by cases h
  | (u, j) :: r, hb, t, i, h => by
    simp only [tabB, Bool.and_eq_true] at hb
    simp only [look_cons] at h
    split at h
    · rename_i hu
      have := beq_true hu
      subst this
      injection h with h
      subst h
      exact tyB_ok hb.1
    · exact tabB_ok hb.2 t i h
end Go.Aw
end
