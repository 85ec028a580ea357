/-
  Code. No condition.
-/
import Derived.Test.YtagdfcdnfdpocaaGreatAw24
import Derived.Test.YtagdfcdnfdpocaaGreatAw24b
set_option linter.unusedSimpArgs false
set_option linter.unusedVariables false
noncomputable section
namespace Go.Aw
open Go.RowKit

def viter (F : KS → KS) (n : Nat) : KS := @Nat.rec (fun _ => KS) (fun _ _ _ => False) (fun _ ih e h nx => F ih e h nx) n
/-- How loops are met: reckoned (at most so many rounds), or by what holds at their heads (names below the base stay). -/
inductive LM where
  | fuel (n : Nat)
  | inv (b : Nat)
def LM.low : LM → Nat → Prop
  | .fuel _, _ => True
  | .inv b, n => n ≤ b
/-- Some of what is known, by other names. -/
def Into (b : Nat) (I : KS) : KS := fun e h nx => ∃ e0 h0 n0 ρ, I e0 h0 n0 ∧ RenOK b ρ e0 h0 n0 e h nx
def vloop (M : LM) (F : KS → KS) : KS := fun e h nx =>
  match M with
  | .fuel n => viter F n e h nx
  | .inv b => ∃ I : Nat → KS, (∃ n, Into b (I n) e h nx) ∧ ∀ n e h nx, I n e h nx → F (fun e h nx => ∃ m, m < n ∧ Into b (I m) e h nx) e h nx

/-- A range over a function, of this code. -/
abbrev VR := Operand → Array Tmp → Code → Code → KS → (Nat → KS) → KS → KS

def vcode (A : Ar) (T : Tab) (C : VC) (Y : VY) (tn : Nat) (PL : Nat → Option Plan) (M : LM) (R : VR) (c : Code) : KS → (Nat → KS) → KS → KS :=
  @Code.rec (fun _ => KS → (Nat → KS) → KS → KS) (fun kn _ _ => kn)
    (fun id ops draw kn _ _ e h nx => match draw with
      | false => vops A T C Y tn ops.toList ops.toList e h nx kn
      | true => (match PL id with | some p => vregion A T C Y tn ops.toList p e h nx kn | none => False))
    (fun _ _ iha ihb kn kx kr => iha (ihb kn kx kr) kx kr)
    (fun c _ _ iht ihf kn kx kr e h nx => match opv e c with
      | some (.bool b) => br b (fun _ => iht kn kx kr e h nx) (fun _ => ihf kn kx kr e h nx)
      | _ => False)
    (fun id _ ih kn kx kr => ih kn (fun j => match Nat.beq j id with | true => kn | false => kx j) kr)
    (fun _ ih _ kx kr => vloop M (fun k => ih k kx kr))
    (fun g ps as bd _ _ kn kx kr => R g ps as bd kn kx kr)
    (fun id _ kx _ => kx id)
    (fun _ ih kn kx kr => ih kn kx kr)
    (fun _ kn _ _ => kn)
    (fun _ _ _ _ _ _ _ => False)
    (fun _ _ kr => kr)
    (fun _ _ _ _ _ _ _ => False) c

section
variable {A : Ar} {T : Tab} {C : VC} {Y : VY} {tn : Nat} {PL : Nat → Option Plan} {M : LM} {R : VR} {kn kr : KS} {kx : Nat → KS} {e : List (Nat × Value)} {h : Heap} {nx : Nat}
theorem vcode_region {id : Nat} {ops : Array Oper} {draw : Bool} : vcode A T C Y tn PL M R (.region id ops draw) kn kx kr e h nx = match draw with
      | false => vops A T C Y tn ops.toList ops.toList e h nx kn
      | true => (match PL id with | some p => vregion A T C Y tn ops.toList p e h nx kn | none => False) := rfl
theorem vcode_cond {c : Operand} {t f : Code} : vcode A T C Y tn PL M R (.cond c t f) kn kx kr e h nx = match opv e c with
      | some (.bool b) => br b (fun _ => vcode A T C Y tn PL M R t kn kx kr e h nx) (fun _ => vcode A T C Y tn PL M R f kn kx kr e h nx)
      | _ => False := rfl
theorem vcode_block {id : Nat} {b : Code} : vcode A T C Y tn PL M R (.block id b) kn kx kr e h nx = vcode A T C Y tn PL M R b kn (fun j => match Nat.beq j id with | true => kn | false => kx j) kr e h nx := rfl
theorem vcode_loop {b : Code} : vcode A T C Y tn PL M R (.loop b) kn kx kr e h nx = vloop M (fun k => vcode A T C Y tn PL M R b k kx kr) e h nx := rfl
end

def plansOK (PL : Nat → Option Plan) : Code → Bool
  | .region id ops true => (match PL id with | some p => planOK ops p | none => true)
  | .seq a b => plansOK PL a && plansOK PL b
  | .cond _ a b => plansOK PL a && plansOK PL b
  | .block _ b => plansOK PL b
  | .loop b => plansOK PL b
  | .scope b => plansOK PL b
  | _ => true

def markOf (b : Nat) : Deferred := { target := .collected b, args := #[] }
def Marks (B0 B : Nat) (w : World) (ds : List Deferred) : Prop := ∃ bs : List Nat, ds = bs.map markOf ∧ bs.Nodup ∧ ∀ b ∈ bs, B0 ≤ b ∧ b < B ∧ w.heap[b]? = some (.deferred (some []))

/-- What is known between two pieces of code: past a range over a function the base is another. -/
def CInv (B0 : Nat) (w0 : World) (ι0 : Nat → Loc) (nx0 tn : Nat) (ι : Nat → Loc) (env : List (Nat × Value)) (h : Heap) (nx : Nat) (a : Act) (w : World) : Prop :=
  ∃ B w1 ι1 nx1 ds, B0 ≤ B ∧ Below B0 w0 w1 ∧ (∀ k, k < nx0 → ι1 k = ι0 k) ∧ nx0 ≤ nx1 ∧ Marks B0 B w1 ds ∧ Inv B w1 ι1 nx1 tn ds ι env h nx a w

section
variable {P : Program} {T : Tab} {C : VC} {Y : VY} {B0 : Nat} {w0 : World} {ι0 : Nat → Loc} {nx0 tn : Nat} {PL : Nat → Option Plan} {M : LM} {R : VR}

/-- What the exits must hold, in the machine. -/
structure Ends (B0 : Nat) (w0 : World) (ι0 : Nat → Loc) (nx0 tn : Nat) (kn : KS) (kx : Nat → KS) (kr : KS) (Q : Exit → Act → World → Prop) : Prop where
  n : ∀ ι e h nx a w, kn e h nx → CInv B0 w0 ι0 nx0 tn ι e h nx a w → Q .normal a w
  x : ∀ id ι e h nx a w, kx id e h nx → CInv B0 w0 ι0 nx0 tn ι e h nx a w → Q (.exit id) a w
  r : ∀ ι e h nx a w, kr e h nx → CInv B0 w0 ι0 nx0 tn ι e h nx a w → Q .ret a w

def RangeOK (P : Program) (r : Option Nat) (tn : Nat) (R : VR) : Prop := ∀ g ps as bd kn kx kr e h nx, R g ps as bd kn kx kr e h nx → ∀ B0 w0 ι0 nx0 Q, Ends B0 w0 ι0 nx0 tn kn kx kr Q → ∀ ι a w, CInv B0 w0 ι0 nx0 tn ι e h nx a w →
  (Code.rangeFunc g ps as bd).wpIn (Fr r) 0 P Q a w

theorem stepR_scope {b : Frame} {a : Act} {k : List Item} {cs : List Frame} {w : World} {c : Code} : step P (lone (b.atR a (.code (.scope c) :: k)) cs w) = .next (lone (b.atR a (.code c :: .inScope c :: k)) cs w) :=
  step_lone_go (by simp [stepG, stepG.exec, Frame.atR])
theorem stepR_inScope {b : Frame} {a : Act} {k : List Item} {cs : List Frame} {w : World} {c : Code} : step P (lone (b.atR a (.inScope c :: k)) cs w) = .next (lone (b.atR a k) cs w) :=
  step_lone_go (by simp [stepG, stepG.exec, Frame.atR])

theorem wpIn_scope_straight {F : Fence} {n : Nat} {c : Code} {Q : Exit → Act → World → Prop} {a : Act} {w : World} (h : c.wpIn F n P (fun e a w => (∀ l, e ≠ .goto l) ∧ Q e a w) a w) : (Code.scope c).wpIn F n P Q a w := by
  intro b k cs hro hb hr
  have h0 : (lone (b.atR a (.code (.scope c) :: k)) cs w).fenced P F := fenced_calm hb hr rfl
  obtain ⟨e, a₁, w₁, ⟨hg, hq⟩, harr⟩ := h b (.inScope c :: k) cs hro hb hr
  cases e with
  | normal => exact ⟨.normal, a₁, w₁, hq, .head h0 stepR_scope (StepsIn.trans harr (.one (fenced_calm hb hr rfl) stepR_inScope))⟩
  | exit id =>
    have hx : exitTo id (.inScope c :: k) = exitTo id k := by simp [exitTo]
    exact ⟨.exit id, a₁, w₁, hq, fun k' hk => .head h0 stepR_scope (harr.1 k' (by rw [hx]; exact hk)),
      fun hr' hk => let ⟨k₁, h1, h2⟩ := harr.2 hr' (by rw [hx]; exact hk); ⟨k₁, h1, .head h0 stepR_scope h2⟩⟩
  | goto l => exact absurd rfl (hg l)
  | ret => exact ⟨_, a₁, w₁, hq, .of_steps (.one h0 stepR_scope) harr⟩
  | panic ch => exact ⟨_, a₁, w₁, hq, .of_steps (.one h0 stepR_scope) harr⟩
  | outgrown => exact ⟨_, a₁, w₁, hq, .of_steps (.one h0 stepR_scope) harr⟩

theorem CInv.into {ι : Nat → Loc} {e : List (Nat × Value)} {h : Heap} {nx : Nat} {a : Act} {w : World} {b : Nat} {I : KS} (J : CInv B0 w0 ι0 nx0 tn ι e h nx a w) (hb : nx0 ≤ b) (hi : Into b I e h nx) : ∃ ι' e' h' nx', I e' h' nx' ∧ CInv B0 w0 ι0 nx0 tn ι' e' h' nx' a w := by
  obtain ⟨e', h', nx', ρ, hI, r⟩ := hi
  obtain ⟨B, w1, ι1, nx1, ds, h1, h2, h3, h4, h5, J⟩ := J
  refine ⟨fun k => ι (ρ k), e', h', nx', hI, B, w1, ι0, nx0, ds, h1, h2, fun _ _ => rfl, Nat.le_refl _, h5, r.envOK J.env, r.relH J.heap, J.below, fun k hk => ?_, Nat.le_trans hb r.le, J.size, J.defers⟩
  rw [r.fix k (Nat.lt_of_lt_of_le hk hb)]
  exact (J.old k (Nat.lt_of_lt_of_le hk h4)).trans (h3 k hk)

theorem least {p : Nat → Prop} (h : ∃ n, p n) : ∃ m, p m ∧ ∀ k, p k → m ≤ k := by
  obtain ⟨n, hn⟩ := h
  induction n using Nat.strongRecOn with
  | _ n ih =>
    by_cases hk : ∃ k, p k ∧ k < n
    · obtain ⟨k, h1, h2⟩ := hk
      exact ih k h2 h1
    · exact ⟨n, hn, fun k h1 => Nat.le_of_not_lt fun h2 => hk ⟨k, h1, h2⟩⟩

theorem wpIn_loop_ks {r : Option Nat} {c : Code} {Q : Exit → Act → World → Prop} {a : Act} {w : World} {I : Nat → Act → World → Prop} {n : Nat} (h₀ : I n a w)
    (round : ∀ n a w, I n a w → c.wpIn (Fr r) 0 P (Exit.then (fun a' w' => ∃ m, m < n ∧ I m a' w') Q) a w) : (Code.loop c).wpIn (Fr r) 0 P Q a w := by
  classical
  refine wpIn_loop (fun a w => ∃ n, I n a w) (fun a w => if h : ∃ n, I n a w then Classical.choose (least h) else 0) ⟨n, h₀⟩ fun a w h => ?_
  have hs := Classical.choose_spec (least h)
  refine Code.wpIn_mono (fun e a' w' hq => ?_) (round _ a w hs.1)
  cases e <;> try exact hq
  obtain ⟨m, hm, hI⟩ := hq
  refine ⟨⟨m, hI⟩, ?_⟩
  have h' : ∃ n, I n a' w' := ⟨m, hI⟩
  simp only [dif_pos h', dif_pos h]
  exact Nat.lt_of_le_of_lt ((Classical.choose_spec (least h')).2 m hI) hm

theorem viter_mono {F G : KS → KS} (hFG : ∀ (k k' : KS) e h nx, (∀ e h nx, k e h nx → k' e h nx) → F k e h nx → G k' e h nx) : ∀ n e h nx, viter F n e h nx → viter G n e h nx
  | 0, _, _, _, hl => hl.elim
  | n + 1, e, h, nx, hl => hFG _ _ e h nx (fun e h nx => viter_mono hFG n e h nx) hl

theorem vcode_mono (hD : DetC C) (hY : DetC Y) (hR : ∀ g ps as bd (kn kn' : KS) (kx kx' : Nat → KS) (kr kr' : KS) e h nx, (∀ e h nx, kn e h nx → kn' e h nx) → (∀ id e h nx, kx id e h nx → kx' id e h nx) → (∀ e h nx, kr e h nx → kr' e h nx) → R g ps as bd kn kx kr e h nx → R g ps as bd kn' kx' kr' e h nx) :
    ∀ (c : Code) (kn kn' : KS) (kx kx' : Nat → KS) (kr kr' : KS) e h nx, (∀ e h nx, kn e h nx → kn' e h nx) → (∀ id e h nx, kx id e h nx → kx' id e h nx) → (∀ e h nx, kr e h nx → kr' e h nx) →
      vcode std T C Y tn PL M R c kn kx kr e h nx → vcode std T C Y tn PL M R c kn' kx' kr' e h nx := by
  intro c
  induction c with
  | skip => exact fun kn kn' kx kx' kr kr' e h nx h1 _ _ hl => h1 _ _ _ hl
  | region id ops draw =>
    intro kn kn' kx kx' kr kr' e h nx h1 _ _ hl
    simp only [vcode_region, vcode_cond] at hl ⊢
    cases draw with
    | false =>
      obtain ⟨e', h', nx', k1, k2⟩ := det_vops hD hY _ _ _ _ kn hl
      exact k2 kn' (h1 _ _ _ k1)
    | true =>
      simp only at hl ⊢
      cases hp : PL id with
      | none => rw [hp] at hl; exact hl.elim
      | some p =>
        rw [hp] at hl
        obtain ⟨e', h', nx', k1, k2⟩ := det_vregion hD hY kn hl
        exact k2 kn' (h1 _ _ _ k1)
  | seq a b iha ihb =>
    intro kn kn' kx kx' kr kr' e h nx h1 h2 h3 hl
    exact iha _ _ kx kx' kr kr' e h nx (fun e h nx => ihb kn kn' kx kx' kr kr' e h nx h1 h2 h3) h2 h3 hl
  | cond c t f iht ihf =>
    intro kn kn' kx kx' kr kr' e h nx h1 h2 h3 hl
    simp only [vcode_region, vcode_cond] at hl ⊢
    split at hl
    · rename_i b hb
      rcases br_cases hl with ⟨rfl, hl⟩ | ⟨rfl, hl⟩
      · exact iht kn kn' kx kx' kr kr' e h nx h1 h2 h3 hl
      · exact ihf kn kn' kx kx' kr kr' e h nx h1 h2 h3 hl
    · exact hl.elim
  | block id b ih =>
    intro kn kn' kx kx' kr kr' e h nx h1 h2 h3 hl
    refine ih _ _ _ _ kr kr' e h nx h1 (fun j e h nx hk => ?_) h3 hl
    cases hb : Nat.beq j id with
    | true => simp only [hb] at hk ⊢; exact h1 _ _ _ hk
    | false => simp only [hb] at hk ⊢; exact h2 _ _ _ _ hk
  | loop b ih =>
    intro kn kn' kx kx' kr kr' e h nx h1 h2 h3 hl
    simp only [vcode_loop, vloop] at hl ⊢
    cases M with
    | fuel n =>
      exact viter_mono (fun k k' e h nx hk => ih k k' kx kx' kr kr' e h nx hk h2 h3) n e h nx hl
    | inv b =>
      obtain ⟨I, h0, hI⟩ := hl
      exact ⟨I, h0, fun n e h nx hi => ih _ _ kx kx' kr kr' e h nx (fun _ _ _ q => q) h2 h3 (hI n e h nx hi)⟩
  | rangeFunc g ps as bd _ _ => exact fun kn kn' kx kx' kr kr' e h nx h1 h2 h3 hl => hR g ps as bd kn kn' kx kx' kr kr' e h nx h1 h2 h3 hl
  | exit id => exact fun kn kn' kx kx' kr kr' e h nx _ h2 _ hl => h2 _ _ _ _ hl
  | ret => exact fun kn kn' kx kx' kr kr' e h nx _ _ h3 hl => h3 _ _ _ hl
  | label l => exact fun kn kn' kx kx' kr kr' e h nx h1 _ _ hl => h1 _ _ _ hl
  | scope b ih => exact fun kn kn' kx kx' kr kr' e h nx h1 h2 h3 hl => ih kn kn' kx kx' kr kr' e h nx h1 h2 h3 hl
  | goto l => exact fun _ _ _ _ _ _ _ _ _ _ _ _ hl => hl.elim
  | refuse s => exact fun _ _ _ _ _ _ _ _ _ _ _ _ hl => hl.elim
end
end Go.Aw
