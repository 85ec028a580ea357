/-
  Functions, in the machine. No condition.
-/
import Derived.Test.YtagdfcdnfdpocaaGreatAw28
set_option linter.unusedSimpArgs false
set_option linter.unusedVariables false
noncomputable section
namespace Go.Aw
open Go.RowKit

section
variable {P : Program} {T : Tab} {C : VC} {Y : VY}

theorem initEnv_look : ∀ (l : List Value) (i t : Nat) (v : Value), look (initEnv i l) t = some v → i ≤ t ∧ l[t - i]? = some v
  | [], i, t, v, h => by cases h
  | x :: r, i, t, v, h => by
    simp only [initEnv, look_cons] at h
    split at h
    · rename_i hb
      have := beq_true hb
      subst this
      injection h with h
      subst h
      exact ⟨Nat.le_refl _, by simp⟩
    · obtain ⟨h1, h2⟩ := initEnv_look r (i + 1) t v h
      refine ⟨by omega, ?_⟩
      rw [show t - i = (t - (i + 1)) + 1 by omega]
      simpa using h2

theorem initEnv_ok {ι : Nat → Loc} {n : Nat} {args : List Value} (hs : ∀ v ∈ args, scT ι n v) {k : Nat} {ds : List Deferred} : EnvOK ι n (initEnv 0 args) { tmps := (args.map (tr ι)).toArray ++ Array.replicate k undef, defers := ds } := by
  intro t v h
  obtain ⟨_, h2⟩ := initEnv_look args 0 t v h
  rw [Nat.sub_zero] at h2
  have hlt := (List.getElem?_eq_some_iff.1 h2).1
  refine ⟨?_, hs v (List.mem_of_getElem? h2)⟩
  rw [Array.getElem?_append_left (by simpa using hlt)]
  simp [h2]

theorem body_ok (hT : TabOK P T) (hC : CallsOK P C) (hY : YieldsOK P Y) (hD : DetC C) (hDY : DetC Y) (hm : P.follows .mixedOrders = true) {f : FuncId} {fn : Func} {b : Code} (hf : P.funcs[f]? = some fn) (hb : fn.body = some b) {nx : Nat} {PL : Nat → Option Plan} (hp : plansOK PL b = true)
    {M : LM} (hM : M.low nx) {R : VR} (hR : RangeOK P none fn.ntmps R) (hRm : RMono R) {args : List Value} (ha : args.length ≤ fn.ntmps) {h : Heap} {K K' : KE} (hK : ∀ v h' nx', K' v h' nx' → ∃ h'', K v h'' nx' ∧ ∀ k o, look h'' k = some o → look h' k = some o)
    (hl : vcode std T C Y fn.ntmps PL M R b (vend T fn K') (fun _ _ _ _ => False) (vend T fn K') (initEnv 0 args) h nx) {ι : Nat → Loc} {B : Nat} {w : World} (H : RelH ι B h nx w) (hs : ∀ v ∈ args, scT ι nx v) :
    CallsIn Fence.wide 0 P f (args.map (tr ι)).toArray w (Ret B w ι nx K) := by
  refine callsIn_of_wp_marks hf hb trivial ?_ rfl
  have hend : ∀ ι' e h' nx' a w', vend T fn K' e h' nx' → CInv B w ι nx fn.ntmps ι' e h' nx' a w' → LeavesInM Fence.wide 0 P fn a.tmps (Ret B w ι nx K) a.defers .returning w' := by
    intro ι' e h' nx' a w' hv I
    obtain ⟨B1, w1, ι1, nx1, ds, h1, h2, h3, h4, ⟨bs, rfl, hnd, hbs⟩, J⟩ := I
    rw [J.defers]
    obtain ⟨v, k1, k2, k3⟩ := vend_ok hT J.env J.heap hv
    obtain ⟨h'', k4, k5⟩ := hK v h' nx' k1
    refine leaves_marks (B := B1) (B0 := B) bs w' hnd (fun x hx => ?_) J.heap (fun w2 H2 hb2 => ⟨_, k3 w2 H2, v, h'', nx', ι', k4, k2, (H2.down h1).sub k5, ?_, fun k hk => (J.old k (Nat.lt_of_lt_of_le hk h4)).trans (h3 k hk), Nat.le_trans h4 J.le, rfl⟩)
    · obtain ⟨q1, q2, q3⟩ := hbs x hx
      exact ⟨q1, q2, by rw [J.below.block x q2]; exact q3⟩
    · exact (h2.trans (J.below.mono h1)).trans hb2
  refine vcode_ok hT hC hY hD hDY hm none hR hRm b hp _ _ _ _ h nx hl B w ι nx _ hM ⟨?_, ?_, ?_⟩ ι _ w ?_
  · exact fun ι' e h' nx' a w' hv I => hend ι' e h' nx' a w' hv I
  · exact fun id ι' e h' nx' a w' hv I => hv.elim
  · exact fun ι' e h' nx' a w' hv I => hend ι' e h' nx' a w' hv I
  · refine ⟨B, w, ι, nx, [], Nat.le_refl _, Below.refl _ _, fun _ _ => rfl, Nat.le_refl _, ⟨[], rfl, by simp, by simp⟩, initEnv_ok hs, H, Below.refl _ _, fun _ _ => rfl, Nat.le_refl _, ?_, rfl⟩
    simp
    omega
end
end Go.Aw
