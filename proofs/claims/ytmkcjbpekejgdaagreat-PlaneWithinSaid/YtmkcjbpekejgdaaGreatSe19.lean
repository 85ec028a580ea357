/-
  A law's argument that is a list, opened; its run. No condition.
-/
import Derived.Test.YtmkcjbpekejgdaaGreatSe12
set_option linter.unusedSimpArgs false
set_option linter.unusedVariables false
noncomputable section
namespace Go.Proofs.YtmkcjbpekejgdaaGreat
open Go.ChangeShapes Go.WideShapes Go.ChangeAt Go.RowKit Go.Aw Go.Joins
theorem flat_idx {α : Type} (E : El α) (l : List α) (i j : Nat) (hi : i < l.length) (hj : j < E.sz) : (flat E.fl l)[i * E.sz + j]? = (E.fl l[i])[j]? := by
  have h1 := flat_at E l i hi
  rw [← h1, List.getElem?_take_of_lt hj, List.getElem?_drop]
theorem law_calls_l {α : Type} (E : El α) {f : Nat} {xl : List (Nat × XF)} (hx : XLOK xl) {l : List α} {r : List Value} {c : Nat} (hr : allGA r = true)
    (hb : body xl f (.slice (some ⟨0, 0, none⟩) l.length c :: r) [(0, .cells false true E.sz (flat E.fl l))] 1 (fun u _ _ => u = .bool true)) {W : World} {v : Value} {loc : Go.Aw.Loc}
    (hv : v = tr (fun _ => loc) (.slice (some ⟨0, 0, none⟩) l.length c)) (hn : loc.isAt = false → l.length = 0 ∧ c = 0) (ho : ORel (fun _ => loc) W.heap.size W (.cells false true E.sz (flat E.fl l)) loc) :
    Calls Tryz.prog f (v :: r).toArray W (fun e W' => e = .returned (.bool true) ∧ Below W.heap.size W W') := by
  obtain ⟨_, h⟩ := body_calls hx f _ _ 1 _ hb (fun _ => loc) W.heap.size W ⟨fun k o hk => by
      rw [look_cons] at hk
      split at hk
      · injection hk with hk; subst hk; exact ho
      · exact noLook hk, fun k k' o o' hk hk' hne ha => by
      rw [look_cons] at hk hk'
      split at hk
      · rename_i hb1
        split at hk'
        · rename_i hb2; exact absurd ((beq_true hb1).symm.trans (beq_true hb2)) hne
        · exact noLook hk'
      · exact noLook hk, fun k o hk => by
      rw [look_cons] at hk
      split at hk
      · rename_i hb; rw [← beq_true hb]; exact Nat.one_pos
      · exact noLook hk, Nat.le_refl _, fun k o hk => by
      rw [look_cons] at hk
      split at hk
      · injection hk with hk; subst hk; exact fun v hv => scS_g (allG_mem (flat_g E l) hv)
      · exact noLook hk⟩ (fun u hu => by
      cases hu with
      | head => exact ⟨Nat.one_pos, hn⟩
      | tail _ hm => exact scT_g (allGA_mem hr hm))
  have he : ((Value.slice (some ⟨0, 0, none⟩) l.length c :: r).map (tr (fun _ => loc))).toArray = (v :: r).toArray := by
    congr 1
    rw [List.map_cons, ← hv]
    congr 1
    conv => rhs; rw [← List.map_id r]
    exact List.map_congr_left fun v hv => tr_g (allGA_mem hr hv)
  rw [he] at h
  refine callsIn_wide.1 (CallsIn.mono h fun e W' hr => ?_)
  cases e with
  | returned u =>
    obtain ⟨v, h', nx', ι', rfl, _, _, hb2, _, _, rfl⟩ := hr
    exact ⟨rfl, hb2.kit⟩
  | _ => exact hr.elim
section
variable {H : Type} {enc : TypeId × Value → H} {W : World} {held : Bool}
set_option maxRecDepth 100000 in
theorem open_list {α : Type} (E : El α) (hsz : 0 < E.sz) {t e : TypeId} (ht : Tryz.prog.underlying t = some (.slice e)) (hC : Tryz.prog.cellsOf e = E.sz)
    (hcells : ∀ {fuel : Nat} {cs : List Value} {x : DataW H × List MemPlace}, DataW.trod enc Tryz.prog W 0 (fun _ => true) held fuel e cs = some x → ∃ a, cs = E.fl a)
    {a0 : Option Addr} {n0 c0 : Nat} {d : DataW H} {p : List MemPlace} (h : DataW.Trod enc Tryz.prog W 0 (fun _ => true) held t (.slice a0 n0 c0) d p) :
    ∃ (l : List α) (c : Nat) (loc : Go.Aw.Loc), .slice a0 n0 c0 = tr (fun _ => loc) (.slice (some ⟨0, 0, none⟩) l.length c) ∧ (loc.isAt = false → l.length = 0 ∧ c = 0) ∧ ORel (fun _ => loc) W.heap.size W (.cells false true E.sz (flat E.fl l)) loc := by
  obtain ⟨fuel, hf⟩ := h
  rcases Go.Deep.open_slice ht hf with ⟨hcs, _⟩ | ⟨a, len, cap, m, n, D, Pl, hcs, _, hl, _, hm, _, hi⟩
  · simp [Value.cells] at hcs
    obtain ⟨rfl, rfl, rfl⟩ := hcs
    exact ⟨[], 0, .nil none, rfl, fun _ => ⟨rfl, rfl⟩, rfl, fun h => h.elim (fun h => absurd h E.pos) (fun h => by cases h)⟩
  · simp [Value.cells] at hcs
    obtain ⟨rfl, rfl, rfl⟩ := hcs
    simp only [if_true] at hm
    rw [hC, hm] at hi
    by_cases h0 : c0 = 0
    · subst h0
      have : n0 = 0 := by omega
      subst this
      exact ⟨[], 0, .nil (some a), rfl, fun _ => ⟨rfl, rfl⟩, rfl, fun h => h.elim (fun h => absurd h E.pos) (fun h => by cases h)⟩
    · have hp : ∀ i, i < c0 → ∃ q : α, ∀ j, j < E.sz → W.cell? ((a.add (i * E.sz)).add j) = (E.fl q)[j]? := by
        intro i him
        obtain ⟨cs', hc, ht'⟩ := hi i him
        obtain ⟨q, rfl⟩ := hcells ht'
        obtain ⟨_, _, hat⟩ := World.cells?_some hc
        exact ⟨q, hat⟩
      obtain ⟨q0, hq0⟩ := hp 0 (by omega)
      have hall : ∀ i, ∃ q : α, i < c0 → ∀ j, j < E.sz → W.cell? ((a.add (i * E.sz)).add j) = (E.fl q)[j]? := fun i => by
        by_cases him : i < c0
        · obtain ⟨q, hq⟩ := hp i him
          exact ⟨q, fun _ => hq⟩
        · exact ⟨q0, fun h => absurd h him⟩
      obtain ⟨F, hF⟩ := Classical.axiomOfChoice hall
      have hsome : ∃ u, W.cell? a = some u := by
        have := hq0 0 hsz
        simp only [Nat.zero_mul, Addr.add, if_true] at this
        have hlen := E.len q0
        rw [this, List.getElem?_eq_getElem (by omega)]
        exact ⟨_, rfl⟩
      obtain ⟨u0, hu0⟩ := hsome
      obtain ⟨b, off, spot⟩ := a
      have hspot : spot = none := World.cell?_spot hu0
      subst hspot
      have hbW : b < W.heap.size := by
        unfold World.cell? at hu0
        cases hb : W.heap[b]? with
        | none => simp [hb] at hu0
        | some o => exact (Array.getElem?_eq_some_iff.1 hb).1
      refine ⟨(List.range n0).map F, c0, .lay b off 0, ?_, (fun h => by cases h), hbW, fun _ => flat_g E _, fun i v hv => ?_⟩
      · simp [tr, trA, trS, trP]
      · have hlt := (List.getElem?_eq_some_iff.1 hv).1
        rw [flat_len] at hlt
        have hi1 : i / E.sz < ((List.range n0).map F).length := Nat.div_lt_of_lt_mul (by rw [Nat.mul_comm]; exact hlt)
        have hj1 : i % E.sz < E.sz := Nat.mod_lt _ hsz
        have hdm : i / E.sz * E.sz + i % E.sz = i := Nat.div_add_mod' _ _
        have hfi := flat_idx E ((List.range n0).map F) (i / E.sz) (i % E.sz) hi1 hj1
        rw [hdm, hv] at hfi
        simp only [List.length_map, List.length_range] at hi1
        rw [show ((List.range n0).map F)[i / E.sz] = F (i / E.sz) by simp] at hfi
        have := hF (i / E.sz) (by omega) (i % E.sz) hj1
        rw [← hfi] at this
        rw [trS_g (allG_mem (E.gr _) (List.mem_of_getElem? hfi.symm)), ← this]
        congr 1
        rw [Addr.add_lit, Addr.add_lit]
        simp only [Addr.mk.injEq, and_true, true_and]
        omega
end
end Go.Proofs.YtmkcjbpekejgdaaGreat
