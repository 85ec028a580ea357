/-
  Lists of points: lengths. No condition.
-/
import Derived.Test.YtagdfcdnfdpocaaGreatSe10
set_option linter.unusedSimpArgs false
set_option linter.unusedVariables false
noncomputable section
namespace Go.Aw
set_option maxRecDepth 100000
theorem nth_flat {α : Type} (E : El α) (l : List α) {i k o : Nat} {v : Value} (hi : i < l.length) (hk : (E.fl l[i])[k]? = some v) (hks : k < E.sz) (ho : o = i * E.sz + k) : nth (flat E.fl l) o = some v := by
  subst ho
  have h1 := flat_at E l i hi
  rw [nth_eq, ← hk, ← h1, List.getElem?_take_of_lt hks, List.getElem?_drop]
theorem pt_x (l : List (Int × Int)) {i o : Nat} (hi : i < l.length) (ho : o = i * 2) : nth (flat elP.fl l) o = some (iv l[i].1) :=
  nth_flat elP l (k := 0) hi rfl (by decide) (by simp [ho, elP])
theorem pt_y (l : List (Int × Int)) {i o : Nat} (hi : i < l.length) (ho : o = i * 2 + 1) : nth (flat elP.fl l) o = some (iv l[i].2) :=
  nth_flat elP l (k := 1) hi rfl (by decide) (by simp [ho, elP])
theorem all_get {l : List (Int × Int)} (h : l.all rightS = true) {i : Nat} (hi : i < l.length) : rightS l[i] = true := List.all_eq_true.1 h _ (List.getElem_mem hi)
/-- The reference's loop over all points. -/
def S80 (l : List (Int × Int)) : List Value → Option (Bool × Value)
  | [] => some (decide (l.length ≤ 1000000000), .bool (l.all rightS))
  | _ => none
def X80 : Nat × XF := (80, lX elP S80)
theorem x80 : XOK Go.Proofs.Tryz.prog X80.1 X80.2 := lX_ok elP (body_calls (xl := [X56]) (.cons x56 .nil)) fun l r v hs => by
  have : r = [] ∧ l.length ≤ 1000000000 ∧ v = .bool (l.all rightS) := by
    unfold S80 at hs
    split at hs
    · injection hs with hs; injection hs with h1 h2; exact ⟨rfl, by simpa using h1, h2.symm⟩
    · cases hs
  obtain ⟨rfl, hlen, rfl⟩ := this
  refine ⟨rfl, rfl, fun c => ?_⟩
  conv => whnf
  refine ⟨fun n e h nx => ∃ (i : Nat) (j : Int), j = i ∧ i ≤ l.length ∧ n = l.length - i ∧ l.all rightS = (l.drop i).all rightS ∧
    e = [(0, .slice (some ⟨0, 0, none⟩) l.length c), (3, iv j)] ∧ h = [(0, .cells false true 2 (flat elP.fl l))] ∧ nx = 1, ⟨l.length, ?_⟩, ?_⟩
  · refine Into_id (e0 := [(0, .slice (some ⟨0, 0, none⟩) l.length c), (3, iv 0)]) (h0 := [(0, .cells false true 2 (flat elP.fl l))]) (n0 := 1)
      ⟨0, 0, rfl, Nat.zero_le _, rfl, rfl, rfl, rfl, rfl⟩ ?_ ?_ (Nat.le_refl _)
    · exact List.forall_mem_cons.2 ⟨⟨rfl, Nat.one_pos, fun h => nomatch h⟩, List.forall_mem_cons.2 ⟨⟨rfl, scT_g rfl⟩, fun _ h => nomatch h⟩⟩
    · exact List.forall_mem_cons.2 ⟨⟨Nat.one_pos, _, rfl, ObjRen_g (flat_g elP l)⟩, fun _ h => nomatch h⟩
  · rintro n e h nx ⟨i, j, hj, hi, rfl, hb, rfl, rfl, rfl⟩
    conv => whnf
    refine bm (fun h1 => ?_) (fun h1 => ?_)
    · have hlt : i < l.length := by simp [cfgS, std] at h1; omega
      conv => whnf
      refine bm (fun h2 => ?_) (fun h2 => ?_)
      · conv => whnf
        refine boL (flat_get elP l hlt ?ho) ?_
        case ho => simp [cfgS, std, elP, hj]
        have hd : l.drop i = l[i] :: l.drop (i + 1) := List.drop_eq_getElem_cons hlt
        rw [hd, List.all_cons] at hb
        generalize l[i] = p at hb
        obtain ⟨x, y⟩ := p
        conv => whnf
        refine bm (fun h3 => ?_) (fun h3 => ?_)
        · conv => whnf
          simp [cfgS, std] at h3
          rw [hb, h3]
          rfl
        · conv => whnf
          refine bm (fun h4 => ?_) (fun h4 => ?_)
          · conv => whnf
            simp [cfgS, std] at h3
            refine ⟨l.length - (i + 1), by omega, ?_⟩
            refine Into_id (e0 := [(0, .slice (some ⟨0, 0, none⟩) l.length c), (3, iv (j + 1))]) (h0 := [(0, .cells false true 2 (flat elP.fl l))]) (n0 := 1)
              ⟨i + 1, j + 1, by omega, hlt, rfl, ?_, rfl, rfl, rfl⟩ ?_ ?_ (Nat.le_refl _)
            · rw [hb, h3, Bool.true_and]
            · exact List.forall_mem_cons.2 ⟨⟨rfl, Nat.one_pos, fun h => nomatch h⟩, List.forall_mem_cons.2 ⟨⟨rfl, scT_g rfl⟩, fun _ h => nomatch h⟩⟩
            · exact List.forall_mem_cons.2 ⟨⟨Nat.one_pos, _, rfl, ObjRen_g (flat_g elP l)⟩, fun _ h => nomatch h⟩
          · simp [cfgS, std, fitsK] at h4
            omega
      · simp [cfgS, std] at h2
        omega
    · have hlt : l.length ≤ i := by simp [cfgS, std] at h1; omega
      conv => whnf
      rw [hb, List.drop_eq_nil_of_le hlt]
      rfl
end Go.Aw
