/-
  Contracts: lists of points that are valid. No condition.
-/
import Derived.Test.YtagdfcdnfdpocaaGreatSe6
set_option linter.unusedSimpArgs false
set_option linter.unusedVariables false
noncomputable section
namespace Go.Aw
set_option maxRecDepth 100000
def firstBad : List (Int × Int) → Nat → Int
  | [], _ => -1
  | p :: r, i => if rightS p then firstBad r (i + 1) else i
def fn100 : Value := .func (.func 100) #[] #[]
def S132 (l : List (Int × Int)) : List Value → Option (Bool × Value)
  | [.func (.func 100) ⟨[]⟩ ⟨[]⟩] => some (decide (l.length ≤ 1000000000), iv (firstBad l 0))
  | _ => none
theorem S132_inv {l : List (Int × Int)} {r : List Value} {v : Value} (h : S132 l r = some (true, v)) : r = [fn100] ∧ l.length ≤ 1000000000 ∧ v = iv (firstBad l 0) := by
  unfold S132 at h
  split at h
  · injection h with h
    injection h with h1 h2
    exact ⟨rfl, by simpa using h1, h2.symm⟩
  · cases h
def X132 : Nat × XF := (132, lX elP S132)
theorem x132 : XOK Go.Proofs.Tryz.prog X132.1 X132.2 := lX_ok elP (body_calls (xl := [X100]) (.cons x100 .nil)) fun l r v hs => by
  obtain ⟨rfl, hlen, rfl⟩ := S132_inv hs
  refine ⟨rfl, rfl, fun c => ?_⟩
  conv => whnf
  refine ⟨fun n e h nx => ∃ (i : Nat) (j : Int), j = i ∧ i ≤ l.length ∧ n = l.length - i ∧ firstBad l 0 = firstBad (l.drop i) i ∧
    e = [(0, .slice (some ⟨0, 0, none⟩) l.length c), (1, fn100), (7, iv l.length), (8, iv j)] ∧ h = [(0, .cells false true 2 (flat elP.fl l))] ∧ nx = 1, ⟨l.length, ?_⟩, ?_⟩
  · refine Into_id (e0 := [(0, .slice (some ⟨0, 0, none⟩) l.length c), (1, fn100), (7, iv l.length), (8, iv 0)]) (h0 := [(0, .cells false true 2 (flat elP.fl l))]) (n0 := 1)
      ⟨0, 0, rfl, Nat.zero_le _, rfl, rfl, rfl, rfl, rfl⟩ ?_ ?_ (Nat.le_refl _)
    · exact List.forall_mem_cons.2 ⟨⟨rfl, Nat.one_pos, fun h => nomatch h⟩, List.forall_mem_cons.2 ⟨⟨(by show _ = some (ren id fn100); rw [ren_g (show gT fn100 = true from rfl)]; rfl), scT_g rfl⟩, List.forall_mem_cons.2 ⟨⟨rfl, scT_g rfl⟩, List.forall_mem_cons.2 ⟨⟨rfl, scT_g rfl⟩, fun _ h => nomatch h⟩⟩⟩⟩
    · exact List.forall_mem_cons.2 ⟨⟨Nat.one_pos, _, rfl, ObjRen_g (flat_g elP l)⟩, fun _ h => nomatch h⟩
  · rintro n e h nx ⟨i, j, hj, hi, rfl, hb, rfl, rfl, rfl⟩
    conv => whnf
    refine bm (fun h1 => ?_) (fun h1 => ?_)
    · have hlt : i < l.length := by simp [cfgS, std] at h1; omega
      conv => whnf
      refine bm (fun h2 => ?_) (fun h2 => ?_)
      · conv => whnf
        refine boL (flat_get elP l hlt ?ho) ?_
        case ho => simp [cfgS, std, elP, hj]
        have hd : l.drop i = l[i] :: l.drop (i + 1) := List.drop_eq_getElem_cons hlt
        rw [hd] at hb
        generalize l[i] = p at hb
        obtain ⟨x, y⟩ := p
        conv => whnf
        refine bm (fun h3 => ?_) (fun h3 => ?_)
        · conv => whnf
          simp only [Bool.not_eq_true'] at h3
          rw [hb, hj]
          simp only [firstBad, h3]
          rfl
        · conv => whnf
          refine bm (fun h4 => ?_) (fun h4 => ?_)
          · conv => whnf
            simp only [Bool.not_eq_false'] at h3
            refine ⟨l.length - (i + 1), by omega, ?_⟩
            refine Into_id (e0 := [(0, .slice (some ⟨0, 0, none⟩) l.length c), (1, fn100), (7, iv l.length), (8, iv (j + 1))]) (h0 := [(0, .cells false true 2 (flat elP.fl l))]) (n0 := 1)
              ⟨i + 1, j + 1, by omega, hlt, rfl, ?_, rfl, rfl, rfl⟩ ?_ ?_ (Nat.le_refl _)
            · rw [hb]; simp only [firstBad, h3, if_true]
            · exact List.forall_mem_cons.2 ⟨⟨rfl, Nat.one_pos, fun h => nomatch h⟩, List.forall_mem_cons.2 ⟨⟨(by show _ = some (ren id fn100); rw [ren_g (show gT fn100 = true from rfl)]; rfl), scT_g rfl⟩, List.forall_mem_cons.2 ⟨⟨rfl, scT_g rfl⟩, List.forall_mem_cons.2 ⟨⟨rfl, scT_g rfl⟩, fun _ h => nomatch h⟩⟩⟩⟩
            · exact List.forall_mem_cons.2 ⟨⟨Nat.one_pos, _, rfl, ObjRen_g (flat_g elP l)⟩, fun _ h => nomatch h⟩
          · simp [cfgS, std, fitsK] at h4
            omega
      · simp [cfgS, std] at h2
        omega
    · have hlt : l.length ≤ i := by simp [cfgS, std] at h1; omega
      conv => whnf
      rw [hb, List.drop_eq_nil_of_le hlt]
      rfl

theorem firstBad_all : ∀ (l : List (Int × Int)) (i : Nat), decide (0 ≤ firstBad l i) = !(l.all rightS)
  | [], i => rfl
  | p :: r, i => by
    by_cases hp : rightS p = true
    · simp only [firstBad, List.all_cons, hp, if_true, Bool.true_and]
      exact firstBad_all r (i + 1)
    · have hp' : rightS p = false := by simpa using hp
      simp [firstBad, List.all_cons, hp']
def S99 (l : List (Int × Int)) : List Value → Option (Bool × Value)
  | [.func (.func 100) ⟨[]⟩ ⟨[]⟩] => some (decide (l.length ≤ 1000000000), .bool (!(l.all rightS)))
  | _ => none
theorem S99_inv {l : List (Int × Int)} {r : List Value} {v : Value} (h : S99 l r = some (true, v)) : r = [fn100] ∧ l.length ≤ 1000000000 ∧ v = .bool (!(l.all rightS)) := by
  unfold S99 at h
  split at h
  · injection h with h
    injection h with h1 h2
    exact ⟨rfl, by simpa using h1, h2.symm⟩
  · cases h
theorem LsAt_own {α : Type} (E : El α) {l : List α} {c : Nat} {wr g : Bool} {sz : Nat} {h : Heap} (hk : look h 0 = some (.cells wr g sz (flat E.fl l))) : LsAt E h (.slice (some ⟨0, 0, none⟩) l.length c) l :=
  ⟨rfl, wr, g, sz, _, hk, by rw [List.drop_zero, List.take_length]⟩
def X99 : Nat × XF := (99, lX elP S99)
theorem x99 : XOK Go.Proofs.Tryz.prog X99.1 X99.2 := lX_ok elP (body_calls (xl := [X132]) (.cons x132 .nil)) fun l r v hs => by
  obtain ⟨rfl, hlen, rfl⟩ := S99_inv hs
  refine ⟨rfl, rfl, fun c => ?_⟩
  conv => whnf
  refine ⟨l, LsAt_own elP rfl, ?_⟩
  conv => whnf
  refine bm (fun h1 => ?_) (fun h1 => ?_)
  · conv => whnf
    rw [← firstBad_all l 0]
    rfl
  · exact absurd hlen (by simpa using h1)
def S54 (l : List (Int × Int)) : List Value → Option (Bool × Value)
  | [] => some (decide (l.length ≤ 1000000000), .bool (l.all rightS))
  | _ => none
theorem S54_inv {l : List (Int × Int)} {r : List Value} {v : Value} (h : S54 l r = some (true, v)) : r = [] ∧ l.length ≤ 1000000000 ∧ v = .bool (l.all rightS) := by
  unfold S54 at h
  split at h
  · injection h with h
    injection h with h1 h2
    exact ⟨rfl, by simpa using h1, h2.symm⟩
  · cases h
def X54 : Nat × XF := (54, lX elP S54)
theorem x54 : XOK Go.Proofs.Tryz.prog X54.1 X54.2 := lX_ok elP (body_calls (xl := [X99]) (.cons x99 .nil)) fun l r v hs => by
  obtain ⟨rfl, hlen, rfl⟩ := S54_inv hs
  refine ⟨rfl, rfl, fun c => ?_⟩
  conv => whnf
  refine ⟨l, LsAt_own elP rfl, ?_⟩
  conv => whnf
  refine bm (fun h1 => ?_) (fun h1 => ?_)
  · conv => whnf
    simp [cfgS, std]
  · exact absurd hlen (by simpa using h1)
def X15 : Nat × XF := (15, gX (s3P fun a b c => (true, iv (tS a b c))))
theorem x15 : XOK Go.Proofs.Tryz.prog X15.1 X15.2 := x3P (xl := [X54, X55]) (.cons x54 (.cons x55 .nil)) (fun _ _ _ => rfl) fun a b c hp => by
  obtain ⟨ax, ay⟩ := a
  obtain ⟨bx, «by»⟩ := b
  obtain ⟨cx, cy⟩ := c
  unfold Does1
  conv => whnf
  refine ⟨[(ax, ay), (bx, «by»), (cx, cy)], ⟨rfl, _, _, _, _, rfl, rfl⟩, ?_⟩
  repeat' (conv => whnf
           refine bm (fun h => ?_) (fun h => ?_))
  all_goals (conv => whnf)
  all_goals (clear hp; simp only [cfgS, std, tS] at *; simp at *)
  all_goals (cases ha : rightS (ax, ay) <;> cases hb : rightS (bx, «by») <;> cases hc : rightS (cx, cy) <;> simp_all [rightS_wide, iv])
end Go.Aw
