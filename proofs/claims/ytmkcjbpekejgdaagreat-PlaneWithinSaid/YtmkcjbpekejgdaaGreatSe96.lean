/-
  Half of a hull: a list behind a box read, a list of the call's own yielded. No condition.
-/
import Derived.Test.YtmkcjbpekejgdaaGreatSe95
set_option linter.unusedSimpArgs false
set_option linter.unusedVariables false
noncomputable section
namespace Go.Aw
open Go.RowKit
set_option maxRecDepth 100000
/-! ### what is yielded: a part of a list -/
def Yd (F : List (Int × Int)) (n : Nat) : KE := fun v h _ => ∃ q, v = .slice (some ⟨q, 0, none⟩) n F.length ∧ look h q = some (.cells true false 2 (flat elP.fl F))
theorem Yd_Outc {F : List (Int × Int)} {n : Nat} {v : Value} {h : Heap} {nx : Nat} (hv : Yd F n v h nx) : Outc (.slice (some ⟨0, 0, none⟩) n F.length) [(0, .cells true false 2 (flat elP.fl F))] 1 v h nx := by
  obtain ⟨q, rfl, hq⟩ := hv
  refine ⟨fun _ => q, ⟨fun t u hu => ?_, fun k o hk => ?_, fun k k' o o' hk hk' _ => ?_, fun k hk => absurd hk (Nat.not_lt_zero k), Nat.zero_le _⟩⟩
  · rw [look_cons] at hu
    split at hu
    · rename_i hb
      injection hu with hu
      subst hu
      exact ⟨by rw [look_cons, hb]; rfl, ⟨Nat.one_pos, fun h => by cases h⟩⟩
    · exact noLook hu
  · rw [look_cons] at hk
    split at hk
    · rename_i hb
      injection hk with hk
      subst hk
      exact ⟨by rw [← beq_true hb]; exact Nat.one_pos, _, hq, ObjRen_g (flat_g elP _)⟩
    · exact noLook hk
  · rw [look_cons] at hk hk'
    split at hk
    · rename_i hb1
      split at hk'
      · rename_i hb2; exact (beq_true hb1).symm.trans (beq_true hb2)
      · exact noLook hk'
    · exact noLook hk
theorem In_box {k k2 n c : Nat} {h : Heap} {nx : Nat} {wr g : Bool} {sz : Nat} {l : List (Int × Int)} {wr2 g2 : Bool} {sz2 : Nat} {cs2 : List Value} (hk : look h k = some (.cells wr g sz [.slice (some ⟨k2, 0, none⟩) n c])) (hk2 : look h k2 = some (.cells wr2 g2 sz2 cs2)) (hl : 0 < n) (hcs : cs2.take (flat elP.fl l).length = flat elP.fl l) :
    In [.pointer (some ⟨0, 0, none⟩)] [(0, .cells false false 1 [.slice (some ⟨1, 0, none⟩) n c]), (1, .cells false true 2 (flat elP.fl l))] 2 [.pointer (some ⟨k, 0, none⟩)] h nx := by
  intro ι B w H hs
  have hp : k < nx ∧ (ι k).isAt = true := hs _ (.head _)
  obtain ⟨b, off, ex, e1, e2⟩ := H.cell hk (i := 0) rfl
  have hsc : k2 < nx ∧ ((ι k2).isAt = false → n = 0 ∧ c = 0) := H.sc k _ hk _ (.head _)
  cases e3 : ι k2 with
  | nil p =>
    have := hsc.2 (by rw [e3]; rfl)
    omega
  | lay b2 off2 ex2 =>
    have hlt1 := (H.obj k _ hk).lt (b := b) (by rw [e1]; rfl)
    have hlt2 := (H.obj k2 _ hk2).lt (b := b2) (by rw [e3]; rfl)
    have hcell2 : ∀ (i : Nat) v, (flat elP.fl l)[i]? = some v → w.cell? ⟨b2, off2 + i, none⟩ = some v := fun i v hv => by
      have hv2 : cs2[i]? = some v := by
        have h3 := hv
        rw [← hcs, List.getElem?_take] at h3
        split at h3
        · exact h3
        · cases h3
      obtain ⟨b3, o3, x3, q1, q2⟩ := H.cell hk2 hv2
      rw [e3] at q1
      injection q1 with q1 q3 q4
      subst q1 q3
      rw [q2, trS_g (allG_mem (flat_g elP l) (List.mem_of_getElem? hv))]
    obtain ⟨ι0, f0, f1⟩ : ∃ ι0 : Nat → Loc, ι0 0 = .lay b off ex ∧ ι0 1 = .lay b2 off2 ex2 := ⟨fun j => if j = 0 then .lay b off ex else .lay b2 off2 ex2, if_pos rfl, if_neg (by decide)⟩
    have hlook : ∀ j o, look [(0, AObj.cells false false 1 [.slice (some ⟨1, 0, none⟩) n c]), (1, .cells false true 2 (flat elP.fl l))] j = some o → (j = 0 ∧ o = .cells false false 1 [.slice (some ⟨1, 0, none⟩) n c]) ∨ (j = 1 ∧ o = .cells false true 2 (flat elP.fl l)) := by
      intro j o hj
      rw [look_cons] at hj
      split at hj
      · rename_i hb; injection hj with hj; exact .inl ⟨(beq_true hb).symm, hj.symm⟩
      · rw [look_cons] at hj
        split at hj
        · rename_i hb; injection hj with hj; exact .inr ⟨(beq_true hb).symm, hj.symm⟩
        · exact noLook hj
    refine ⟨ι0, ?_, fun v hv => ?_, ⟨fun j o hj => ?_, fun j j' o o' hj hj' hne ha => ?_, fun j o hj => ?_, Nat.le_refl _, fun j o hj => ?_⟩⟩
    · simp only [List.map_cons, List.map_nil, tr, trA, trS, trP, e1, f0]
    · cases hv with
      | head => exact ⟨by decide, by rw [f0]; rfl⟩
      | tail _ hm => cases hm
    · rcases hlook j o hj with ⟨rfl, rfl⟩ | ⟨rfl, rfl⟩
      · rw [f0]
        refine ⟨hlt1, (fun h => (by cases h)), fun i v hv => ?_⟩
        cases i with
        | zero =>
          injection hv with hv
          subst hv
          rw [e2]
          simp only [trS, trP, e3, f1]
        | succ i => cases hv
      · rw [f1]
        refine ⟨hlt2, (fun _ => flat_g elP l), fun i v hv => ?_⟩
        rw [hcell2 i v hv, trS_g (allG_mem (flat_g elP l) (List.mem_of_getElem? hv))]
    · rcases hlook j o hj with ⟨rfl, rfl⟩ | ⟨rfl, rfl⟩ <;> cases ha
    · rcases hlook j o hj with ⟨rfl, rfl⟩ | ⟨rfl, rfl⟩ <;> decide
    · rcases hlook j o hj with ⟨rfl, rfl⟩ | ⟨rfl, rfl⟩
      · intro v hv
        cases hv with
        | head => exact ⟨by decide, fun h => by rw [f1] at h; cases h⟩
        | tail _ hm => cases hm
      · exact fun v hv => scS_g (allG_mem (flat_g elP l) hv)
/-! ### the stack -/
/-- So many stay, ahead of p. -/
def popN (F : List (Int × Int)) (p : Int × Int) : Nat → Nat
  | 0 => 0
  | n + 1 => if 1 ≤ n ∧ turnS (at2 F (n - 1)) (at2 F n) p ≤ 0 then popN F p n else n + 1
def pushI (F : List (Int × Int)) (m : Nat) (p : Int × Int) : List (Int × Int) := F.take m ++ [p] ++ F.drop (m + 1)
def halfS (l : List (Int × Int)) : Nat → List (Int × Int) × Nat
  | 0 => ([], 0)
  | k + 1 => (pushI (halfS l k).1 (popN (halfS l k).1 (at2 l k) (halfS l k).2) (at2 l k), popN (halfS l k).1 (at2 l k) (halfS l k).2 + 1)
theorem popN_le (F : List (Int × Int)) (p : Int × Int) : ∀ n, popN F p n ≤ n ∧ (1 ≤ n → 1 ≤ popN F p n)
  | 0 => by unfold popN; omega
  | n + 1 => by
    have := popN_le F p n
    unfold popN
    split
    · rename_i h; omega
    · omega
theorem popN_go {F : List (Int × Int)} {p : Int × Int} {m : Nat} (h : 1 < m) (ht : turnS (at2 F (m - 2)) (at2 F (m - 1)) p ≤ 0) : popN F p m = popN F p (m - 1) := by
  obtain ⟨n, rfl⟩ : ∃ n, m = n + 1 := ⟨m - 1, by omega⟩
  conv => lhs; unfold popN
  rw [if_pos ⟨by omega, ht⟩]
  rfl
theorem popN_stop {F : List (Int × Int)} {p : Int × Int} {m : Nat} (h : 1 < m → ¬ turnS (at2 F (m - 2)) (at2 F (m - 1)) p ≤ 0) : popN F p m = m := by
  cases m with
  | zero => rfl
  | succ n =>
    unfold popN
    rw [if_neg (fun hc => h (by omega) hc.2)]
theorem halfS_succ {l F : List (Int × Int)} {k m : Nat} (h : halfS l k = (F, m)) : halfS l (k + 1) = (pushI F (popN F (at2 l k) m) (at2 l k), popN F (at2 l k) m + 1) := by
  conv => lhs; unfold halfS
  rw [h]
theorem halfS_one (l : List (Int × Int)) : halfS l 1 = ([at2 l 0], 1) := rfl
theorem pushI_len {F : List (Int × Int)} {m : Nat} (p : Int × Int) (h : m ≤ F.length) : (pushI F m p).length = if m < F.length then F.length else m + 1 := by
  unfold pushI
  rw [List.length_append, List.length_append, List.length_take, List.length_drop, List.length_singleton]
  split <;> omega
theorem pushI_right {F : List (Int × Int)} {m : Nat} {p : Int × Int} (h : F.all rightS = true) (hp : rightS p = true) : (pushI F m p).all rightS = true := by
  refine List.all_eq_true.2 fun x hx => ?_
  unfold pushI at hx
  rcases List.mem_append.1 hx with hx | hx
  · rcases List.mem_append.1 hx with hx | hx
    · exact List.all_eq_true.1 h x (List.mem_of_mem_take hx)
    · rw [List.mem_singleton.1 hx]; exact hp
  · exact List.all_eq_true.1 h x (List.mem_of_mem_drop hx)
def SHf (l : List (Int × Int)) : Bool := decide (0 < l.length) && decide (l.length ≤ 1000000) && l.all rightS
def hbX : XF := fun args h nx K => match args with
  | [.pointer (some ⟨k, 0, none⟩)] => ∃ l k2 c wr g sz wr2 g2 sz2 cs2, look h k = some (.cells wr g sz [.slice (some ⟨k2, 0, none⟩) (List.length l) c]) ∧ look h k2 = some (.cells wr2 g2 sz2 cs2) ∧ cs2.take (flat elP.fl l).length = flat elP.fl l ∧ SHf l = true ∧
      K (.slice (some ⟨nx, 0, none⟩) ((halfS l l.length).2 - 1) (halfS l l.length).1.length) (app h [(nx, .cells true false 2 (flat elP.fl (halfS l l.length).1))]) (nx + 1)
  | _ => False
theorem hbX_ok {P : Program} {C : VC} {f : Nat} (hC : CallsOK P C) (hs : ∀ l c, SHf l = true → C f [.pointer (some ⟨0, 0, none⟩)] [(0, .cells false false 1 [.slice (some ⟨1, 0, none⟩) l.length c]), (1, .cells false true 2 (flat elP.fl l))] 2 (Yd (halfS l l.length).1 ((halfS l l.length).2 - 1))) : XOK P f hbX := by
  refine (xOf_ok (S := fun args0 h0 n0 v1 h1 m => ∃ l c, SHf l = true ∧ args0 = [.pointer (some ⟨0, 0, none⟩)] ∧ h0 = [(0, .cells false false 1 [.slice (some ⟨1, 0, none⟩) l.length c]), (1, .cells false true 2 (flat elP.fl l))] ∧ n0 = 2 ∧ v1 = .slice (some ⟨0, 0, none⟩) ((halfS l l.length).2 - 1) (halfS l l.length).1.length ∧ h1 = [(0, .cells true false 2 (flat elP.fl (halfS l l.length).1))] ∧ m = 1) hC ?_).mono ?_ ?_
  · rintro args0 h0 n0 v1 h1 m ⟨l, c, e1, rfl, rfl, rfl, rfl, rfl, rfl⟩
    exact ⟨rfl, _, hs l c e1, fun v h nx hq => Yd_Outc hq⟩
  · intro args h nx K hx
    unfold hbX at hx
    split at hx
    case h_2 => exact hx.elim
    rename_i k
    obtain ⟨l, k2, c, wr, g, sz, wr2, g2, sz2, cs2, hk, hk2, hcs, hS, hK⟩ := hx
    have hl : 0 < l.length := by
      unfold SHf at hS
      simp only [Bool.and_eq_true, decide_eq_true_eq] at hS
      exact hS.1.1
    refine ⟨_, _, _, _, _, _, ⟨l, c, hS, rfl, rfl, rfl, rfl, rfl, rfl⟩, In_box hk hk2 hl hcs, ?_⟩
    have hm : (flat elP.fl (halfS l l.length).1).map (ren1 (fun k => nx + k)) = flat elP.fl (halfS l l.length).1 := map_trS_g (flat_g elP _)
    show K (.slice (some ⟨nx + 0, 0 + 0, none⟩) _ (_ + 0)) (app h [(nx + 0, .cells true false 2 ((flat elP.fl (halfS l l.length).1).map (ren1 (fun k => nx + k))))]) (nx + 1)
    rw [hm]
    exact hK
  · intro args h nx K hx
    unfold hbX at hx
    split at hx
    case h_2 => exact hx.elim
    rename_i k
    obtain ⟨l, k2, c, wr, g, sz, wr2, g2, sz2, cs2, hk, hk2, hcs, hS, hK⟩ := hx
    exact ⟨_, _, _, hK, fun K' hk' => ⟨l, k2, c, wr, g, sz, wr2, g2, sz2, cs2, hk, hk2, hcs, hS, hk'⟩⟩
end Go.Aw
