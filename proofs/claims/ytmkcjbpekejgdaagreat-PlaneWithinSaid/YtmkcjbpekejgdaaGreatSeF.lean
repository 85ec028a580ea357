/-
  Parts of the proof, put together. No condition.
-/
import Derived.Test.YtmkcjbpekejgdaaGreatSeE
/-
  Lists of segments that are valid: both checks. No condition.
-/
set_option linter.unusedSimpArgs false
set_option linter.unusedVariables false
noncomputable section
namespace Go.Aw
set_option maxRecDepth 100000
def elS : El Sg := ⟨fun s => [iv s.1.1, iv s.1.2, iv s.2.1, iv s.2.2], 4, fun _ => rfl, fun _ => rfl, by decide⟩
def atS (l : List Sg) (i : Nat) : Sg := l.getD i ((0, 0), (0, 0))
theorem atS_eq {l : List Sg} {i : Nat} (h : i < l.length) : atS l i = l[i] := by
  unfold atS
  rw [List.getD_eq_getElem?_getD, List.getElem?_eq_getElem h]
  rfl
theorem getS (l : List Sg) {i o : Nat} (hi : i < l.length) (ho : o = i * 4) : getN (flat elS.fl l) o 4 = some [iv (atS l i).1.1, iv (atS l i).1.2, iv (atS l i).2.1, iv (atS l i).2.2] := by
  rw [atS_eq hi]
  exact flat_get elS l hi ho
theorem drop_atS {l : List Sg} {i : Nat} (h : i < l.length) : l.drop i = atS l i :: l.drop (i + 1) := by
  rw [atS_eq h]
  exact List.drop_eq_getElem_cons h
def X127 : Nat × XF := (152, gX (s1 cS fun s => (true, .bool (!(rightG s)))))
theorem x127 : XOK Go.Proofs.Tryz.prog X127.1 X127.2 := x1 cS (xl := [X64]) (.cons x64 .nil) (fun _ => rfl) fun s _ => by
  obtain ⟨⟨ax, ay⟩, ⟨bx, b2⟩⟩ := s
  unfold Does1
  repeat' ((conv => whnf); refine bm (fun g => ?_) (fun g => ?_))
  all_goals (conv => whnf)
  all_goals (first | rfl | trace_state)
def badS : List Sg → Nat → Int
  | [], _ => -1
  | p :: r, i => if rightG p then badS r (i + 1) else i
def fn127 : Value := .func (.func 152) #[] #[]
def S141 (l : List Sg) : List Value → Option (Bool × Value)
  | [.func (.func 152) ⟨[]⟩ ⟨[]⟩] => some (decide (l.length ≤ 1000000000), iv (badS l 0))
  | _ => none
theorem S141_inv {l : List Sg} {r : List Value} {v : Value} (h : S141 l r = some (true, v)) : r = [fn127] ∧ l.length ≤ 1000000000 ∧ v = iv (badS l 0) := by
  unfold S141 at h
  split at h
  · injection h with h
    injection h with h1 h2
    exact ⟨rfl, by simpa using h1, h2.symm⟩
  · cases h
def e141 (l : List Sg) (c : Nat) (j : Int) : List (Nat × Value) := [(0, .slice (some ⟨0, 0, none⟩) l.length c), (1, fn127), (7, iv l.length), (8, iv j)]
def hS (l : List Sg) : Heap := [(0, .cells false true 4 (flat elS.fl l))]
def X141 : Nat × XF := (188, lX elS S141)
theorem x141 : XOK Go.Proofs.Tryz.prog X141.1 X141.2 := lX_ok elS (body_calls (xl := [X127]) (.cons x127 .nil)) fun l r v hs => by
  obtain ⟨rfl, hlen, rfl⟩ := S141_inv hs
  refine ⟨rfl, rfl, fun c => ?_⟩
  (conv => whnf)
  refine ⟨fun n e h nx => ∃ (i : Nat) (j : Int), j = i ∧ i ≤ l.length ∧ n = l.length - i ∧ badS l 0 = badS (l.drop i) i ∧ e = e141 l c j ∧ h = hS l ∧ nx = 1, ⟨l.length, ?_⟩, ?_⟩
  · refine Into_id (e0 := e141 l c 0) (h0 := hS l) (n0 := 1) ⟨0, 0, rfl, Nat.zero_le _, rfl, rfl, rfl, rfl, rfl⟩ ?_ ?_ (Nat.le_refl _)
    · unfold e141
      refine List.forall_mem_cons.2 ⟨⟨rfl, by decide, fun h => (by cases h)⟩, List.forall_mem_cons.2 ⟨⟨(by show _ = some (ren id fn127); rw [ren_g (show gT fn127 = true from rfl)]; rfl), scT_g rfl⟩, ?_⟩⟩
      ((repeat' (refine List.forall_mem_cons.2 ⟨⟨rfl, ?_⟩, ?_⟩; (first | exact scT_g rfl | exact ⟨by decide, rfl⟩ | exact ⟨by decide, fun h => (by cases h)⟩))); exact fun _ h => (by cases h))
    · unfold hS
      ((repeat' (refine List.forall_mem_cons.2 ⟨⟨Nat.le_of_ble_eq_true rfl, _, rfl, ?_⟩, ?_⟩; (first | exact ObjRen_g (flat_g _ _) | exact ObjRen_j rfl rfl))); exact fun _ h => (by cases h))
  · rintro n e h nx ⟨i, j, hj, hi, rfl, hb, rfl, rfl, rfl⟩
    unfold e141 hS
    ((conv => whnf); refine bm (fun h1 => ?_) (fun h1 => ?_))
    · have hlt : i < l.length := by simp [cfgS, std] at h1; omega
      ((conv => whnf); refine bm (fun h2 => ?_) (fun h2 => ?_))
      · (conv => whnf)
        refine boL (getS l hlt ?_) ?_
        · simp [cfgS, std]; omega
        rw [drop_atS hlt] at hb
        generalize atS l i = s at hb
        obtain ⟨⟨ax, ay⟩, ⟨bx, b2⟩⟩ := s
        ((conv => whnf); refine bm (fun h3 => ?_) (fun h3 => ?_))
        · (conv => whnf)
          simp only [Bool.not_eq_true'] at h3
          rw [hb, hj]
          simp only [badS, h3]
          rfl
        · ((conv => whnf); refine bm (fun h4 => ?_) (fun h4 => ?_))
          · (conv => whnf)
            simp only [Bool.not_eq_false'] at h3
            refine ⟨l.length - (i + 1), by omega, ?_⟩
            refine Into_id (e0 := e141 l c (j + 1)) (h0 := hS l) (n0 := 1) ⟨i + 1, j + 1, by omega, hlt, rfl, ?_, rfl, rfl, rfl⟩ ?_ ?_ (Nat.le_refl _)
            · rw [hb]; simp only [badS, h3, if_true]
            · unfold e141
              refine List.forall_mem_cons.2 ⟨⟨rfl, by decide, fun h => (by cases h)⟩, List.forall_mem_cons.2 ⟨⟨(by show _ = some (ren id fn127); rw [ren_g (show gT fn127 = true from rfl)]; rfl), scT_g rfl⟩, ?_⟩⟩
              ((repeat' (refine List.forall_mem_cons.2 ⟨⟨rfl, ?_⟩, ?_⟩; (first | exact scT_g rfl | exact ⟨by decide, rfl⟩ | exact ⟨by decide, fun h => (by cases h)⟩))); exact fun _ h => (by cases h))
            · unfold hS
              ((repeat' (refine List.forall_mem_cons.2 ⟨⟨Nat.le_of_ble_eq_true rfl, _, rfl, ?_⟩, ?_⟩; (first | exact ObjRen_g (flat_g _ _) | exact ObjRen_j rfl rfl))); exact fun _ h => (by cases h))
          · simp [cfgS, std, fitsK] at h4
            omega
      · simp [cfgS, std] at h2
        omega
    · have hlt : l.length ≤ i := by simp [cfgS, std] at h1; omega
      (conv => whnf)
      rw [hb, List.drop_eq_nil_of_le hlt]
      rfl
theorem badS_all : ∀ (l : List Sg) (i : Nat), decide (0 ≤ badS l i) = !(l.all rightG)
  | [], i => rfl
  | p :: r, i => by
    by_cases hp : rightG p = true
    · simp only [badS, List.all_cons, hp, if_true, Bool.true_and]
      exact badS_all r (i + 1)
    · have hp' : rightG p = false := by simpa using hp
      simp [badS, List.all_cons, hp']
def S126 (l : List Sg) : List Value → Option (Bool × Value)
  | [.func (.func 152) ⟨[]⟩ ⟨[]⟩] => some (decide (l.length ≤ 1000000000), .bool (!(l.all rightG)))
  | _ => none
theorem S126_inv {l : List Sg} {r : List Value} {v : Value} (h : S126 l r = some (true, v)) : r = [fn127] ∧ l.length ≤ 1000000000 ∧ v = .bool (!(l.all rightG)) := by
  unfold S126 at h
  split at h
  · injection h with h
    injection h with h1 h2
    exact ⟨rfl, by simpa using h1, h2.symm⟩
  · cases h
def X126 : Nat × XF := (151, lX elS S126)
theorem x126 : XOK Go.Proofs.Tryz.prog X126.1 X126.2 := lX_ok elS (body_calls (xl := [X141]) (.cons x141 .nil)) fun l r v hs => by
  obtain ⟨rfl, hlen, rfl⟩ := S126_inv hs
  refine ⟨rfl, rfl, fun c => ?_⟩
  (conv => whnf)
  refine ⟨l, LsAt_own elS rfl, ?_⟩
  ((conv => whnf); refine bm (fun h1 => ?_) (fun h1 => ?_))
  · (conv => whnf)
    rw [← badS_all l 0]
    rfl
  · exact absurd hlen (by simpa using h1)
def chkS (l : List Sg) : Int := if 400 < l.length then 2 else if l.all rightG = true then 0 else 1
def SChk (l : List Sg) : List Value → Option (Bool × Value)
  | [] => some (decide (l.length ≤ 1000000000), iv (chkS l))
  | _ => none
theorem SChk_inv {l : List Sg} {r : List Value} {v : Value} (hs : SChk l r = some (true, v)) : r = [] ∧ l.length ≤ 1000000000 ∧ v = iv (chkS l) := by
  unfold SChk at hs
  split at hs
  · injection hs with hs; injection hs with h1 h2; exact ⟨rfl, by simpa using h1, h2.symm⟩
  · cases hs
def X86 : Nat × XF := (113, lX elS SChk)
theorem x86 : XOK Go.Proofs.Tryz.prog X86.1 X86.2 := lX_ok elS (body_calls (xl := [X126]) (.cons x126 .nil)) fun l r v hs => by
  obtain ⟨rfl, hlen, rfl⟩ := SChk_inv hs
  refine ⟨rfl, rfl, fun c => ?_⟩
  ((conv => whnf); refine bm (fun h1 => ?_) (fun h1 => ?_))
  · (conv => whnf)
    simp only [cA_lt, cA_num, decide_eq_true_eq] at h1
    rw [chkS, if_pos (by omega)]
    rfl
  · simp only [cA_lt, cA_num, decide_eq_false_iff_not] at h1
    (conv => whnf)
    refine ⟨l, LsAt_own elS rfl, ?_⟩
    ((conv => whnf); refine bm (fun h2 => ?_) (fun h2 => ?_))
    · ((conv => whnf); refine bm (fun h3 => ?_) (fun h3 => ?_))
      · (conv => whnf)
        simp only [Bool.not_eq_true'] at h3
        rw [chkS, if_neg (by omega), h3]
        rfl
      · (conv => whnf)
        simp only [Bool.not_eq_false'] at h3
        rw [chkS, if_neg (by omega), h3]
        rfl
    · exact absurd hlen (by simpa using h2)
def e87 (l : List Sg) (c : Nat) (j : Int) : List (Nat × Value) := [(0, .slice (some ⟨0, 0, none⟩) l.length c), (3, iv j)]
def X87 : Nat × XF := (121, lX elS SChk)
theorem x87 : XOK Go.Proofs.Tryz.prog X87.1 X87.2 := lX_ok elS (body_calls (xl := [X66]) (.cons x66 .nil)) fun l r v hs => by
  obtain ⟨rfl, hlen, rfl⟩ := SChk_inv hs
  refine ⟨rfl, rfl, fun c => ?_⟩
  ((conv => whnf); refine bm (fun h1 => ?_) (fun h1 => ?_))
  · (conv => whnf)
    simp only [cA_lt, cA_num, decide_eq_true_eq] at h1
    rw [chkS, if_pos (by omega)]
    rfl
  · simp only [cA_lt, cA_num, decide_eq_false_iff_not] at h1
    (conv => whnf)
    refine ⟨fun n e h nx => ∃ (i : Nat) (j : Int), j = i ∧ i ≤ l.length ∧ n = l.length - i ∧ l.all rightG = (l.drop i).all rightG ∧ e = e87 l c j ∧ h = hS l ∧ nx = 1, ⟨l.length, ?_⟩, ?_⟩
    · refine Into_id (e0 := e87 l c 0) (h0 := hS l) (n0 := 1) ⟨0, 0, rfl, Nat.zero_le _, rfl, rfl, rfl, rfl, rfl⟩ ?_ ?_ (Nat.le_refl _)
      · unfold e87
        ((repeat' (refine List.forall_mem_cons.2 ⟨⟨rfl, ?_⟩, ?_⟩; (first | exact scT_g rfl | exact ⟨by decide, rfl⟩ | exact ⟨by decide, fun h => (by cases h)⟩))); exact fun _ h => (by cases h))
      · unfold hS
        ((repeat' (refine List.forall_mem_cons.2 ⟨⟨Nat.le_of_ble_eq_true rfl, _, rfl, ?_⟩, ?_⟩; (first | exact ObjRen_g (flat_g _ _) | exact ObjRen_j rfl rfl))); exact fun _ h => (by cases h))
    · rintro n e h nx ⟨i, j, hj, hi, rfl, hb, rfl, rfl, rfl⟩
      unfold e87 hS
      ((conv => whnf); refine bm (fun g1 => ?_) (fun g1 => ?_))
      · have hlt : i < l.length := by simp [cfgS, std] at g1; omega
        ((conv => whnf); refine bm (fun h2 => ?_) (fun h2 => ?_))
        · (conv => whnf)
          refine boL (getS l hlt ?_) ?_
          · simp [cfgS, std]; omega
          rw [drop_atS hlt, List.all_cons] at hb
          generalize atS l i = s at hb
          obtain ⟨⟨ax, ay⟩, ⟨bx, b2⟩⟩ := s
          ((conv => whnf); refine bm (fun h3 => ?_) (fun h3 => ?_))
          · (conv => whnf)
            simp only [cA_notB, Bool.not_eq_true'] at h3
            rw [chkS, if_neg (by omega), hb, h3]
            rfl
          · ((conv => whnf); refine bm (fun h4 => ?_) (fun h4 => ?_))
            · (conv => whnf)
              simp only [cA_notB, Bool.not_eq_false'] at h3
              refine ⟨l.length - (i + 1), by omega, ?_⟩
              refine Into_id (e0 := e87 l c (j + 1)) (h0 := hS l) (n0 := 1) ⟨i + 1, j + 1, by omega, hlt, rfl, ?_, rfl, rfl, rfl⟩ ?_ ?_ (Nat.le_refl _)
              · rw [hb, h3, Bool.true_and]
              · unfold e87
                ((repeat' (refine List.forall_mem_cons.2 ⟨⟨rfl, ?_⟩, ?_⟩; (first | exact scT_g rfl | exact ⟨by decide, rfl⟩ | exact ⟨by decide, fun h => (by cases h)⟩))); exact fun _ h => (by cases h))
              · unfold hS
                ((repeat' (refine List.forall_mem_cons.2 ⟨⟨Nat.le_of_ble_eq_true rfl, _, rfl, ?_⟩, ?_⟩; (first | exact ObjRen_g (flat_g _ _) | exact ObjRen_j rfl rfl))); exact fun _ h => (by cases h))
            · simp [cfgS, std, fitsK] at h4
              omega
        · simp [cfgS, std] at h2
          omega
      · have hlt : l.length ≤ i := by simp [cfgS, std] at g1; omega
        (conv => whnf)
        rw [chkS, if_neg (by omega), hb, List.drop_eq_nil_of_le hlt]
        rfl
end Go.Aw
end

/-
  Crossing of both. No condition.
-/
set_option linter.unusedSimpArgs false
set_option linter.unusedVariables false
noncomputable section
namespace Go.Aw
set_option maxRecDepth 100000
def hitS (s t : Sg) : Bool := decide (meetS s t = 3) || decide (meetS s t = 4)
def scanK (l : List Sg) (i : Nat) : Nat → Nat → Option Nat
  | 0, _ => none
  | n + 1, k => if hitS (atS l i) (atS l k) = true then some k else scanK l i n (k + 1)
def scanI (l : List Sg) : Nat → Nat → Option (Nat × Nat)
  | 0, _ => none
  | n + 1, i => match scanK l i (l.length - (i + 1)) (i + 1) with
    | some k => some (i, k)
    | none => scanI l n (i + 1)
theorem scanK_hit {l : List Sg} {i k : Nat} (hk : k < l.length) (h : hitS (atS l i) (atS l k) = true) : scanK l i (l.length - k) k = some k := by
  rw [show l.length - k = (l.length - (k + 1)) + 1 by omega, scanK, if_pos h]
theorem scanK_miss {l : List Sg} {i k : Nat} (hk : k < l.length) (h : hitS (atS l i) (atS l k) = false) : scanK l i (l.length - k) k = scanK l i (l.length - (k + 1)) (k + 1) := by
  rw [show l.length - k = (l.length - (k + 1)) + 1 by omega, scanK, if_neg (by rw [h]; decide)]
theorem scanI_some {l : List Sg} {i k : Nat} (hi : i < l.length) (h : scanK l i (l.length - (i + 1)) (i + 1) = some k) : scanI l (l.length - i) i = some (i, k) := by
  rw [show l.length - i = (l.length - (i + 1)) + 1 by omega, scanI, h]
theorem scanI_miss {l : List Sg} {i n : Nat} (hi : i < l.length) (h : scanK l i (l.length - (i + 1)) (i + 1) = scanK l i 0 n) : scanI l (l.length - i) i = scanI l (l.length - (i + 1)) (i + 1) := by
  rw [show l.length - i = (l.length - (i + 1)) + 1 by omega, scanI, h]
  rfl
def crossR (l : List Sg) : Option (Nat × Nat) := if chkS l = 0 then scanI l l.length 0 else none
def cr1 (l : List Sg) : Int := match crossR l with | some p => p.1 | none => 0
def cr2 (l : List Sg) : Int := match crossR l with | some p => p.2 | none => 0
def crossV (l : List Sg) : Value := .tuple #[iv (cr1 l), iv (cr2 l), .bool (crossR l).isSome, iv (chkS l)]
theorem crossV_bad {l : List Sg} (h : chkS l ≠ 0) : crossV l = .tuple #[iv 0, iv 0, .bool false, iv (chkS l)] := by
  simp only [crossV, cr1, cr2, crossR, if_neg h, Option.isSome]
theorem crossV_none {l : List Sg} (h : chkS l = 0) (hb : scanI l l.length 0 = none) : crossV l = .tuple #[iv 0, iv 0, .bool false, iv 0] := by
  simp only [crossV, cr1, cr2, crossR, hb, h, if_true, Option.isSome]
theorem crossV_some {l : List Sg} (h : chkS l = 0) {i k : Nat} (hb : scanI l l.length 0 = some (i, k)) : crossV l = .tuple #[iv i, iv k, .bool true, iv 0] := by
  simp only [crossV, cr1, cr2, crossR, hb, h, if_true, Option.isSome]
theorem chkS_ok {l : List Sg} (h : chkS l = 0) : l.length ≤ 400 ∧ l.all rightG = true := by
  unfold chkS at h
  split at h
  · cases h
  · split at h
    · exact ⟨by omega, by assumption⟩
    · cases h
theorem all_atS {l : List Sg} (h : l.all rightG = true) {i : Nat} (hi : i < l.length) : rightG (atS l i) = true := by
  rw [atS_eq hi]
  exact List.all_eq_true.1 h _ (List.getElem_mem hi)
def SCross (l : List Sg) : List Value → Option (Bool × Value)
  | [] => some (decide (l.length ≤ 1000000000), crossV l)
  | _ => none
theorem SCross_inv {l : List Sg} {r : List Value} {v : Value} (hs : SCross l r = some (true, v)) : r = [] ∧ l.length ≤ 1000000000 ∧ v = crossV l := by
  unfold SCross at hs
  split at hs
  · injection hs with hs; injection hs with h1 h2; exact ⟨rfl, by simpa using h1, h2.symm⟩
  · cases hs
def rightT (s t : Sg) : Bool := rightG s && rightG t
/-- the reference's meet, of segments that are valid -/
def X72' : Nat × XF := (90, gX (s2 cS cS fun s t => (rightT s t, u8 (meetS s t))))
theorem x72' : XOK Go.Proofs.Tryz.prog X72'.1 X72'.2 := gX_weak x72 fun args v hs => by
  obtain ⟨x, y, rfl, e⟩ := s2_inv cS cS hs
  have e2 : rightT x y = true := congrArg Prod.fst e
  have e3 : u8 (meetS x y) = v := congrArg Prod.snd e
  simp only [rightT, Bool.and_eq_true] at e2
  subst e3
  have hw : (wideS x && wideS y) = true := by rw [rightG_wide e2.1, rightG_wide e2.2]; rfl
  show some (wideS x && wideS y, u8 (meetR x y)) = some _
  rw [meet_eq x y e2.1 e2.2, hw]

def eO38 (l : List Sg) (c : Nat) (j : Int) : List (Nat × Value) := [(0, .slice (some ⟨0, 0, none⟩) l.length c), (16, iv l.length), (17, iv j)]
def eI38 (l : List Sg) (c : Nat) (j k : Int) : List (Nat × Value) := [(0, .slice (some ⟨0, 0, none⟩) l.length c), (16, iv l.length), (17, iv j), (7, iv j), (8, iv k)]
def X38 : Nat × XF := (93, lX elS SCross)
theorem x38 : XOK Go.Proofs.Tryz.prog X38.1 X38.2 := lX_ok elS (body_calls (xl := [X86, X68]) (.cons x86 (.cons x68 .nil))) fun l r v hs => by
  obtain ⟨rfl, hlen, rfl⟩ := SCross_inv hs
  refine ⟨rfl, rfl, fun c => ?_⟩
  (conv => whnf)
  refine ⟨l, LsAt_own elS rfl, ?_⟩
  ((conv => whnf); refine bm (fun h0 => ?_) (fun h0 => ?_))
  · ((conv => whnf); refine bm (fun h1 => ?_) (fun h1 => ?_))
    · (conv => whnf)
      have hne : chkS l ≠ 0 := by simpa only [cA_eq, cA_notB, Bool.not_eq_true', decide_eq_false_iff_not] using h1
      rw [crossV_bad hne]
      rfl
    · have he : chkS l = 0 := by simpa only [cA_eq, cA_notB, Bool.not_eq_false', decide_eq_true_eq] using h1
      obtain ⟨hl4, hall⟩ := chkS_ok he
      (conv => whnf)
      refine ⟨fun n e h nx => ∃ (i : Nat) (j : Int), j = i ∧ i ≤ l.length ∧ n = l.length - i ∧ scanI l l.length 0 = scanI l (l.length - i) i ∧ e = eO38 l c j ∧ h = hS l ∧ nx = 1, ⟨l.length, ?_⟩, ?_⟩
      · refine Into_id (e0 := eO38 l c 0) (h0 := hS l) (n0 := 1) ⟨0, 0, rfl, Nat.zero_le _, rfl, rfl, rfl, rfl, rfl⟩ ?_ ?_ (Nat.le_refl _)
        · unfold eO38
          ((repeat' (refine List.forall_mem_cons.2 ⟨⟨rfl, ?_⟩, ?_⟩; (first | exact scT_g rfl | exact ⟨by decide, rfl⟩ | exact ⟨by decide, fun h => (by cases h)⟩))); exact fun _ h => (by cases h))
        · unfold hS
          ((repeat' (refine List.forall_mem_cons.2 ⟨⟨Nat.le_of_ble_eq_true rfl, _, rfl, ?_⟩, ?_⟩; (first | exact ObjRen_g (flat_g _ _) | exact ObjRen_j rfl rfl))); exact fun _ h => (by cases h))
      · rintro n e h nx ⟨i, j, hj, hi, rfl, hb, rfl, rfl, rfl⟩
        unfold eO38 hS
        ((conv => whnf); refine bm (fun g1 => ?_) (fun g1 => ?_))
        · have hlt : i < l.length := by simp [cfgS, std] at g1; omega
          ((conv => whnf); refine bm (fun g2 => ?_) (fun g2 => ?_))
          · (conv => whnf)
            refine ⟨fun n e h nx => ∃ (k : Nat) (m : Int), m = k ∧ i + 1 ≤ k ∧ k ≤ l.length ∧ n = l.length - k ∧ scanK l i (l.length - (i + 1)) (i + 1) = scanK l i (l.length - k) k ∧ e = eI38 l c j m ∧ h = hS l ∧ nx = 1, ⟨l.length - (i + 1), ?_⟩, ?_⟩
            · refine Into_id (e0 := eI38 l c j (j + 1)) (h0 := hS l) (n0 := 1) ⟨i + 1, j + 1, by omega, Nat.le_refl _, hlt, rfl, rfl, rfl, rfl, rfl⟩ ?_ ?_ (Nat.le_refl _)
              · unfold eI38
                ((repeat' (refine List.forall_mem_cons.2 ⟨⟨rfl, ?_⟩, ?_⟩; (first | exact scT_g rfl | exact ⟨by decide, rfl⟩ | exact ⟨by decide, fun h => (by cases h)⟩))); exact fun _ h => (by cases h))
              · unfold hS
                ((repeat' (refine List.forall_mem_cons.2 ⟨⟨Nat.le_of_ble_eq_true rfl, _, rfl, ?_⟩, ?_⟩; (first | exact ObjRen_g (flat_g _ _) | exact ObjRen_j rfl rfl))); exact fun _ h => (by cases h))
            · rintro n e h nx ⟨k, m, hm, hik, hk, rfl, hbk, rfl, rfl, rfl⟩
              unfold eI38 hS
              ((conv => whnf); refine bm (fun f1 => ?_) (fun f1 => ?_))
              · have hltk : k < l.length := by simp [cfgS, std] at f1; omega
                have ra : rightG (atS l i) = true := all_atS hall hlt
                have rb : rightG (atS l k) = true := all_atS hall hltk
                ((conv => whnf); refine bm (fun g3 => ?_) (fun g3 => ?_))
                · (conv => whnf)
                  refine boL (getS l hlt ?_) ?_
                  · simp [cfgS, std]; omega
                  ((conv => whnf); refine bm (fun g4 => ?_) (fun g4 => ?_))
                  · (conv => whnf)
                    refine boL (getS l hltk ?_) ?_
                    · simp [cfgS, std]; omega
                    repeat' ((conv => whnf); refine bm (fun g => ?_) (fun g => ?_))
                    all_goals (conv => whnf)
                    · simp only [cA_eq, cA_eqB, pEta, beq_iff_eq, beq_eq_false_iff_ne, ne_eq, Bool.not_eq_false, decide_eq_true_eq, decide_eq_false_iff_not] at *
                      subst hj hm
                      have hh : hitS (atS l i) (atS l k) = true := by simp only [hitS, g, decide_true, Bool.or_true, Bool.true_or]
                      rw [crossV_some he (i := i) (k := k) (by rw [hb]; exact scanI_some hlt (by rw [hbk]; exact scanK_hit hltk hh))]
                      rfl
                    · rename_i ga gb
                      simp only [cA_eq, cA_eqB, pEta, beq_iff_eq, beq_eq_false_iff_ne, ne_eq, decide_eq_true_eq, decide_eq_false_iff_not] at ga gb
                      have hh : hitS (atS l i) (atS l k) = false := by simp only [hitS, ga, gb, decide_false, Bool.or_false]
                      refine ⟨l.length - (k + 1), by omega, ?_⟩
                      refine Into_id (e0 := eI38 l c j (m + 1)) (h0 := hS l) (n0 := 1) ⟨k + 1, m + 1, by omega, by omega, hltk, rfl, ?_, rfl, rfl, rfl⟩ ?_ ?_ (Nat.le_refl _)
                      · rw [hbk]; exact scanK_miss hltk hh
                      · unfold eI38
                        ((repeat' (refine List.forall_mem_cons.2 ⟨⟨rfl, ?_⟩, ?_⟩; (first | exact scT_g rfl | exact ⟨by decide, rfl⟩ | exact ⟨by decide, fun h => (by cases h)⟩))); exact fun _ h => (by cases h))
                      · unfold hS
                        ((repeat' (refine List.forall_mem_cons.2 ⟨⟨Nat.le_of_ble_eq_true rfl, _, rfl, ?_⟩, ?_⟩; (first | exact ObjRen_g (flat_g _ _) | exact ObjRen_j rfl rfl))); exact fun _ h => (by cases h))
                    · exfalso; simp only [cA_add, cA_fits, fitsK, Bool.eq_false_iff, ne_eq, Bool.and_eq_true, decide_eq_true_eq] at g; omega
                    · simp only [cA_eq, cA_eqB, pEta, beq_iff_eq, beq_eq_false_iff_ne, ne_eq, Bool.not_eq_false, decide_eq_true_eq, decide_eq_false_iff_not] at *
                      subst hj hm
                      have g' : meetS (atS l i) (atS l k) = 3 := Decidable.not_not.1 g
                      have hh : hitS (atS l i) (atS l k) = true := by simp only [hitS, g', decide_true, Bool.or_true, Bool.true_or]
                      rw [crossV_some he (i := i) (k := k) (by rw [hb]; exact scanI_some hlt (by rw [hbk]; exact scanK_hit hltk hh))]
                      rfl
                    · exfalso
                      simp only [pEta] at g
                      simp [rightG_wide ra, rightG_wide rb, rightT, ra, rb] at g
                  · exfalso; simp only [cA_lt, cA_le, cA_andB, cA_num, Bool.eq_false_iff, ne_eq, Bool.and_eq_true, decide_eq_true_eq] at g4; omega
                · exfalso; simp only [cA_lt, cA_le, cA_andB, cA_num, Bool.eq_false_iff, ne_eq, Bool.and_eq_true, decide_eq_true_eq] at g3; omega
              · have hge : k = l.length := by simp [cfgS, std] at f1; omega
                subst hge
                rw [Nat.sub_self] at hbk
                ((conv => whnf); refine bm (fun g => ?_) (fun g => ?_))
                · (conv => whnf)
                  refine ⟨l.length - (i + 1), by omega, ?_⟩
                  refine Into_id (e0 := eO38 l c (j + 1)) (h0 := hS l) (n0 := 1) ⟨i + 1, j + 1, by omega, hlt, rfl, ?_, rfl, rfl, rfl⟩ ?_ ?_ (Nat.le_refl _)
                  · rw [hb]; exact scanI_miss hlt hbk
                  · unfold eO38
                    ((repeat' (refine List.forall_mem_cons.2 ⟨⟨rfl, ?_⟩, ?_⟩; (first | exact scT_g rfl | exact ⟨by decide, rfl⟩ | exact ⟨by decide, fun h => (by cases h)⟩))); exact fun _ h => (by cases h))
                  · unfold hS
                    ((repeat' (refine List.forall_mem_cons.2 ⟨⟨Nat.le_of_ble_eq_true rfl, _, rfl, ?_⟩, ?_⟩; (first | exact ObjRen_g (flat_g _ _) | exact ObjRen_j rfl rfl))); exact fun _ h => (by cases h))
                · exfalso; simp only [cA_add, cA_fits, fitsK, Bool.eq_false_iff, ne_eq, Bool.and_eq_true, decide_eq_true_eq] at g; omega
          · exfalso; simp only [cA_add, cA_fits, fitsK, Bool.eq_false_iff, ne_eq, Bool.and_eq_true, decide_eq_true_eq] at g2; omega
        · have hge : i = l.length := by simp [cfgS, std] at g1; omega
          subst hge
          rw [Nat.sub_self] at hb
          (conv => whnf)
          rw [crossV_none he hb]
          rfl
  · exact absurd hlen (by simpa using h0)

def eO39 (l : List Sg) (c : Nat) (j : Int) : List (Nat × Value) := [(0, .slice (some ⟨0, 0, none⟩) l.length c), (7, iv j)]
def eI39 (l : List Sg) (c : Nat) (j k : Int) : List (Nat × Value) := [(0, .slice (some ⟨0, 0, none⟩) l.length c), (7, iv j), (8, iv k)]
def X39 : Nat × XF := (99, lX elS SCross)
theorem x39 : XOK Go.Proofs.Tryz.prog X39.1 X39.2 := lX_ok elS (body_calls (xl := [X87, X72']) (.cons x87 (.cons x72' .nil))) fun l r v hs => by
  obtain ⟨rfl, hlen, rfl⟩ := SCross_inv hs
  refine ⟨rfl, rfl, fun c => ?_⟩
  (conv => whnf)
  refine ⟨l, LsAt_own elS rfl, ?_⟩
  ((conv => whnf); refine bm (fun h0 => ?_) (fun h0 => ?_))
  · ((conv => whnf); refine bm (fun h1 => ?_) (fun h1 => ?_))
    · (conv => whnf)
      have hne : chkS l ≠ 0 := by simpa only [cA_eq, cA_notB, Bool.not_eq_true', decide_eq_false_iff_not] using h1
      rw [crossV_bad hne]
      rfl
    · have he : chkS l = 0 := by simpa only [cA_eq, cA_notB, Bool.not_eq_false', decide_eq_true_eq] using h1
      obtain ⟨hl4, hall⟩ := chkS_ok he
      (conv => whnf)
      refine ⟨fun n e h nx => ∃ (i : Nat) (j : Int), j = i ∧ i ≤ l.length ∧ n = l.length - i ∧ scanI l l.length 0 = scanI l (l.length - i) i ∧ e = eO39 l c j ∧ h = hS l ∧ nx = 1, ⟨l.length, ?_⟩, ?_⟩
      · refine Into_id (e0 := eO39 l c 0) (h0 := hS l) (n0 := 1) ⟨0, 0, rfl, Nat.zero_le _, rfl, rfl, rfl, rfl, rfl⟩ ?_ ?_ (Nat.le_refl _)
        · unfold eO39
          ((repeat' (refine List.forall_mem_cons.2 ⟨⟨rfl, ?_⟩, ?_⟩; (first | exact scT_g rfl | exact ⟨by decide, rfl⟩ | exact ⟨by decide, fun h => (by cases h)⟩))); exact fun _ h => (by cases h))
        · unfold hS
          ((repeat' (refine List.forall_mem_cons.2 ⟨⟨Nat.le_of_ble_eq_true rfl, _, rfl, ?_⟩, ?_⟩; (first | exact ObjRen_g (flat_g _ _) | exact ObjRen_j rfl rfl))); exact fun _ h => (by cases h))
      · rintro n e h nx ⟨i, j, hj, hi, rfl, hb, rfl, rfl, rfl⟩
        unfold eO39 hS
        ((conv => whnf); refine bm (fun g1 => ?_) (fun g1 => ?_))
        · have hlt : i < l.length := by simp [cfgS, std] at g1; omega
          ((conv => whnf); refine bm (fun g2 => ?_) (fun g2 => ?_))
          · (conv => whnf)
            refine ⟨fun n e h nx => ∃ (k : Nat) (m : Int), m = k ∧ i + 1 ≤ k ∧ k ≤ l.length ∧ n = l.length - k ∧ scanK l i (l.length - (i + 1)) (i + 1) = scanK l i (l.length - k) k ∧ e = eI39 l c j m ∧ h = hS l ∧ nx = 1, ⟨l.length - (i + 1), ?_⟩, ?_⟩
            · refine Into_id (e0 := eI39 l c j (j + 1)) (h0 := hS l) (n0 := 1) ⟨i + 1, j + 1, by omega, Nat.le_refl _, hlt, rfl, rfl, rfl, rfl, rfl⟩ ?_ ?_ (Nat.le_refl _)
              · unfold eI39
                ((repeat' (refine List.forall_mem_cons.2 ⟨⟨rfl, ?_⟩, ?_⟩; (first | exact scT_g rfl | exact ⟨by decide, rfl⟩ | exact ⟨by decide, fun h => (by cases h)⟩))); exact fun _ h => (by cases h))
              · unfold hS
                ((repeat' (refine List.forall_mem_cons.2 ⟨⟨Nat.le_of_ble_eq_true rfl, _, rfl, ?_⟩, ?_⟩; (first | exact ObjRen_g (flat_g _ _) | exact ObjRen_j rfl rfl))); exact fun _ h => (by cases h))
            · rintro n e h nx ⟨k, m, hm, hik, hk, rfl, hbk, rfl, rfl, rfl⟩
              unfold eI39 hS
              ((conv => whnf); refine bm (fun f1 => ?_) (fun f1 => ?_))
              · have hltk : k < l.length := by simp [cfgS, std] at f1; omega
                have ra : rightG (atS l i) = true := all_atS hall hlt
                have rb : rightG (atS l k) = true := all_atS hall hltk
                ((conv => whnf); refine bm (fun g3 => ?_) (fun g3 => ?_))
                · (conv => whnf)
                  refine boL (getS l hlt ?_) ?_
                  · simp [cfgS, std]; omega
                  ((conv => whnf); refine bm (fun g4 => ?_) (fun g4 => ?_))
                  · (conv => whnf)
                    refine boL (getS l hltk ?_) ?_
                    · simp [cfgS, std]; omega
                    repeat' ((conv => whnf); refine bm (fun g => ?_) (fun g => ?_))
                    all_goals (conv => whnf)
                    · simp only [cA_eq, cA_eqB, pEta, beq_iff_eq, beq_eq_false_iff_ne, ne_eq, Bool.not_eq_false, decide_eq_true_eq, decide_eq_false_iff_not] at *
                      subst hj hm
                      have hh : hitS (atS l i) (atS l k) = true := by simp only [hitS, g, decide_true, Bool.or_true, Bool.true_or]
                      rw [crossV_some he (i := i) (k := k) (by rw [hb]; exact scanI_some hlt (by rw [hbk]; exact scanK_hit hltk hh))]
                      rfl
                    · rename_i ga gb
                      simp only [cA_eq, cA_eqB, pEta, beq_iff_eq, beq_eq_false_iff_ne, ne_eq, decide_eq_true_eq, decide_eq_false_iff_not] at ga gb
                      have hh : hitS (atS l i) (atS l k) = false := by simp only [hitS, ga, gb, decide_false, Bool.or_false]
                      refine ⟨l.length - (k + 1), by omega, ?_⟩
                      refine Into_id (e0 := eI39 l c j (m + 1)) (h0 := hS l) (n0 := 1) ⟨k + 1, m + 1, by omega, by omega, hltk, rfl, ?_, rfl, rfl, rfl⟩ ?_ ?_ (Nat.le_refl _)
                      · rw [hbk]; exact scanK_miss hltk hh
                      · unfold eI39
                        ((repeat' (refine List.forall_mem_cons.2 ⟨⟨rfl, ?_⟩, ?_⟩; (first | exact scT_g rfl | exact ⟨by decide, rfl⟩ | exact ⟨by decide, fun h => (by cases h)⟩))); exact fun _ h => (by cases h))
                      · unfold hS
                        ((repeat' (refine List.forall_mem_cons.2 ⟨⟨Nat.le_of_ble_eq_true rfl, _, rfl, ?_⟩, ?_⟩; (first | exact ObjRen_g (flat_g _ _) | exact ObjRen_j rfl rfl))); exact fun _ h => (by cases h))
                    · exfalso; simp only [cA_add, cA_fits, fitsK, Bool.eq_false_iff, ne_eq, Bool.and_eq_true, decide_eq_true_eq] at g; omega
                    · simp only [cA_eq, cA_eqB, pEta, beq_iff_eq, beq_eq_false_iff_ne, ne_eq, Bool.not_eq_false, decide_eq_true_eq, decide_eq_false_iff_not] at *
                      subst hj hm
                      have g' : meetS (atS l i) (atS l k) = 3 := Decidable.not_not.1 g
                      have hh : hitS (atS l i) (atS l k) = true := by simp only [hitS, g', decide_true, Bool.or_true, Bool.true_or]
                      rw [crossV_some he (i := i) (k := k) (by rw [hb]; exact scanI_some hlt (by rw [hbk]; exact scanK_hit hltk hh))]
                      rfl
                    · exfalso
                      simp only [pEta] at g
                      simp [rightG_wide ra, rightG_wide rb, rightT, ra, rb] at g
                  · exfalso; simp only [cA_lt, cA_le, cA_andB, cA_num, Bool.eq_false_iff, ne_eq, Bool.and_eq_true, decide_eq_true_eq] at g4; omega
                · exfalso; simp only [cA_lt, cA_le, cA_andB, cA_num, Bool.eq_false_iff, ne_eq, Bool.and_eq_true, decide_eq_true_eq] at g3; omega
              · have hge : k = l.length := by simp [cfgS, std] at f1; omega
                subst hge
                rw [Nat.sub_self] at hbk
                ((conv => whnf); refine bm (fun g => ?_) (fun g => ?_))
                · (conv => whnf)
                  refine ⟨l.length - (i + 1), by omega, ?_⟩
                  refine Into_id (e0 := eO39 l c (j + 1)) (h0 := hS l) (n0 := 1) ⟨i + 1, j + 1, by omega, hlt, rfl, ?_, rfl, rfl, rfl⟩ ?_ ?_ (Nat.le_refl _)
                  · rw [hb]; exact scanI_miss hlt hbk
                  · unfold eO39
                    ((repeat' (refine List.forall_mem_cons.2 ⟨⟨rfl, ?_⟩, ?_⟩; (first | exact scT_g rfl | exact ⟨by decide, rfl⟩ | exact ⟨by decide, fun h => (by cases h)⟩))); exact fun _ h => (by cases h))
                  · unfold hS
                    ((repeat' (refine List.forall_mem_cons.2 ⟨⟨Nat.le_of_ble_eq_true rfl, _, rfl, ?_⟩, ?_⟩; (first | exact ObjRen_g (flat_g _ _) | exact ObjRen_j rfl rfl))); exact fun _ h => (by cases h))
                · exfalso; simp only [cA_add, cA_fits, fitsK, Bool.eq_false_iff, ne_eq, Bool.and_eq_true, decide_eq_true_eq] at g; omega
          · exfalso; simp only [cA_add, cA_fits, fitsK, Bool.eq_false_iff, ne_eq, Bool.and_eq_true, decide_eq_true_eq] at g2; omega
        · have hge : i = l.length := by simp [cfgS, std] at g1; omega
          subst hge
          rw [Nat.sub_self] at hb
          (conv => whnf)
          rw [crossV_none he hb]
          rfl
  · exact absurd hlen (by simpa using h0)

end Go.Aw
end
