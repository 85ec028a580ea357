/-
  Parts of the proof, put together. No condition.
-/
import Derived.Test.YtmkcjbpekejgdaaGreatSe99
/-
  Hulls: plain laws of the chain of corners. No condition.
-/
set_option linter.unusedSimpArgs false
set_option linter.unusedVariables false
noncomputable section
namespace Go.Aw
def ph (s : Int) (p : Int × Int) : Int := s * key p
theorem cross_id (s : Int) (a b c d : Int × Int) : crossI a b d * (ph s c - ph s a) = crossI a b c * (ph s d - ph s a) + crossI a c d * (ph s b - ph s a) := by
  unfold crossI ph key
  grind
theorem cross_mid (s : Int) (a b c d : Int × Int) : crossI a b d * (ph s c - ph s b) = crossI a b c * (ph s d - ph s b) + crossI b c d * (ph s b - ph s a) := by
  unfold crossI ph key
  grind
theorem cross_end (a b : Int × Int) : crossI a b b = 0 := by
  unfold crossI
  grind
theorem cross_back (a b : Int × Int) : crossI a b a = 0 := by
  unfold crossI
  grind
theorem crossN (a b c : Int × Int) : crossI a c b = - crossI a b c := by
  unfold crossI
  grind
theorem mul_pp {a b : Int} (ha : 0 < a) (hb : 0 < b) : 0 < a * b := Int.mul_pos ha hb
theorem mul_nn {a b : Int} (ha : 0 ≤ a) (hb : 0 ≤ b) : 0 ≤ a * b := Int.mul_nonneg ha hb
theorem pos_of {a b : Int} (hb : 0 < b) (h : 0 < a * b) : 0 < a := Int.pos_of_mul_pos_left h hb
theorem nn_of {a b : Int} (hb : 0 < b) (h : 0 ≤ a * b) : 0 ≤ a := by
  rcases Int.lt_or_le a 0 with h1 | h1
  · have := Int.mul_neg_of_neg_of_pos h1 hb
    omega
  · exact h1
def Gd (s : Int) (R : List (Int × Int)) (a b : Int × Int) : Prop := ph s a < ph s b ∧ ∀ r ∈ R, 0 < crossI a b r ∨ (crossI a b r = 0 ∧ ph s a ≤ ph s r ∧ ph s r ≤ ph s b)
def Hd3 (a b : Int × Int) : List (Int × Int) → Prop
  | [] => True
  | c :: _ => 0 < crossI c a b
def Chn (s : Int) (R : List (Int × Int)) : List (Int × Int) → Prop
  | [] => True
  | [_] => True
  | b :: a :: t => Gd s R a b ∧ Hd3 a b t ∧ Chn s R (a :: t)
def popL (p : Int × Int) : List (Int × Int) → List (Int × Int)
  | [] => []
  | [b] => [b]
  | b :: a :: t => if crossI a b p ≤ 0 then popL p (a :: t) else b :: a :: t
theorem Gd_app {s : Int} {R : List (Int × Int)} {a b p : Int × Int} (h : Gd s R a b) (hp : 0 < crossI a b p ∨ (crossI a b p = 0 ∧ ph s a ≤ ph s p ∧ ph s p ≤ ph s b)) : Gd s (R ++ [p]) a b :=
  ⟨h.1, fun r hr => by
    rcases List.mem_append.1 hr with hr | hr
    · exact h.2 r hr
    · rw [List.mem_singleton.1 hr]; exact hp⟩
theorem Chn_app {s : Int} {R : List (Int × Int)} {p : Int × Int} : ∀ (t : List (Int × Int)) (b a : Int × Int), Chn s R (b :: a :: t) → 0 < crossI a b p → ph s b < ph s p → Chn s (R ++ [p]) (b :: a :: t)
  | [], b, a, h, hc, hp => ⟨Gd_app h.1 (.inl hc), trivial, trivial⟩
  | c :: t, b, a, h, hc, hp => by
    obtain ⟨h1, h2, h3⟩ := h
    have h2' : 0 < crossI c a b := h2
    have hca : ph s c < ph s a := h3.1.1
    have hab : ph s a < ph s b := h1.1
    refine ⟨Gd_app h1 (.inl hc), h2, Chn_app t a c h3 ?_ (by omega)⟩
    have e := cross_mid s c a b p
    have m1 := mul_pp h2' (show 0 < ph s p - ph s a by omega)
    have m2 := mul_pp hc (show 0 < ph s a - ph s c by omega)
    exact pos_of (show 0 < ph s b - ph s a by omega) (by omega)
theorem pop_chn {s : Int} {R : List (Int × Int)} {p z : Int × Int} (hp : ∀ r ∈ R, ph s r < ph s p) (hz : ∀ r ∈ R, r = z ∨ ph s z < ph s r) :
    ∀ (t : List (Int × Int)) (b : Int × Int), Chn s R (b :: t) → (b :: t).getLast? = some z → (∀ x ∈ b :: t, x ∈ R) → (∀ r ∈ R, ph s b < ph s r → 0 ≤ crossI b p r) →
      Chn s (R ++ [p]) (p :: popL p (b :: t)) ∧ (p :: popL p (b :: t)).getLast? = some z ∧ ∀ x ∈ popL p (b :: t), x ∈ R
  | [], b, h, hl, hm, hu => by
    have hbz : b = z := by simpa using hl
    have hb := hm b (List.mem_cons_self ..)
    refine ⟨⟨⟨hp b hb, fun r hr => ?_⟩, trivial, trivial⟩, hl, hm⟩
    rcases List.mem_append.1 hr with hr | hr
    · rcases hz r hr with e | e
      · have e2 : r = b := by rw [e, hbz]
        rw [e2]
        exact .inr ⟨cross_back .., Int.le_refl _, Int.le_of_lt (hp b hb)⟩
      · rw [← hbz] at e
        have := hu r hr e
        have := hp r hr
        omega
    · rw [List.mem_singleton.1 hr]
      have := hp b hb
      exact .inr ⟨cross_end .., by omega, by omega⟩
  | a :: t, b, h, hl, hm, hu => by
    obtain ⟨h1, h2, h3⟩ := h
    have hb := hm b (List.mem_cons_self ..)
    have ha := hm a (List.mem_cons_of_mem _ (List.mem_cons_self ..))
    have hpb := hp b hb
    have hab := h1.1
    show Chn s (R ++ [p]) (p :: (if crossI a b p ≤ 0 then popL p (a :: t) else b :: a :: t)) ∧ (p :: (if crossI a b p ≤ 0 then popL p (a :: t) else b :: a :: t)).getLast? = some z ∧ ∀ x ∈ (if crossI a b p ≤ 0 then popL p (a :: t) else b :: a :: t), x ∈ R
    by_cases hc : crossI a b p ≤ 0
    · rw [if_pos hc]
      refine pop_chn hp hz t a h3 (by simpa using hl) (fun x hx => hm x (List.mem_cons_of_mem _ hx)) fun r hr hra => ?_
      have hpr := hp r hr
      have g : 0 ≤ crossI a b r := by rcases h1.2 r hr with g | g <;> omega
      have e := cross_id s a b p r
      have m1 := mul_nn g (show 0 ≤ ph s p - ph s a by omega)
      have m2 := mul_nn (show 0 ≤ - crossI a b p by omega) (show 0 ≤ ph s r - ph s a by omega)
      rw [Int.neg_mul] at m2
      exact nn_of (show 0 < ph s b - ph s a by omega) (by omega)
    · rw [if_neg hc]
      refine ⟨⟨⟨hpb, fun r hr => ?_⟩, show 0 < crossI a b p by omega, Chn_app t b a ⟨h1, h2, h3⟩ (by omega) hpb⟩, by simpa using hl, hm⟩
      rcases List.mem_append.1 hr with hr | hr
      · have hpr := hp r hr
        have g : 0 ≤ crossI a b r := by rcases h1.2 r hr with g | g <;> omega
        rcases Int.lt_or_le (ph s b) (ph s r) with e | e
        · have := hu r hr e
          omega
        · have e2 := cross_mid s a b p r
          have m1 := mul_nn g (show 0 ≤ ph s p - ph s b by omega)
          rcases Int.lt_or_le (ph s r) (ph s b) with e3 | e3
          · have m2 := mul_pp (show 0 < crossI a b p by omega) (show 0 < ph s b - ph s r by omega)
            have m3 : crossI a b p * (ph s b - ph s r) = - (crossI a b p * (ph s r - ph s b)) := by rw [← Int.mul_neg]; congr 1; omega
            exact .inl (pos_of (show 0 < ph s b - ph s a by omega) (by omega))
          · have m2 : crossI a b p * (ph s r - ph s b) = 0 := by rw [show ph s r - ph s b = 0 by omega, Int.mul_zero]
            have := nn_of (a := crossI b p r) (show 0 < ph s b - ph s a by omega) (by omega)
            omega
      · rw [List.mem_singleton.1 hr]
        exact .inr ⟨cross_end .., by omega, by omega⟩
def stK (D : List (Int × Int)) : Nat → List (Int × Int)
  | 0 => []
  | k + 1 => at2 D k :: popL (at2 D k) (stK D k)
def Inc (s : Int) (D : List (Int × Int)) : Prop := ∀ i j, i < j → j < D.length → ph s (at2 D i) < ph s (at2 D j)
theorem mem_take {D : List (Int × Int)} {k : Nat} {r : Int × Int} (hk : k ≤ D.length) : r ∈ D.take k ↔ ∃ i, i < k ∧ r = at2 D i := by
  constructor
  · intro h
    obtain ⟨i, hi, e⟩ := List.mem_iff_getElem.1 h
    rw [List.length_take] at hi
    refine ⟨i, by omega, ?_⟩
    rw [at2_eq (by omega), ← e, List.getElem_take]
  · rintro ⟨i, hi, rfl⟩
    refine List.mem_iff_getElem.2 ⟨i, by rw [List.length_take]; omega, ?_⟩
    rw [List.getElem_take, at2_eq (by omega)]
theorem take_snoc {D : List (Int × Int)} {k : Nat} (hk : k < D.length) : D.take (k + 1) = D.take k ++ [at2 D k] := by
  rw [at2_eq hk, List.take_append_getElem]
theorem stK_chn {s : Int} {D : List (Int × Int)} (hD : Inc s D) : ∀ k, k < D.length → Chn s (D.take (k + 1)) (stK D (k + 1)) ∧ (stK D (k + 1)).getLast? = some (at2 D 0) ∧ ∀ x ∈ stK D (k + 1), x ∈ D.take (k + 1)
  | 0, h => ⟨trivial, rfl, fun x hx => by
      rw [take_snoc h]
      rw [show stK D (0 + 1) = [at2 D 0] from rfl] at hx
      rw [List.mem_singleton.1 hx]
      simp⟩
  | k + 1, h => by
    obtain ⟨h1, h2, h3⟩ := stK_chn hD k (by omega)
    have hp : ∀ r ∈ D.take (k + 1), ph s r < ph s (at2 D (k + 1)) := fun r hr => by
      obtain ⟨i, hi, rfl⟩ := (mem_take (by omega)).1 hr
      exact hD i (k + 1) (by omega) h
    have hz : ∀ r ∈ D.take (k + 1), r = at2 D 0 ∨ ph s (at2 D 0) < ph s r := fun r hr => by
      obtain ⟨i, hi, rfl⟩ := (mem_take (by omega)).1 hr
      by_cases h0 : i = 0
      · left; rw [h0]
      · right; exact hD 0 i (by omega) (by omega)
    have key := pop_chn (p := at2 D (k + 1)) hp hz (popL (at2 D k) (stK D k)) (at2 D k) h1 h2 h3 fun r hr hlt => by
      exfalso
      obtain ⟨i, hi, rfl⟩ := (mem_take (by omega)).1 hr
      by_cases e : i = k
      · subst e; omega
      · have := hD i k (by omega) (by omega)
        omega
    rw [← take_snoc h] at key
    refine ⟨key.1, key.2.1, fun x hx => ?_⟩
    rcases List.mem_cons.1 hx with hx | hx
    · rw [hx]
      exact (mem_take (by omega)).2 ⟨k + 1, by omega, rfl⟩
    · obtain ⟨i, hi, rfl⟩ := (mem_take (by omega)).1 (key.2.2 x hx)
      exact (mem_take (by omega)).2 ⟨i, by omega, rfl⟩
theorem Chn_at {s : Int} {R : List (Int × Int)} : ∀ {st : List (Int × Int)} {i : Nat}, Chn s R st → i + 1 < st.length → Gd s R (at2 st (i + 1)) (at2 st i)
  | b :: a :: t, 0, h, hi => h.1
  | b :: a :: t, i + 1, h, hi => Chn_at (st := a :: t) (i := i) h.2.2 (by simpa using hi)
theorem Chn_lt {s : Int} {R st : List (Int × Int)} (h : Chn s R st) {i : Nat} : ∀ {j : Nat}, i < j → j < st.length → ph s (at2 st j) < ph s (at2 st i)
  | 0, hj, _ => by omega
  | j + 1, hij, hj => by
    have h1 := (Chn_at h hj).1
    by_cases e : i = j
    · rw [e]; exact h1
    · have := Chn_lt h (i := i) (j := j) (by omega) (by omega)
      omega
end Go.Aw
end

/-
  Hulls: the next corner. No condition.
-/
set_option linter.unusedSimpArgs false
set_option linter.unusedVariables false
noncomputable section
namespace Go.Aw
theorem turn_le {a b c : Int × Int} : turnS a b c ≤ 0 ↔ crossI a b c ≤ 0 := by
  unfold turnS sgn
  constructor
  · intro h; split at h <;> (try split at h) <;> omega
  · intro h; split <;> (try split) <;> omega
theorem at2_rv {l : List (Int × Int)} {i : Nat} (h : i < l.length) : at2 l.reverse i = at2 l (l.length - 1 - i) := by
  rw [at2_eq (by rw [List.length_reverse]; exact h), at2_eq (by omega), List.getElem_reverse]
theorem popL_short {p : Int × Int} : ∀ {st : List (Int × Int)}, st.length ≤ 1 → popL p st = st
  | [], _ => rfl
  | [_], _ => rfl
  | _ :: _ :: _, h => by simp only [List.length_cons] at h; omega
theorem take_rev {F : List (Int × Int)} {n : Nat} (h : n + 2 ≤ F.length) : (F.take (n + 2)).reverse = at2 F (n + 1) :: at2 F n :: (F.take n).reverse := by
  rw [take_snoc (by omega), take_snoc (by omega)]
  simp
theorem pop_is {F : List (Int × Int)} {p : Int × Int} : ∀ n, n ≤ F.length → (F.take (popN F p n)).reverse = popL p (F.take n).reverse
  | 0, _ => by unfold popN; rw [List.take_zero]; rfl
  | 1, h => by
    unfold popN
    rw [if_neg (fun h => Nat.not_succ_le_zero _ h.1), popL_short (by rw [List.length_reverse, List.length_take]; omega)]
  | n + 2, h => by
    rw [take_rev h]
    unfold popN popL
    rw [Nat.add_sub_cancel]
    by_cases hc : crossI (at2 F n) (at2 F (n + 1)) p ≤ 0
    · rw [if_pos ⟨by omega, turn_le.2 hc⟩, if_pos hc, pop_is (n + 1) (by omega), take_snoc (by omega)]
      simp
    · rw [if_neg (fun h => hc (turn_le.1 h.2)), if_neg hc, take_rev h]
theorem half_stK (D : List (Int × Int)) : ∀ k, k ≤ D.length → (halfS D k).2 ≤ (halfS D k).1.length ∧ ((halfS D k).1.take (halfS D k).2).reverse = stK D k
  | 0, _ => ⟨Nat.le_refl _, rfl⟩
  | k + 1, hk => by
    obtain ⟨h1, h2⟩ := half_stK D k (by omega)
    obtain ⟨F, m, e⟩ : ∃ F m, halfS D k = (F, m) := ⟨_, _, rfl⟩
    rw [e] at h1 h2
    simp only at h1 h2
    rw [halfS_succ e]
    have hp := popN_le F (at2 D k) m
    have hl := pushI_len (F := F) (m := popN F (at2 D k) m) (at2 D k) (by omega)
    simp only
    refine ⟨by rw [hl]; split <;> omega, ?_⟩
    have e1 : (pushI F (popN F (at2 D k) m) (at2 D k)).take (popN F (at2 D k) m + 1) = F.take (popN F (at2 D k) m) ++ [at2 D k] := by
      unfold pushI
      refine List.take_left' ?_
      rw [List.length_append, List.length_take]
      simp only [List.length_cons, List.length_nil]
      omega
    rw [e1, List.reverse_append, pop_is m h1, h2]
    rfl
theorem lowI_eq (D : List (Int × Int)) : lowI D = (stK D D.length).tail.reverse := by
  obtain ⟨h1, h2⟩ := half_stK D D.length (Nat.le_refl _)
  unfold lowI
  rw [← h2, ← List.dropLast_reverse, List.reverse_reverse, List.dropLast_eq_take, List.take_take, List.length_take, Nat.min_eq_left h1, Nat.min_eq_left (Nat.sub_le _ _)]
theorem less_lex {p q : Int × Int} : lessB p q = true ↔ (p.1 < q.1 ∨ (p.1 = q.1 ∧ p.2 < q.2)) := by
  unfold lessB
  simp
theorem ded_less {S : List (Int × Int)} (hs : ∀ i j, i < j → j < S.length → lessB (at2 S j) (at2 S i) = false) : ∀ p, p ≤ S.length → 
    (∀ x ∈ ddI S p, ∃ i, i < p ∧ x = at2 S i) ∧ (∀ i, i < p → at2 S i ∈ ddI S p) ∧ (0 < p → (ddI S p).getLast? = some (at2 S (p - 1))) ∧ (ddI S p).Pairwise (fun a b => lessB a b = true)
  | 0, _ => ⟨fun x hx => absurd hx List.not_mem_nil, fun i hi => absurd hi (Nat.not_lt_zero _), fun h => absurd h (Nat.lt_irrefl _), List.Pairwise.nil⟩
  | p + 1, hp => by
    obtain ⟨h1, h2, h3, h4⟩ := ded_less hs p (by omega)
    by_cases h0 : p = 0
    · subst h0
      have e : ddI S (0 + 1) = [at2 S 0] := rfl
      rw [e]
      exact ⟨fun x hx => ⟨0, by omega, List.mem_singleton.1 hx⟩, fun i hi => by rw [show i = 0 by omega]; exact List.mem_singleton.2 rfl, fun _ => rfl, List.pairwise_singleton ..⟩
    · cases he : eqP (at2 S p) (at2 S (p - 1)) with
      | false =>
        rw [ddI_yes he]
        refine ⟨fun x hx => ?_, fun i hi => ?_, fun _ => by simp, ?_⟩
        · rcases List.mem_append.1 hx with hx | hx
          · obtain ⟨i, hi, e⟩ := h1 x hx
            exact ⟨i, by omega, e⟩
          · exact ⟨p, by omega, List.mem_singleton.1 hx⟩
        · by_cases e : i = p
          · rw [e]; simp
          · exact List.mem_append.2 (.inl (h2 i (by omega)))
        · rw [List.pairwise_append]
          refine ⟨h4, List.pairwise_singleton .., fun a ha b hb => ?_⟩
          rw [List.mem_singleton.1 hb]
          obtain ⟨i, hi, rfl⟩ := h1 a ha
          have g1 := hs (p - 1) p (by omega) (by omega)
          have g2 : i = p - 1 ∨ lessB (at2 S (p - 1)) (at2 S i) = false := by
            by_cases e : i = p - 1
            · exact .inl e
            · exact .inr (hs i (p - 1) (by omega) (by omega))
          have g3 : ¬ ((at2 S p).1 = (at2 S (p - 1)).1 ∧ (at2 S p).2 = (at2 S (p - 1)).2) := by
            intro h
            unfold eqP at he
            simp [h.1, h.2] at he
          rw [← Bool.not_eq_true, less_lex] at g1
          rw [less_lex]
          rcases g2 with e | g2
          · rw [e]; omega
          · rw [← Bool.not_eq_true, less_lex] at g2
            omega
      | true =>
        have e2 : at2 S p = at2 S (p - 1) := (eqP_iff _ _).1 he
        rw [ddI_no (by omega) he]
        refine ⟨fun x hx => ?_, fun i hi => ?_, fun _ => ?_, h4⟩
        · obtain ⟨i, hi, e⟩ := h1 x hx
          exact ⟨i, by omega, e⟩
        · by_cases e : i = p
          · rw [e, e2]; exact h2 (p - 1) (by omega)
          · exact h2 i (by omega)
        · rw [h3 (by omega), Nat.add_sub_cancel, e2]
theorem sort_less {l : List (Int × Int)} : ∀ i j, i < j → j < (sortI l).length → lessB (at2 (sortI l) j) (at2 (sortI l) i) = false := by
  intro i j hij hj
  rw [sortI_len] at hj
  have := sortI_sorted l hij hj
  rw [lt_ord] at this
  rw [← Bool.not_eq_true, less_lex]
  exact of_decide_eq_false this
theorem ded_mem {l : List (Int × Int)} {x : Int × Int} : x ∈ dedI l ↔ x ∈ l := by
  obtain ⟨h1, h2, -, -⟩ := ded_less (S := sortI l) sort_less (sortI l).length (Nat.le_refl _)
  constructor
  · intro h
    obtain ⟨i, hi, rfl⟩ := h1 x h
    rw [at2_eq hi]
    exact (sortI_perm l).mem_iff.1 (List.getElem_mem _)
  · intro h
    obtain ⟨i, hi, e⟩ := List.mem_iff_getElem.1 ((sortI_perm l).mem_iff.2 h)
    have := h2 i hi
    rw [at2_eq hi, e] at this
    exact this
theorem ded_inc {l : List (Int × Int)} (hr : l.all rightS = true) : Inc 1 (dedI l) := by
  obtain ⟨-, -, -, h4⟩ := ded_less (S := sortI l) sort_less (sortI l).length (Nat.le_refl _)
  have hd := dedI_right hr
  intro i j hij hj
  have h := List.pairwise_iff_getElem.1 h4 i j (by unfold dedI at hj; omega) hj hij
  have e1 : (ddI (sortI l) (sortI l).length)[i]'(by unfold dedI at hj; omega) = at2 (dedI l) i := (at2_eq (l := dedI l) (by omega)).symm
  have e2 : (ddI (sortI l) (sortI l).length)[j]'hj = at2 (dedI l) j := (at2_eq (l := dedI l) hj).symm
  rw [e1, e2, less_key (all_at hd (by omega)) (all_at hd hj)] at h
  have := of_decide_eq_true h
  unfold ph
  omega
theorem inc_rev {D : List (Int × Int)} (h : Inc 1 D) : Inc (-1) D.reverse := by
  intro i j hij hj
  rw [List.length_reverse] at hj
  rw [at2_rv (by omega), at2_rv hj]
  have := h (D.length - 1 - j) (D.length - 1 - i) (by omega) (by omega)
  unfold ph at *
  omega
end Go.Aw
end
