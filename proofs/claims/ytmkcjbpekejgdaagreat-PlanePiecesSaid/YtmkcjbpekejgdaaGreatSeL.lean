/-
  Parts of the proof, put together. No condition.
-/
import Derived.Test.YtmkcjbpekejgdaaGreatSe99
/-
  Hulls: plain laws of the chain of corners. No condition.
-/
set_option linter.unusedSimpArgs false
set_option linter.unusedVariables false
noncomputable section
namespace Go.Aw
def ph (s : Int) (p : Int × Int) : Int := s * key p
theorem cross_id (s : Int) (a b c d : Int × Int) : crossI a b d * (ph s c - ph s a) = crossI a b c * (ph s d - ph s a) + crossI a c d * (ph s b - ph s a) := by
  unfold crossI ph key
  grind
theorem cross_mid (s : Int) (a b c d : Int × Int) : crossI a b d * (ph s c - ph s b) = crossI a b c * (ph s d - ph s b) + crossI b c d * (ph s b - ph s a) := by
  unfold crossI ph key
  grind
theorem cross_end (a b : Int × Int) : crossI a b b = 0 := by
  unfold crossI
  grind
theorem cross_back (a b : Int × Int) : crossI a b a = 0 := by
  unfold crossI
  grind
theorem crossN (a b c : Int × Int) : crossI a c b = - crossI a b c := by
  unfold crossI
  grind
theorem mul_pp {a b : Int} (ha : 0 < a) (hb : 0 < b) : 0 < a * b := Int.mul_pos ha hb
theorem mul_nn {a b : Int} (ha : 0 ≤ a) (hb : 0 ≤ b) : 0 ≤ a * b := Int.mul_nonneg ha hb
theorem pos_of {a b : Int} (hb : 0 < b) (h : 0 < a * b) : 0 < a := Int.pos_of_mul_pos_left h hb
theorem nn_of {a b : Int} (hb : 0 < b) (h : 0 ≤ a * b) : 0 ≤ a := by
  rcases Int.lt_or_le a 0 with h1 | h1
  · have := Int.mul_neg_of_neg_of_pos h1 hb
    omega
  · exact h1
def Gd (s : Int) (R : List (Int × Int)) (a b : Int × Int) : Prop := ph s a < ph s b ∧ ∀ r ∈ R, 0 < crossI a b r ∨ (crossI a b r = 0 ∧ ph s a ≤ ph s r ∧ ph s r ≤ ph s b)
def Hd3 (a b : Int × Int) : List (Int × Int) → Prop
  | [] => True
  | c :: _ => 0 < crossI c a b
def Chn (s : Int) (R : List (Int × Int)) : List (Int × Int) → Prop
  | [] => True
  | [_] => True
  | b :: a :: t => Gd s R a b ∧ Hd3 a b t ∧ Chn s R (a :: t)
def popL (p : Int × Int) : List (Int × Int) → List (Int × Int)
  | [] => []
  | [b] => [b]
  | b :: a :: t => if crossI a b p ≤ 0 then popL p (a :: t) else b :: a :: t
theorem Gd_app {s : Int} {R : List (Int × Int)} {a b p : Int × Int} (h : Gd s R a b) (hp : 0 < crossI a b p ∨ (crossI a b p = 0 ∧ ph s a ≤ ph s p ∧ ph s p ≤ ph s b)) : Gd s (R ++ [p]) a b :=
  ⟨h.1, fun r hr => by
    rcases List.mem_append.1 hr with hr | hr
    · exact h.2 r hr
    · rw [List.mem_singleton.1 hr]; exact hp⟩
theorem Chn_app {s : Int} {R : List (Int × Int)} {p : Int × Int} : ∀ (t : List (Int × Int)) (b a : Int × Int), Chn s R (b :: a :: t) → 0 < crossI a b p → ph s b < ph s p → Chn s (R ++ [p]) (b :: a :: t)
  | [], b, a, h, hc, hp => ⟨Gd_app h.1 (.inl hc), trivial, trivial⟩
  | c :: t, b, a, h, hc, hp => by
    obtain ⟨h1, h2, h3⟩ := h
    have h2' : 0 < crossI c a b := h2
    have hca : ph s c < ph s a := h3.1.1
    have hab : ph s a < ph s b := h1.1
    refine ⟨Gd_app h1 (.inl hc), h2, Chn_app t a c h3 ?_ (by omega)⟩
    have e := cross_mid s c a b p
    have m1 := mul_pp h2' (show 0 < ph s p - ph s a by omega)
    have m2 := mul_pp hc (show 0 < ph s a - ph s c by omega)
    exact pos_of (show 0 < ph s b - ph s a by omega) (by omega)
theorem pop_chn {s : Int} {R : List (Int × Int)} {p z : Int × Int} (hp : ∀ r ∈ R, ph s r < ph s p) (hz : ∀ r ∈ R, r = z ∨ ph s z < ph s r) :
    ∀ (t : List (Int × Int)) (b : Int × Int), Chn s R (b :: t) → (b :: t).getLast? = some z → (∀ x ∈ b :: t, x ∈ R) → (∀ r ∈ R, ph s b < ph s r → 0 ≤ crossI b p r) →
      Chn s (R ++ [p]) (p :: popL p (b :: t)) ∧ (p :: popL p (b :: t)).getLast? = some z ∧ ∀ x ∈ popL p (b :: t), x ∈ R
  | [], b, h, hl, hm, hu => by
    have hbz : b = z := by simpa using hl
    have hb := hm b (List.mem_cons_self ..)
    refine ⟨⟨⟨hp b hb, fun r hr => ?_⟩, trivial, trivial⟩, hl, hm⟩
    rcases List.mem_append.1 hr with hr | hr
    · rcases hz r hr with e | e
      · have e2 : r = b := by rw [e, hbz]
        rw [e2]
        exact .inr ⟨cross_back .., Int.le_refl _, Int.le_of_lt (hp b hb)⟩
      · rw [← hbz] at e
        have := hu r hr e
        have := hp r hr
        omega
    · rw [List.mem_singleton.1 hr]
      have := hp b hb
      exact .inr ⟨cross_end .., by omega, by omega⟩
  | a :: t, b, h, hl, hm, hu => by
    obtain ⟨h1, h2, h3⟩ := h
    have hb := hm b (List.mem_cons_self ..)
    have ha := hm a (List.mem_cons_of_mem _ (List.mem_cons_self ..))
    have hpb := hp b hb
    have hab := h1.1
    show Chn s (R ++ [p]) (p :: (if crossI a b p ≤ 0 then popL p (a :: t) else b :: a :: t)) ∧ (p :: (if crossI a b p ≤ 0 then popL p (a :: t) else b :: a :: t)).getLast? = some z ∧ ∀ x ∈ (if crossI a b p ≤ 0 then popL p (a :: t) else b :: a :: t), x ∈ R
    by_cases hc : crossI a b p ≤ 0
    · rw [if_pos hc]
      refine pop_chn hp hz t a h3 (by simpa using hl) (fun x hx => hm x (List.mem_cons_of_mem _ hx)) fun r hr hra => ?_
      have hpr := hp r hr
      have g : 0 ≤ crossI a b r := by rcases h1.2 r hr with g | g <;> omega
      have e := cross_id s a b p r
      have m1 := mul_nn g (show 0 ≤ ph s p - ph s a by omega)
      have m2 := mul_nn (show 0 ≤ - crossI a b p by omega) (show 0 ≤ ph s r - ph s a by omega)
      rw [Int.neg_mul] at m2
      exact nn_of (show 0 < ph s b - ph s a by omega) (by omega)
    · rw [if_neg hc]
      refine ⟨⟨⟨hpb, fun r hr => ?_⟩, show 0 < crossI a b p by omega, Chn_app t b a ⟨h1, h2, h3⟩ (by omega) hpb⟩, by simpa using hl, hm⟩
      rcases List.mem_append.1 hr with hr | hr
      · have hpr := hp r hr
        have g : 0 ≤ crossI a b r := by rcases h1.2 r hr with g | g <;> omega
        rcases Int.lt_or_le (ph s b) (ph s r) with e | e
        · have := hu r hr e
          omega
        · have e2 := cross_mid s a b p r
          have m1 := mul_nn g (show 0 ≤ ph s p - ph s b by omega)
          rcases Int.lt_or_le (ph s r) (ph s b) with e3 | e3
          · have m2 := mul_pp (show 0 < crossI a b p by omega) (show 0 < ph s b - ph s r by omega)
            have m3 : crossI a b p * (ph s b - ph s r) = - (crossI a b p * (ph s r - ph s b)) := by rw [← Int.mul_neg]; congr 1; omega
            exact .inl (pos_of (show 0 < ph s b - ph s a by omega) (by omega))
          · have m2 : crossI a b p * (ph s r - ph s b) = 0 := by rw [show ph s r - ph s b = 0 by omega, Int.mul_zero]
            have := nn_of (a := crossI b p r) (show 0 < ph s b - ph s a by omega) (by omega)
            omega
      · rw [List.mem_singleton.1 hr]
        exact .inr ⟨cross_end .., by omega, by omega⟩
def stK (D : List (Int × Int)) : Nat → List (Int × Int)
  | 0 => []
  | k + 1 => at2 D k :: popL (at2 D k) (stK D k)
def Inc (s : Int) (D : List (Int × Int)) : Prop := ∀ i j, i < j → j < D.length → ph s (at2 D i) < ph s (at2 D j)
theorem mem_take {D : List (Int × Int)} {k : Nat} {r : Int × Int} (hk : k ≤ D.length) : r ∈ D.take k ↔ ∃ i, i < k ∧ r = at2 D i := by
  constructor
  · intro h
    obtain ⟨i, hi, e⟩ := List.mem_iff_getElem.1 h
    rw [List.length_take] at hi
    refine ⟨i, by omega, ?_⟩
    rw [at2_eq (by omega), ← e, List.getElem_take]
  · rintro ⟨i, hi, rfl⟩
    refine List.mem_iff_getElem.2 ⟨i, by rw [List.length_take]; omega, ?_⟩
    rw [List.getElem_take, at2_eq (by omega)]
theorem take_snoc {D : List (Int × Int)} {k : Nat} (hk : k < D.length) : D.take (k + 1) = D.take k ++ [at2 D k] := by
  rw [at2_eq hk, List.take_append_getElem]
theorem stK_chn {s : Int} {D : List (Int × Int)} (hD : Inc s D) : ∀ k, k < D.length → Chn s (D.take (k + 1)) (stK D (k + 1)) ∧ (stK D (k + 1)).getLast? = some (at2 D 0) ∧ ∀ x ∈ stK D (k + 1), x ∈ D.take (k + 1)
  | 0, h => ⟨trivial, rfl, fun x hx => by
      rw [take_snoc h]
      rw [show stK D (0 + 1) = [at2 D 0] from rfl] at hx
      rw [List.mem_singleton.1 hx]
      simp⟩
  | k + 1, h => by
    obtain ⟨h1, h2, h3⟩ := stK_chn hD k (by omega)
    have hp : ∀ r ∈ D.take (k + 1), ph s r < ph s (at2 D (k + 1)) := fun r hr => by
      obtain ⟨i, hi, rfl⟩ := (mem_take (by omega)).1 hr
      exact hD i (k + 1) (by omega) h
    have hz : ∀ r ∈ D.take (k + 1), r = at2 D 0 ∨ ph s (at2 D 0) < ph s r := fun r hr => by
      obtain ⟨i, hi, rfl⟩ := (mem_take (by omega)).1 hr
      by_cases h0 : i = 0
      · left; rw [h0]
      · right; exact hD 0 i (by omega) (by omega)
    have key := pop_chn (p := at2 D (k + 1)) hp hz (popL (at2 D k) (stK D k)) (at2 D k) h1 h2 h3 fun r hr hlt => by
      exfalso
      obtain ⟨i, hi, rfl⟩ := (mem_take (by omega)).1 hr
      by_cases e : i = k
      · subst e; omega
      · have := hD i k (by omega) (by omega)
        omega
    rw [← take_snoc h] at key
    refine ⟨key.1, key.2.1, fun x hx => ?_⟩
    rcases List.mem_cons.1 hx with hx | hx
    · rw [hx]
      exact (mem_take (by omega)).2 ⟨k + 1, by omega, rfl⟩
    · obtain ⟨i, hi, rfl⟩ := (mem_take (by omega)).1 (key.2.2 x hx)
      exact (mem_take (by omega)).2 ⟨i, by omega, rfl⟩
theorem Chn_at {s : Int} {R : List (Int × Int)} : ∀ {st : List (Int × Int)} {i : Nat}, Chn s R st → i + 1 < st.length → Gd s R (at2 st (i + 1)) (at2 st i)
  | b :: a :: t, 0, h, hi => h.1
  | b :: a :: t, i + 1, h, hi => Chn_at (st := a :: t) (i := i) h.2.2 (by simpa using hi)
theorem Chn_lt {s : Int} {R st : List (Int × Int)} (h : Chn s R st) {i : Nat} : ∀ {j : Nat}, i < j → j < st.length → ph s (at2 st j) < ph s (at2 st i)
  | 0, hj, _ => by omega
  | j + 1, hij, hj => by
    have h1 := (Chn_at h hj).1
    by_cases e : i = j
    · rw [e]; exact h1
    · have := Chn_lt h (i := i) (j := j) (by omega) (by omega)
      omega
end Go.Aw
end

/-
  Hulls: the next corner. No condition.
-/
set_option linter.unusedSimpArgs false
set_option linter.unusedVariables false
noncomputable section
namespace Go.Aw
theorem turn_le {a b c : Int × Int} : turnS a b c ≤ 0 ↔ crossI a b c ≤ 0 := by
  unfold turnS sgn
  constructor
  · intro h; split at h <;> (try split at h) <;> omega
  · intro h; split <;> (try split) <;> omega
theorem at2_rv {l : List (Int × Int)} {i : Nat} (h : i < l.length) : at2 l.reverse i = at2 l (l.length - 1 - i) := by
  rw [at2_eq (by rw [List.length_reverse]; exact h), at2_eq (by omega), List.getElem_reverse]
theorem popL_short {p : Int × Int} : ∀ {st : List (Int × Int)}, st.length ≤ 1 → popL p st = st
  | [], _ => rfl
  | [_], _ => rfl
  | _ :: _ :: _, h => by simp only [List.length_cons] at h; omega
theorem take_rev {F : List (Int × Int)} {n : Nat} (h : n + 2 ≤ F.length) : (F.take (n + 2)).reverse = at2 F (n + 1) :: at2 F n :: (F.take n).reverse := by
  rw [take_snoc (by omega), take_snoc (by omega)]
  simp
theorem pop_is {F : List (Int × Int)} {p : Int × Int} : ∀ n, n ≤ F.length → (F.take (popN F p n)).reverse = popL p (F.take n).reverse
  | 0, _ => by unfold popN; rw [List.take_zero]; rfl
  | 1, h => by
    unfold popN
    rw [if_neg (fun h => Nat.not_succ_le_zero _ h.1), popL_short (by rw [List.length_reverse, List.length_take]; omega)]
  | n + 2, h => by
    rw [take_rev h]
    unfold popN popL
    rw [Nat.add_sub_cancel]
    by_cases hc : crossI (at2 F n) (at2 F (n + 1)) p ≤ 0
    · rw [if_pos ⟨by omega, turn_le.2 hc⟩, if_pos hc, pop_is (n + 1) (by omega), take_snoc (by omega)]
      simp
    · rw [if_neg (fun h => hc (turn_le.1 h.2)), if_neg hc, take_rev h]
theorem half_stK (D : List (Int × Int)) : ∀ k, k ≤ D.length → (halfS D k).2 ≤ (halfS D k).1.length ∧ ((halfS D k).1.take (halfS D k).2).reverse = stK D k
  | 0, _ => ⟨Nat.le_refl _, rfl⟩
  | k + 1, hk => by
    obtain ⟨h1, h2⟩ := half_stK D k (by omega)
    obtain ⟨F, m, e⟩ : ∃ F m, halfS D k = (F, m) := ⟨_, _, rfl⟩
    rw [e] at h1 h2
    simp only at h1 h2
    rw [halfS_succ e]
    have hp := popN_le F (at2 D k) m
    have hl := pushI_len (F := F) (m := popN F (at2 D k) m) (at2 D k) (by omega)
    simp only
    refine ⟨by rw [hl]; split <;> omega, ?_⟩
    have e1 : (pushI F (popN F (at2 D k) m) (at2 D k)).take (popN F (at2 D k) m + 1) = F.take (popN F (at2 D k) m) ++ [at2 D k] := by
      unfold pushI
      refine List.take_left' ?_
      rw [List.length_append, List.length_take]
      simp only [List.length_cons, List.length_nil]
      omega
    rw [e1, List.reverse_append, pop_is m h1, h2]
    rfl
theorem lowI_eq (D : List (Int × Int)) : lowI D = (stK D D.length).tail.reverse := by
  obtain ⟨h1, h2⟩ := half_stK D D.length (Nat.le_refl _)
  unfold lowI
  rw [← h2, ← List.dropLast_reverse, List.reverse_reverse, List.dropLast_eq_take, List.take_take, List.length_take, Nat.min_eq_left h1, Nat.min_eq_left (Nat.sub_le _ _)]
theorem less_lex {p q : Int × Int} : lessB p q = true ↔ (p.1 < q.1 ∨ (p.1 = q.1 ∧ p.2 < q.2)) := by
  unfold lessB
  simp
theorem ded_less {S : List (Int × Int)} (hs : ∀ i j, i < j → j < S.length → lessB (at2 S j) (at2 S i) = false) : ∀ p, p ≤ S.length → 
    (∀ x ∈ ddI S p, ∃ i, i < p ∧ x = at2 S i) ∧ (∀ i, i < p → at2 S i ∈ ddI S p) ∧ (0 < p → (ddI S p).getLast? = some (at2 S (p - 1))) ∧ (ddI S p).Pairwise (fun a b => lessB a b = true)
  | 0, _ => ⟨fun x hx => absurd hx List.not_mem_nil, fun i hi => absurd hi (Nat.not_lt_zero _), fun h => absurd h (Nat.lt_irrefl _), List.Pairwise.nil⟩
  | p + 1, hp => by
    obtain ⟨h1, h2, h3, h4⟩ := ded_less hs p (by omega)
    by_cases h0 : p = 0
    · subst h0
      have e : ddI S (0 + 1) = [at2 S 0] := rfl
      rw [e]
      exact ⟨fun x hx => ⟨0, by omega, List.mem_singleton.1 hx⟩, fun i hi => by rw [show i = 0 by omega]; exact List.mem_singleton.2 rfl, fun _ => rfl, List.pairwise_singleton ..⟩
    · cases he : eqP (at2 S p) (at2 S (p - 1)) with
      | false =>
        rw [ddI_yes he]
        refine ⟨fun x hx => ?_, fun i hi => ?_, fun _ => by simp, ?_⟩
        · rcases List.mem_append.1 hx with hx | hx
          · obtain ⟨i, hi, e⟩ := h1 x hx
            exact ⟨i, by omega, e⟩
          · exact ⟨p, by omega, List.mem_singleton.1 hx⟩
        · by_cases e : i = p
          · rw [e]; simp
          · exact List.mem_append.2 (.inl (h2 i (by omega)))
        · rw [List.pairwise_append]
          refine ⟨h4, List.pairwise_singleton .., fun a ha b hb => ?_⟩
          rw [List.mem_singleton.1 hb]
          obtain ⟨i, hi, rfl⟩ := h1 a ha
          have g1 := hs (p - 1) p (by omega) (by omega)
          have g2 : i = p - 1 ∨ lessB (at2 S (p - 1)) (at2 S i) = false := by
            by_cases e : i = p - 1
            · exact .inl e
            · exact .inr (hs i (p - 1) (by omega) (by omega))
          have g3 : ¬ ((at2 S p).1 = (at2 S (p - 1)).1 ∧ (at2 S p).2 = (at2 S (p - 1)).2) := by
            intro h
            unfold eqP at he
            simp [h.1, h.2] at he
          rw [← Bool.not_eq_true, less_lex] at g1
          rw [less_lex]
          rcases g2 with e | g2
          · rw [e]; omega
          · rw [← Bool.not_eq_true, less_lex] at g2
            omega
      | true =>
        have e2 : at2 S p = at2 S (p - 1) := (eqP_iff _ _).1 he
        rw [ddI_no (by omega) he]
        refine ⟨fun x hx => ?_, fun i hi => ?_, fun _ => ?_, h4⟩
        · obtain ⟨i, hi, e⟩ := h1 x hx
          exact ⟨i, by omega, e⟩
        · by_cases e : i = p
          · rw [e, e2]; exact h2 (p - 1) (by omega)
          · exact h2 i (by omega)
        · rw [h3 (by omega), Nat.add_sub_cancel, e2]
theorem sort_less {l : List (Int × Int)} : ∀ i j, i < j → j < (sortI l).length → lessB (at2 (sortI l) j) (at2 (sortI l) i) = false := by
  intro i j hij hj
  rw [sortI_len] at hj
  have := sortI_sorted l hij hj
  rw [lt_ord] at this
  rw [← Bool.not_eq_true, less_lex]
  exact of_decide_eq_false this
theorem ded_mem {l : List (Int × Int)} {x : Int × Int} : x ∈ dedI l ↔ x ∈ l := by
  obtain ⟨h1, h2, -, -⟩ := ded_less (S := sortI l) sort_less (sortI l).length (Nat.le_refl _)
  constructor
  · intro h
    obtain ⟨i, hi, rfl⟩ := h1 x h
    rw [at2_eq hi]
    exact (sortI_perm l).mem_iff.1 (List.getElem_mem _)
  · intro h
    obtain ⟨i, hi, e⟩ := List.mem_iff_getElem.1 ((sortI_perm l).mem_iff.2 h)
    have := h2 i hi
    rw [at2_eq hi, e] at this
    exact this
theorem ded_inc {l : List (Int × Int)} (hr : l.all rightS = true) : Inc 1 (dedI l) := by
  obtain ⟨-, -, -, h4⟩ := ded_less (S := sortI l) sort_less (sortI l).length (Nat.le_refl _)
  have hd := dedI_right hr
  intro i j hij hj
  have h := List.pairwise_iff_getElem.1 h4 i j (by unfold dedI at hj; omega) hj hij
  have e1 : (ddI (sortI l) (sortI l).length)[i]'(by unfold dedI at hj; omega) = at2 (dedI l) i := (at2_eq (l := dedI l) (by omega)).symm
  have e2 : (ddI (sortI l) (sortI l).length)[j]'hj = at2 (dedI l) j := (at2_eq (l := dedI l) hj).symm
  rw [e1, e2, less_key (all_at hd (by omega)) (all_at hd hj)] at h
  have := of_decide_eq_true h
  unfold ph
  omega
theorem inc_rev {D : List (Int × Int)} (h : Inc 1 D) : Inc (-1) D.reverse := by
  intro i j hij hj
  rw [List.length_reverse] at hj
  rw [at2_rv (by omega), at2_rv hj]
  have := h (D.length - 1 - j) (D.length - 1 - i) (by omega) (by omega)
  unfold ph at *
  omega
end Go.Aw
end

/-
  Hulls: the reference's search finds the next corner. No condition.
-/
set_option linter.unusedSimpArgs false
set_option linter.unusedVariables false
noncomputable section
namespace Go.Aw
def farI (a b : Int × Int) : Int := (b.1 - a.1) * (b.1 - a.1) + (b.2 - a.2) * (b.2 - a.2)
def goQ (p q r : Int × Int) : Bool := decide (turnS p q r < 0) || (decide (turnS p q r = 0) && decide (farI p q < farI p r))
def stepQ (p q r : Int × Int) : Int × Int := if q = p then r else if goQ p q r = true then r else q
def srchI (l : List (Int × Int)) (p : Int × Int) : Nat → Int × Int
  | 0 => p
  | i + 1 => stepQ p (srchI l p i) (at2 l i)
def lstI (l : List (Int × Int)) : Nat → Int × Int
  | 0 => at2 l 0
  | i + 1 => if lessB (at2 l i) (lstI l i) = true then at2 l i else lstI l i
def bk (a b r : Int × Int) : Prop := (key a ≤ key r ∧ key r ≤ key b) ∨ (key b ≤ key r ∧ key r ≤ key a)
def Nx (l : List (Int × Int)) (a b : Int × Int) : Prop := b ∈ l ∧ key a ≠ key b ∧ ∀ r ∈ l, 0 < crossI a b r ∨ (crossI a b r = 0 ∧ bk a b r)
theorem far_line (s : Int) {a b r : Int × Int} (hc : crossI a b r = 0) (h0 : ph s a < ph s b) (h1 : ph s a ≤ ph s r) (h2 : ph s r ≤ ph s b) (hs : s = 1 ∨ s = -1) : r = b ∨ farI a r < farI a b := by
  have e1 : (ph s b - ph s a) * (r.1 - a.1) = (ph s r - ph s a) * (b.1 - a.1) := by
    unfold crossI at hc
    unfold ph key
    grind
  have e2 : (ph s b - ph s a) * (r.2 - a.2) = (ph s r - ph s a) * (b.2 - a.2) := by
    unfold crossI at hc
    unfold ph key
    grind
  generalize hu : ph s b - ph s a = u at e1 e2
  generalize hw : ph s r - ph s a = w at e1 e2
  have hu0 : 0 < u := by omega
  by_cases hwu : w = u
  · left
    rw [hwu] at e1 e2
    have g1 := Int.eq_of_mul_eq_mul_left (by omega) e1
    have g2 := Int.eq_of_mul_eq_mul_left (by omega) e2
    exact Prod.ext (by omega) (by omega)
  · right
    have hlt : w < u := by omega
    have hw0 : 0 ≤ w := by omega
    have e3 : u * u * farI a r = w * w * farI a b := by
      have g1 : u * u * ((r.1 - a.1) * (r.1 - a.1)) = (u * (r.1 - a.1)) * (u * (r.1 - a.1)) := by grind
      have g2 : u * u * ((r.2 - a.2) * (r.2 - a.2)) = (u * (r.2 - a.2)) * (u * (r.2 - a.2)) := by grind
      unfold farI
      rw [Int.mul_add, g1, g2, e1, e2]
      grind
    have hb : 0 < farI a b := by
      have q1 : 0 ≤ (b.1 - a.1) * (b.1 - a.1) := by
        rcases Int.lt_or_le (b.1 - a.1) 0 with h | h
        · exact Int.le_of_lt (Int.mul_pos_of_neg_of_neg h h)
        · exact mul_nn h h
      have q2 : 0 ≤ (b.2 - a.2) * (b.2 - a.2) := by
        rcases Int.lt_or_le (b.2 - a.2) 0 with h | h
        · exact Int.le_of_lt (Int.mul_pos_of_neg_of_neg h h)
        · exact mul_nn h h
      have q3 : b.1 - a.1 ≠ 0 ∨ b.2 - a.2 ≠ 0 := by
        by_cases h1 : b.1 - a.1 = 0
        · right
          intro h2
          have : a = b := Prod.ext (by omega) (by omega)
          rw [this] at h0
          omega
        · exact .inl h1
      unfold farI
      rcases q3 with h | h
      · have : 0 < (b.1 - a.1) * (b.1 - a.1) := by
          rcases Int.lt_or_le (b.1 - a.1) 0 with g | g
          · exact Int.mul_pos_of_neg_of_neg g g
          · exact mul_pp (by omega) (by omega)
        omega
      · have : 0 < (b.2 - a.2) * (b.2 - a.2) := by
          rcases Int.lt_or_le (b.2 - a.2) 0 with g | g
          · exact Int.mul_pos_of_neg_of_neg g g
          · exact mul_pp (by omega) (by omega)
        omega
    have e4 : w * w < u * u := by
      have g1 := mul_nn hw0 (show 0 ≤ u - w by omega)
      have g2 := mul_pp (show 0 < u - w by omega) hu0
      rw [Int.mul_sub] at g1
      rw [Int.sub_mul] at g2
      omega
    have e5 := mul_pp (show 0 < u * u - w * w by omega) hb
    rw [Int.sub_mul] at e5
    rcases Int.lt_or_le (farI a r) (farI a b) with g | g
    · exact g
    · have g2 := mul_nn (Int.le_of_lt (mul_pp hu0 hu0)) (show 0 ≤ farI a r - farI a b by omega)
      rw [Int.mul_sub] at g2
      omega
theorem Nx_of {s : Int} {R l : List (Int × Int)} {a b : Int × Int} (hs : s = 1 ∨ s = -1) (h : Gd s R a b) (hl : ∀ r, r ∈ l → r ∈ R) (hb : b ∈ l) : Nx l a b :=
  ⟨hb, fun e => by have := h.1; unfold ph at this; rw [e] at this; omega, fun r hr => by
    rcases h.2 r (hl r hr) with g | ⟨g, h1, h2⟩
    · exact .inl g
    · refine .inr ⟨g, ?_⟩
      unfold ph at h1 h2
      unfold bk
      rcases hs with rfl | rfl <;> omega⟩
theorem Nx_ne {l : List (Int × Int)} {a b : Int × Int} (h : Nx l a b) : a ≠ b := fun e => h.2.1 (by rw [e])
theorem Nx_far {l : List (Int × Int)} {a b : Int × Int} (h : Nx l a b) : ∀ r ∈ l, 0 < crossI a b r ∨ (crossI a b r = 0 ∧ (r = b ∨ farI a r < farI a b)) := fun r hr => by
  rcases h.2.2 r hr with g | ⟨g, h1⟩
  · exact .inl g
  · refine .inr ⟨g, ?_⟩
    have hk := h.2.1
    rcases h1 with ⟨h1, h2⟩ | ⟨h1, h2⟩
    · exact far_line 1 g (by unfold ph; omega) (by unfold ph; omega) (by unfold ph; omega) (.inl rfl)
    · exact far_line (-1) g (by unfold ph; omega) (by unfold ph; omega) (by unfold ph; omega) (.inr rfl)
theorem turn_lt {a b c : Int × Int} : turnS a b c < 0 ↔ crossI a b c < 0 := by
  unfold turnS sgn
  constructor
  · intro h; split at h <;> (try split at h) <;> omega
  · intro h; rw [if_pos h]; omega
theorem turn_z {a b c : Int × Int} : turnS a b c = 0 ↔ crossI a b c = 0 := by
  unfold turnS sgn
  constructor
  · intro h; split at h <;> (try split at h) <;> omega
  · intro h; rw [if_neg (by omega), if_neg (by omega)]
theorem goQ_iff {p q r : Int × Int} : goQ p q r = true ↔ crossI p q r < 0 ∨ (crossI p q r = 0 ∧ farI p q < farI p r) := by
  unfold goQ
  simp only [Bool.or_eq_true, Bool.and_eq_true, decide_eq_true_eq, turn_lt, turn_z]
theorem scan_mem (l : List (Int × Int)) (p : Int × Int) : ∀ i, i ≤ l.length → srchI l p i = p ∨ srchI l p i ∈ l
  | 0, _ => .inl rfl
  | i + 1, h => by
    have hm : at2 l i ∈ l := by rw [at2_eq (by omega)]; exact List.getElem_mem _
    unfold srchI stepQ
    split
    · exact .inr hm
    · split
      · exact .inr hm
      · exact scan_mem l p i (by omega)
theorem scan_next {l : List (Int × Int)} {a b : Int × Int} (h : Nx l a b) : ∀ i, i ≤ l.length → (∃ k, k < i ∧ at2 l k = b) → srchI l a i = b
  | 0, _, ⟨k, hk, _⟩ => by omega
  | i + 1, hi, ⟨k, hk, e⟩ => by
    have hab := Nx_ne h
    have hall := Nx_far h
    have hm : at2 l i ∈ l := by rw [at2_eq (by omega)]; exact List.getElem_mem _
    unfold srchI stepQ
    by_cases hki : ∃ k, k < i ∧ at2 l k = b
    · rw [scan_next h i (by omega) hki, if_neg (fun e => hab e.symm), if_neg]
      rw [goQ_iff]
      rcases hall _ hm with g | ⟨g, g2⟩
      · omega
      · rcases g2 with g2 | g2
        · rw [g2] at g ⊢; omega
        · omega
    · have e2 : at2 l i = b := by
        have : k = i := by
          rcases Nat.lt_or_ge k i with g | g
          · exact absurd ⟨k, g, e⟩ hki
          · omega
        rw [← this]; exact e
      rw [e2]
      by_cases hq : srchI l a i = a
      · rw [if_pos hq]
      · rw [if_neg hq]
        rcases scan_mem l a i (by omega) with g | g
        · exact absurd g hq
        · generalize srchI l a i = q at g hq
          by_cases hqb : q = b
          · rw [hqb]; split <;> rfl
          · rw [if_pos]
            rw [goQ_iff, crossN]
            rcases hall q g with g1 | ⟨g1, g2⟩
            · left; omega
            · right
              rcases g2 with g2 | g2
              · exact absurd g2 hqb
              · exact ⟨by omega, g2⟩
theorem scan_full {l : List (Int × Int)} {a b : Int × Int} (h : Nx l a b) : srchI l a l.length = b := by
  obtain ⟨k, hk, e⟩ := List.mem_iff_getElem.1 h.1
  exact scan_next h l.length (Nat.le_refl _) ⟨k, hk, by rw [at2_eq hk]; exact e⟩
theorem scan_one {l : List (Int × Int)} {p : Int × Int} (h : ∀ r ∈ l, r = p) {i : Nat} (hi : i ≤ l.length) : srchI l p i = p := by
  rcases scan_mem l p i hi with g | g
  · exact g
  · exact h _ g
theorem lst_least (l : List (Int × Int)) : ∀ i, lstI l i = at2 l (leastI l i)
  | 0 => rfl
  | i + 1 => by
    unfold lstI leastI
    rw [lst_least l i]
    split <;> rfl
theorem lst_ded {l : List (Int × Int)} (hr : l.all rightS = true) (h0 : 0 < l.length) : lstI l l.length = at2 (dedI l) 0 := by
  have hd := ded_pos h0
  have hl := leastI_lt l l.length
  rw [lst_least]
  have m1 : at2 l (leastI l l.length) ∈ dedI l := ded_mem.2 (by rw [at2_eq (by omega)]; exact List.getElem_mem _)
  have m2 : at2 (dedI l) 0 ∈ l := ded_mem.1 (by rw [at2_eq hd]; exact List.getElem_mem _)
  obtain ⟨i, hi, e1⟩ := List.mem_iff_getElem.1 m1
  obtain ⟨j, hj, e2⟩ := List.mem_iff_getElem.1 m2
  have g1 := leastI_le hr l.length (Nat.le_refl _) j hj
  rw [at2_eq hj, e2] at g1
  refine key_inj (all_at hr (by omega)) (all_at (dedI_right hr) hd) ?_
  have g2 : key (at2 (dedI l) 0) ≤ key (at2 l (leastI l l.length)) := by
    rw [← e1, ← at2_eq hi]
    by_cases hi0 : i = 0
    · rw [hi0]; exact Int.le_refl _
    · have := ded_inc hr 0 i (by omega) hi
      unfold ph at this
      omega
  omega
structure Corners (l H : List (Int × Int)) : Prop where
  pos : 0 < H.length
  len : H.length ≤ 2 * l.length
  next : ∀ k, k < H.length → srchI l (at2 H k) l.length = at2 H ((k + 1) % H.length)
  first : ∀ k, 0 < k → k < H.length → at2 H k ≠ at2 H 0
  step : ∀ k, k + 1 < H.length → at2 H (k + 1) ≠ at2 H k
  edge : 2 ≤ H.length → ∀ k, k < H.length → Nx l (at2 H k) (at2 H ((k + 1) % H.length))
  one : H.length = 1 → ∀ r ∈ l, r = at2 H 0
theorem at2_app1 {A B : List (Int × Int)} {k : Nat} (h : k < A.length) : at2 (A ++ B) k = at2 A k := by
  rw [at2_eq (by rw [List.length_append]; omega), at2_eq h, List.getElem_append_left h]
theorem at2_app2 {A B : List (Int × Int)} {k : Nat} (h : A.length ≤ k) (h2 : k < A.length + B.length) : at2 (A ++ B) k = at2 B (k - A.length) := by
  rw [at2_eq (by rw [List.length_append]; omega), at2_eq (by omega), List.getElem_append_right h]
theorem at2_tail {l : List (Int × Int)} {k : Nat} (h : k + 1 < l.length) : at2 l.tail k = at2 l (k + 1) := by
  rw [at2_eq (by rw [List.length_tail]; omega), at2_eq h, List.getElem_tail]
theorem stK_len (D : List (Int × Int)) : ∀ k, (stK D k).length ≤ k
  | 0 => Nat.le_refl _
  | k + 1 => by
    have h : ∀ (p : Int × Int) (st : List (Int × Int)), (popL p st).length ≤ st.length := by
      intro p st
      induction st with
      | nil => exact Nat.le_refl _
      | cons b t ih =>
        cases t with
        | nil => exact Nat.le_refl _
        | cons a t =>
          unfold popL
          split
          · exact Nat.le_succ_of_le ih
          · exact Nat.le_refl _
    have h2 := h (at2 D k) (stK D k)
    have h3 := stK_len D k
    show (popL (at2 D k) (stK D k)).length + 1 ≤ k + 1
    omega
theorem stK_two {D : List (Int × Int)} (s : Int) (hD : Inc s D) (h2 : 2 ≤ D.length) : 2 ≤ (stK D D.length).length ∧ at2 (stK D D.length) 0 = at2 D (D.length - 1) ∧ at2 (stK D D.length) ((stK D D.length).length - 1) = at2 D 0 := by
  obtain ⟨n, hn⟩ : ∃ n, D.length = n + 1 := ⟨D.length - 1, by omega⟩
  obtain ⟨h1, h2', h3⟩ := stK_chn hD n (by omega)
  rw [hn]
  have e0 : at2 (stK D (n + 1)) 0 = at2 D n := rfl
  have hp : 0 < (stK D (n + 1)).length := by unfold stK; simp
  have e1 : at2 (stK D (n + 1)) ((stK D (n + 1)).length - 1) = at2 D 0 := by
    rw [List.getLast?_eq_getElem?, List.getElem?_eq_getElem (by omega)] at h2'
    injection h2' with h2'
    rw [at2_eq (by omega)]
    exact h2'
  refine ⟨?_, e0, e1⟩
  rcases Nat.lt_or_ge (stK D (n + 1)).length 2 with g | g
  · exfalso
    have : (stK D (n + 1)).length - 1 = 0 := by omega
    rw [this, e0] at e1
    have := hD 0 n (by omega) (by omega)
    rw [e1] at this
    omega
  · exact g
theorem half_at {D : List (Int × Int)} {k : Nat} (h : k < (stK D D.length).length - 1) : at2 (lowI D) k = at2 (stK D D.length) ((stK D D.length).length - 1 - k) := by
  rw [lowI_eq, at2_rv (by rw [List.length_tail]; exact h), List.length_tail, at2_tail (by omega)]
  congr 1
  omega
theorem half_len (D : List (Int × Int)) : (lowI D).length = (stK D D.length).length - 1 := by
  rw [lowI_eq, List.length_reverse, List.length_tail]
theorem Nx_half {D : List (Int × Int)} {s : Int} {l : List (Int × Int)} (hs : s = 1 ∨ s = -1) (hD : Inc s D) (hm : ∀ r, r ∈ l ↔ r ∈ D) (h2 : 2 ≤ D.length) {k : Nat} (hk : k < (lowI D).length) :
    Nx l (at2 (lowI D) k) (if k + 1 < (lowI D).length then at2 (lowI D) (k + 1) else at2 D (D.length - 1)) ∧ ph s (at2 (lowI D) k) < ph s (at2 D (D.length - 1)) ∧ (0 < k → ph s (at2 D 0) < ph s (at2 (lowI D) k)) ∧ at2 (lowI D) 0 = at2 D 0 := by
  obtain ⟨g1, g2, g3⟩ := stK_two s hD h2
  obtain ⟨n, hn⟩ : ∃ n, D.length = n + 1 := ⟨D.length - 1, by omega⟩
  obtain ⟨c1, c2, c3⟩ := stK_chn hD n (by omega)
  rw [← hn, List.take_length] at c1 c3
  rw [← hn] at c2
  rw [half_len] at hk ⊢
  have mem : ∀ j, j < (stK D D.length).length → at2 (stK D D.length) j ∈ l := fun j hj => (hm _).2 (c3 _ (by rw [at2_eq hj]; exact List.getElem_mem _))
  refine ⟨?_, ?_, fun h0 => ?_, ?_⟩
  · have hg := Chn_at c1 (i := (stK D D.length).length - 1 - (k + 1)) (by omega)
    have e1 : (if k + 1 < (stK D D.length).length - 1 then at2 (lowI D) (k + 1) else at2 D (D.length - 1)) = at2 (stK D D.length) ((stK D D.length).length - 1 - (k + 1)) := by
      split
      · rename_i h
        rw [half_at h]
      · rw [← g2]; congr 1; omega
    rw [e1, half_at hk]
    rw [show (stK D D.length).length - 1 - (k + 1) + 1 = (stK D D.length).length - 1 - k by omega] at hg
    exact Nx_of hs hg (fun r hr => (hm r).1 hr) (mem _ (by omega))
  · rw [half_at hk, ← g2]
    exact Chn_lt c1 (by omega) (by omega)
  · rw [half_at hk, ← g3]
    exact Chn_lt c1 (by omega) (by omega)
  · rw [half_at (by omega), ← g3]
    rfl
theorem hull_corners {l : List (Int × Int)} (hr : l.all rightS = true) (h0 : 0 < l.length) : Corners l (hulL l) ∧ at2 (hulL l) 0 = lstI l l.length := by
  have hD0 := ded_pos h0
  have hinc := ded_inc hr
  have hm : ∀ r, r ∈ l ↔ r ∈ dedI l := fun r => ded_mem.symm
  have hlen : (dedI l).length ≤ l.length := by
    have h1 := ddI_len (sortI l) (sortI l).length
    rw [sortI_len] at h1
    unfold dedI
    rw [sortI_len]
    exact h1
  rw [lst_ded hr h0]
  unfold hulL
  generalize dedI l = D at *
  by_cases h3 : D.length < 3
  · rw [if_pos h3]
    refine ⟨?_, rfl⟩
    by_cases h1 : D.length = 1
    · have hall : ∀ r ∈ l, r = at2 D 0 := fun r hr => by
        obtain ⟨i, hi, e⟩ := List.mem_iff_getElem.1 ((hm r).1 hr)
        rw [← e, at2_eq hD0]
        congr 1
        omega
      refine ⟨hD0, by omega, fun k hk => ?_, fun k h1 h2 => by omega, fun k hk => by omega, fun h2 => by omega, fun _ => hall⟩
      have hk0 : k = 0 := by omega
      subst hk0
      rw [h1]
      exact scan_one hall (Nat.le_refl _)
    · have h2 : D.length = 2 := by omega
      have hlt := hinc 0 1 (by omega) (by omega)
      have hne : at2 D 0 ≠ at2 D 1 := fun e => by rw [e] at hlt; omega
      have hkk : key (at2 D 0) ≠ key (at2 D 1) := by unfold ph at hlt; omega
      have hall : ∀ r ∈ l, r = at2 D 0 ∨ r = at2 D 1 := fun r hr => by
        obtain ⟨i, hi, e⟩ := List.mem_iff_getElem.1 ((hm r).1 hr)
        rw [← e, ← at2_eq hi]
        have : i = 0 ∨ i = 1 := by omega
        rcases this with e | e <;> subst e
        · exact .inl rfl
        · exact .inr rfl
      have mem : ∀ j, j < 2 → at2 D j ∈ l := fun j hj => (hm _).2 (by rw [at2_eq (by omega)]; exact List.getElem_mem _)
      have n1 : Nx l (at2 D 0) (at2 D 1) := by
        refine ⟨mem 1 (by omega), hkk, fun r hr => .inr ?_⟩
        unfold bk
        rcases hall r hr with e | e <;> rw [e]
        · exact ⟨cross_back .., by omega⟩
        · exact ⟨cross_end .., by omega⟩
      have hlt2 : ph (-1) (at2 D 1) < ph (-1) (at2 D 0) := by unfold ph at *; omega
      have n2 : Nx l (at2 D 1) (at2 D 0) := by
        refine ⟨mem 0 (by omega), fun e => hkk e.symm, fun r hr => .inr ?_⟩
        unfold bk
        rcases hall r hr with e | e <;> rw [e]
        · exact ⟨cross_end .., by omega⟩
        · exact ⟨cross_back .., by omega⟩
      refine ⟨hD0, by omega, fun k hk => ?_, fun k g1 g2 => ?_, fun k hk => ?_, fun _ k hk => ?_, fun h => by omega⟩
      · rw [h2] at hk ⊢
        have : k = 0 ∨ k = 1 := by omega
        rcases this with e | e <;> subst e
        · exact scan_full n1
        · exact scan_full n2
      · rw [show k = 1 by omega]; exact fun e => hne e.symm
      · rw [show k = 0 by omega]; exact fun e => hne e.symm
      · rw [h2] at hk ⊢
        have : k = 0 ∨ k = 1 := by omega
        rcases this with e | e <;> subst e
        · exact n1
        · exact n2
  · rw [if_neg h3]
    have hir := inc_rev hinc
    have hrl : D.reverse.length = D.length := List.length_reverse
    have hmr : ∀ r, r ∈ l ↔ r ∈ D.reverse := fun r => by rw [List.mem_reverse]; exact hm r
    have z1 : at2 D.reverse 0 = at2 D (D.length - 1) := by rw [at2_rv (by omega)]; rfl
    have z2 : at2 D.reverse (D.reverse.length - 1) = at2 D 0 := by rw [at2_rv (by omega)]; congr 1; omega
    have l1 : 1 ≤ (lowI D).length := by rw [half_len]; have := (stK_two 1 hinc (by omega)).1; omega
    have l2 : 1 ≤ (lowI D.reverse).length := by rw [half_len]; have := (stK_two (-1) hir (by omega)).1; omega
    have u1 : (lowI D).length ≤ D.length := by rw [half_len]; have := stK_len D D.length; omega
    have u2 : (lowI D.reverse).length ≤ D.length := by rw [half_len]; have := stK_len D.reverse D.reverse.length; omega
    have P1 := fun k (hk : k < (lowI D).length) => Nx_half (.inl rfl) hinc hm (by omega) hk
    have P2 := fun k (hk : k < (lowI D.reverse).length) => Nx_half (.inr rfl) hir hmr (by omega) hk
    rw [z1, z2] at P2
    have f1 := (P1 0 (by omega)).2.2.2
    have f2 := (P2 0 (by omega)).2.2.2
    generalize lowI D = A at *
    generalize lowI D.reverse = B at *
    have eA : at2 (A ++ B) 0 = at2 D 0 := by rw [at2_app1 (by omega), f1]
    have nx : ∀ k, k < (A ++ B).length → Nx l (at2 (A ++ B) k) (at2 (A ++ B) ((k + 1) % (A ++ B).length)) := by
      intro k hk
      rw [List.length_append] at hk
      by_cases hA : k < A.length
      · rw [at2_app1 hA, Nat.mod_eq_of_lt (by rw [List.length_append]; omega)]
        have := (P1 k hA).1
        by_cases g : k + 1 < A.length
        · rw [if_pos g] at this
          rw [at2_app1 g]
          exact this
        · rw [if_neg g] at this
          rw [at2_app2 (by omega) (by omega), show k + 1 - A.length = 0 by omega, f2]
          exact this
      · rw [at2_app2 (by omega) hk]
        have := (P2 (k - A.length) (by omega)).1
        by_cases g : k - A.length + 1 < B.length
        · rw [if_pos g] at this
          rw [Nat.mod_eq_of_lt (by rw [List.length_append]; omega), at2_app2 (by omega) (by omega), show k + 1 - A.length = k - A.length + 1 by omega]
          exact this
        · rw [if_neg g] at this
          rw [show k + 1 = (A ++ B).length by rw [List.length_append]; omega, Nat.mod_self, eA]
          exact this
    refine ⟨⟨by rw [List.length_append]; omega, by rw [List.length_append]; omega, fun k hk => scan_full (nx k hk), fun k g1 g2 e => ?_, fun k hk e => ?_, fun _ k hk => nx k hk, fun h => by rw [List.length_append] at h; omega⟩, eA⟩
    · rw [List.length_append] at g2
      rw [eA] at e
      by_cases hA : k < A.length
      · rw [at2_app1 hA] at e
        have := (P1 k hA).2.2.1 g1
        rw [e] at this
        omega
      · rw [at2_app2 (by omega) g2] at e
        have := (P2 (k - A.length) (by omega)).2.1
        rw [e] at this
        omega
    · have := Nx_ne (nx k (by omega))
      rw [Nat.mod_eq_of_lt hk] at this
      exact this e.symm
end Go.Aw
end
