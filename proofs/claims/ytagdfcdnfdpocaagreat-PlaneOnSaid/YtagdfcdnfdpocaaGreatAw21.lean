/-
  Regions in any order: the tail; the whole. No condition.
-/
import Derived.Test.YtagdfcdnfdpocaaGreatAw20
set_option linter.unusedSimpArgs false
set_option linter.unusedVariables false
noncomputable section
namespace Go.Aw
open Go.RowKit

section
variable {P : Program} {T : Tab} {C : VC} {Y : VY} {ops : Array Oper} {p : Plan}

theorem vstore_keep {h : Heap} {nx : Nat} {t : TypeId} {x v : Value} {K : KE} {hJ : Heap} {ad : Addr} (hx : x = .pointer (some ad)) (hn : look hJ ad.block = none) (hs : ∀ k o, look hJ k = some o → look h k = some o)
    (hl : vstore T h nx t x v K) : vstore T h nx t x v (fun v h' nx' => K v h' nx' ∧ ∀ k o, look hJ k = some o → look h' k = some o) := by
  subst hx
  unfold vstore at *
  split at hl
  case h_2 => exact hl.elim
  rename_i k o heq
  injection heq with heq
  injection heq with heq
  subst heq
  simp only at hn ⊢
  split at hl
  case h_2 => exact hl.elim
  rename_i ti g sz cs ht hk
  try rw [ht, hk]
  try simp only
  split at hl
  case h_2 => exact hl.elim
  rename_i hsz htup
  try rw [hsz, htup]
  try simp only
  obtain ⟨hb, hK⟩ := must_iff.1 hl
  refine must_of hb ⟨hK, fun j o' hj => ?_⟩
  have hne : j ≠ k := fun e => by rw [e, hn] at hj; cases hj
  rw [look_upd_ne _ _ hne]
  exact hs j o' hj

theorem tailOK_chain {l : List Oper} {loads : List Nat} : ∀ {rest : List (Nat × Bool)} {last : Option Nat} {got : List Nat}, tailOK l loads last got rest = true → ∀ pre t c i c' post, rest = pre ++ (t, c) :: (i, c') :: post → t ∈ predsC l i
  | [], _, _, _, pre, t, c, i, c', post, e => by simp at e
  | (x, cx) :: r, last, got, h, pre, t, c, i, c', post, e => by
    simp only [tailOK, Bool.and_eq_true] at h
    cases pre with
    | nil =>
      simp only [List.nil_append, List.cons.injEq, Prod.mk.injEq] at e
      obtain ⟨⟨rfl, rfl⟩, rfl⟩ := e
      have h2 := h.2
      simp only [tailOK, Bool.and_eq_true] at h2
      exact memB_iff.1 h2.1.1
    | cons q pre =>
      simp only [List.cons_append, List.cons.injEq] at e
      obtain ⟨rfl, rfl⟩ := e
      exact tailOK_chain h.2 pre t c i c' post rfl

/-- Whichever of the tail may run is the first that is left. -/
theorem tail_first {l : List Oper} {loads : List Nat} {rest : List (Nat × Bool)} {last : Option Nat} {got : List Nat} (h : tailOK l loads last got rest = true) {L : Nat → Prop} (hn : ∀ t ∈ rest, ¬ L t.1) {i : Nat} (hi : i ∈ rest.map (·.1)) (cl : ∀ i, L i → ∀ j ∈ predsAt l i, L j) (hr : ∀ j ∈ predsAt l i, L j) :
    ∃ c r, rest = (i, c) :: r := by
  obtain ⟨q, hq, rfl⟩ := List.mem_map.1 hi
  obtain ⟨i, c⟩ := q
  obtain ⟨pre, post, rfl⟩ := List.append_of_mem hq
  rcases List.eq_nil_or_concat pre with rfl | ⟨pre', ⟨t, ct⟩, rfl⟩
  · exact ⟨c, post, rfl⟩
  · have := tailOK_chain h pre' t ct i c post (by simp)
    exact absurd (predsC_all cl hr t this) (hn (t, ct) (by simp))

variable {B : Nat} {w0 : World} {ιb : Nat → Loc} {nxb tn : Nat} {ds : List Deferred} {ι0 : Nat → Loc} {nx0 : Nat} {h0 hJ : Heap} {a0 : Act} {wS : World} {vals : List (Nat × Value)} {env1 : List (Nat × Value)} {K : KS} {L : Nat → Prop} {a : Act} {w : World}

theorem tail_step (X : Ctx P T C Y ops p B w0 ιb nxb tn ds ι0 nx0 h0 hJ a0 wS vals env1 K) {i : Nat} (hi : i ∈ p.tail.map (·.1)) (hn : ¬ L i) (cl : ∀ i, L i → ∀ j ∈ predsAt ops.toList i, L j) (hr : ∀ j ∈ predsAt ops.toList i, L j)
    (S : PostS T C Y ops p B w0 ιb nxb tn ds ι0 nx0 hJ a0 vals K L a w) (r : Option Nat) (next : Act → World → Prop) (Q : Exit → Act → World → Prop)
    (hnext : ∀ a w, PostS T C Y ops p B w0 ιb nxb tn ds ι0 nx0 hJ a0 vals K (adds L i) a w → next a w) : wpOpIn (Fr r) 0 P ops Q i next a w := by
  obtain ⟨done, rest, a', ι, env, h, nx, e1, e2, e3, e4, e5, I, J, e6, e7, e8, ⟨last, got, e9, e10, e11⟩, e12⟩ := S
  have hir : i ∈ rest.map (·.1) := by
    rw [e1, List.map_append] at hi
    rcases List.mem_append.1 hi with h | h
    · obtain ⟨t, ht, rfl⟩ := List.mem_map.1 h
      exact absurd (e2 t ht) hn
    · exact h
  obtain ⟨chk, rr, rfl⟩ := tail_first e9 e3 hir cl hr
  have hnh : i ∉ p.head := fun h => (X.plan.apart h).2 hi
  have hin : i < ops.size := X.plan.inb i (mem_order.2 (.inr (.inr hi)))
  simp only [vtail_cons] at e8
  split at e8
  · exact e8.elim
  rename_i o ho
  have hoo : ops[i]? = some o := by rw [getL_eq] at ho; simpa using ho
  have hdst : dstAt ops.toList i = o.dst := by simp [dstAt, ho]
  have hlook : lookAt ops i = o.looksAt ops := by simp [lookAt, ho]
  have hpl := X.plan.plain i hin
  have hsel : ∀ cs b, o.op ≠ .select cs b := by
    intro cs b e
    simp [kindB, ho, e, isPlain] at hpl
  have hdef : ∀ c, o.op ≠ .defer c := by
    intro c e
    simp [kindB, ho, e, isPlain] at hpl
  have hsee := I.sees' X.plan hnh hin hr
  rw [hlook] at hsee
  obtain ⟨he, hw⟩ := same_of_look hsel hsee
  obtain ⟨env1', he1, hcase⟩ := vguard_ok J.env e8
  have hnodup : ∀ t ∈ rr, t.1 ≠ i := by
    intro t ht e
    have := X.plan.nodup
    unfold Plan.order at this
    rw [e1, List.map_append, List.nodup_append] at this
    have h2 := this.2.1
    rw [List.nodup_append] at h2
    have := h2.2.1
    simp only [List.map_cons, List.nodup_cons] at this
    exact this.1 (List.mem_map.2 ⟨t, ht, e⟩)
  have htail := e9
  simp only [tailOK, Bool.and_eq_true] at htail
  obtain ⟨⟨_, hloads⟩, htail⟩ := htail
  -- what is known past it
  have hpast : ∀ v env2 h' nx' ι' w', vtail std T C Y tn ops.toList hJ rr env2 h' nx' K → EnvOK ι' nx' env2 (a'.put o.dst (tr ι' v)) → RelH ι' B h' nx' w' → Below B w w' → (∀ k, k < nx → ι' k = ι k) → nx ≤ nx' →
      (chk = true → (∀ k o, look hJ k = some o → look h k = some o) → ∀ k o, look hJ k = some o → look h' k = some o) → next (a.put o.dst (tr ι' v)) w' := by
    intro v env2 h' nx' ι' w' k1 k2 k3 k4 k5 k6 k7
    refine hnext _ _ ?_
    have hI := I.other X.plan X.heads hnh (tr ι' v)
    rw [hdst] at hI
    refine ⟨done ++ [(i, chk)], rr, a'.put o.dst (tr ι' v), ι', env2, h', nx', by rw [e1]; simp, fun t ht => ?_, fun t ht => ?_, fun j hj => .inr (e4 j hj), fun j hj hk => .inr (e5 j hj hk), hI, J.step k2 k3 k4 k5 k6 (by rw [put_size]; exact J.size) (put_defers _ _ _), fun k hk => (k5 k (Nat.lt_of_lt_of_le hk e7)).trans (e6 k hk), Nat.le_trans e7 k6, k1, ⟨some i, predsC ops.toList i ++ got, htail, fun x hx => ?_, fun l => ?_⟩, ?_⟩
    · rcases List.mem_append.1 ht with ht | ht
      · exact .inr (e2 t ht)
      · simp at ht; subst ht; exact .inl rfl
    · rintro (h | h)
      · exact hnodup t ht h
      · exact e3 t (by simp [ht]) h
    · rcases List.mem_append.1 hx with hx | hx
      · exact .inr (predsC_all cl hr x hx)
      · exact .inr (e10 x hx)
    · constructor
      · intro h; injection h with h; subst h; exact ⟨done, chk, rfl⟩
      · rintro ⟨d, c, hd⟩
        have := List.append_inj' hd rfl
        simp at this
        rw [this.2.1]
    · cases chk with
      | false =>
        refine .inl fun j hj hk => .inr ?_
        simp only [Bool.false_or] at hloads
        have := subB_spec hloads j (List.mem_filter.2 ⟨hj, by simp [hk]⟩)
        rcases List.mem_append.1 this with h | h
        · exact predsC_all cl hr j h
        · exact e10 j h
      | true =>
        rcases e12 with e12 | ⟨e12, e13⟩
        · exact .inl fun j hj hk => .inr (e12 j hj hk)
        · have hs := k7 rfl e13
          exact .inr ⟨k3.back (X.heap.sub X.sub) hs (fun k hk => (k5 k (Nat.lt_of_lt_of_le hk e7)).trans (e6 k hk)), hs⟩
  unfold wpOpIn
  simp only [hoo]
  rcases hcase with ⟨hwa, hl⟩ | ⟨hwa, hl⟩
  · rw [hw, hwa, if_pos rfl]
    obtain ⟨has, hl1⟩ := must_iff.1 hl
    clear hl
    -- the operation, with what it keeps
    have hl2 : vop std T C Y env1' h nx o.op (fun v h' nx' => (vput tn env1' o.dst v fun env' => vtail std T C Y tn ops.toList hJ rr env' h' nx' K) ∧
        (chk = true → (∀ k o, look hJ k = some o → look h k = some o) → ∀ k o, look hJ k = some o → look h' k = some o)) := by
      cases chk with
      | false =>
        have : (fun v h' nx' => (vput tn env1' o.dst v fun env' => vtail std T C Y tn ops.toList hJ rr env' h' nx' K) ∧
            (false = true → (∀ k o, look hJ k = some o → look h k = some o) → ∀ k o, look hJ k = some o → look h' k = some o)) = (fun v h' nx' => vput tn env1' o.dst v fun env' => vtail std T C Y tn ops.toList hJ rr env' h' nx' K) := by
          funext v h' nx'
          simp
        rw [this]
        exact hl1
      | true =>
        unfold asideOK at has
        simp only at has
        split at has
        case h_2 => cases has
        rename_i t x y hop
        split at has
        case h_2 => cases has
        rename_i ad hx
        split at has
        case h_2 => cases has
        rename_i hlk
        rw [hop] at hl1 ⊢
        simp only [vop] at hl1 ⊢
        obtain ⟨px, hpx, hl⟩ := on_ok hl1
        obtain ⟨v, hv, hl⟩ := on_ok hl
        rw [hpx, hv]
        simp only [on]
        rw [hpx] at hx
        injection hx with hx
        by_cases hs : ∀ k o, look hJ k = some o → look h k = some o
        · have := vstore_keep hx hlk hs hl
          refine (?_ : vstore T h nx t px v _)
          refine cast ?_ this
          congr 1
          funext v h' nx'
          exact propext ⟨fun q => ⟨q.1, fun _ _ => q.2⟩, fun q => ⟨q.1, q.2 (by trivial) hs⟩⟩
        · refine cast ?_ hl
          congr 1
          funext v h' nx'
          exact propext ⟨fun q => ⟨q, fun _ h => absurd h hs⟩, fun q => q.1⟩
    refine (vop_ok X.tab X.calls X.yields he1 J.heap hl2).upon hdef he r next Q fun v h' nx' ι' w' k1 k2 k3 k4 k5 k6 => ?_
    obtain ⟨env2, k7, k8, k9, k10⟩ := vput_ok (he1.names k6 k5) J.size k1.1 k2
    exact hpast v env2 h' nx' ι' w' k7 k8 k3 k4 k5 k6 k1.2
  · rw [hw, hwa]
    refine ⟨fun _ _ => trivial, ?_⟩
    obtain ⟨env2, k7, k8, k9, k10⟩ := vput_ok he1 J.size hl (v := undef) (scT_g rfl)
    have := hpast undef env2 h nx ι w k7 k8 J.heap (Below.refl _ _) (fun _ _ => rfl) (Nat.le_refl _) (fun _ hs => hs)
    rwa [tr_g (show gT undef = true from rfl)] at this
end
end Go.Aw
