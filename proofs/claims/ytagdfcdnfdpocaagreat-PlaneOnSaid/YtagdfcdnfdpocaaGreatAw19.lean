/-
  Regions in any order: temporaries. No condition.
-/
import Derived.Test.YtagdfcdnfdpocaaGreatAw18
set_option linter.unusedSimpArgs false
set_option linter.unusedVariables false
noncomputable section
namespace Go.Aw
open Go.RowKit

section
variable {P : Program} {T : Tab} {C : VC} {Y : VY} {ops : Array Oper} {p : Plan}

theorem same_of_look {o : Oper} (hs : ∀ cs b, o.op ≠ .select cs b) {a a' : Act} (h : ∀ t ∈ o.looksAt ops, a.tmps[t]? = a'.tmps[t]?) :
    execOp a.eval o = execOp a'.eval o ∧ Region.wanted o (yielded ops a.tmps) = Region.wanted o (yielded ops a'.tmps) := by
  refine ⟨execOp_congr o hs fun x hx => ?_, ?_⟩
  · cases x with
    | tmp t =>
      have := h t (List.mem_append_left _ (List.mem_filterMap.2 ⟨.tmp t, by simpa using hx, rfl⟩))
      simp [Act.eval, this]
    | _ => rfl
  · unfold Region.wanted
    cases hg : o.guard with
    | none => rfl
    | some gw =>
      obtain ⟨g, want⟩ := gw
      have : yielded ops a.tmps g = yielded ops a'.tmps g := by
        unfold yielded
        cases ht : (ops[g]?).bind (·.dst) with
        | none => rfl
        | some t =>
          have := h t (List.mem_append_right _ (by simp [hg, ht]))
          simp [this]
      simp only [this]

theorem put_get (a : Act) (dst : Option Nat) (v : Value) (t : Nat) : (a.put dst v).tmps[t]? = if dst = some t ∧ t < a.tmps.size then some v else a.tmps[t]? := by
  cases dst with
  | none => simp [Act.put]
  | some d =>
    by_cases h : d = t
    · subst h
      by_cases hl : d < a.tmps.size
      · rw [if_pos ⟨rfl, hl⟩]; simp [Act.put, Array.getElem?_setIfInBounds_self_of_lt hl]
      · rw [if_neg (fun e => hl e.2)]
        simp [Act.put, Array.getElem?_setIfInBounds, hl]
    · rw [if_neg (fun e => h (Option.some.inj e.1))]
      simp only [Act.put]
      exact Array.getElem?_setIfInBounds_ne h
theorem put_get_ne {a : Act} {dst : Option Nat} {v : Value} {t : Nat} (h : dst ≠ some t) : (a.put dst v).tmps[t]? = a.tmps[t]? := by
  rw [put_get, if_neg (fun e => h e.1)]
theorem put_get_eq {a : Act} {v : Value} {t : Nat} (h : t < a.tmps.size) : (a.put (some t) v).tmps[t]? = some v := by
  rw [put_get, if_pos ⟨rfl, h⟩]
theorem put_size (a : Act) (dst : Option Nat) (v : Value) : (a.put dst v).tmps.size = a.tmps.size := by
  cases dst <;> simp [Act.put]
theorem put_defers (a : Act) (dst : Option Nat) (v : Value) : (a.put dst v).defers = a.defers := by
  cases dst <;> rfl

def putAll (ops : Array Oper) (ι : Nat → Loc) (vals : List (Nat × Value)) (a : Act) : Act := vals.foldl (fun a q => a.put (dstAt ops.toList q.1) (tr ι q.2)) a
theorem putAll_size {ι : Nat → Loc} : ∀ (vals : List (Nat × Value)) (a : Act), (putAll ops ι vals a).tmps.size = a.tmps.size
  | [], a => rfl
  | q :: r, a => by
    have := putAll_size (ι := ι) r (a.put (dstAt ops.toList q.1) (tr ι q.2))
    rw [put_size] at this
    exact this
theorem putAll_defers {ι : Nat → Loc} : ∀ (vals : List (Nat × Value)) (a : Act), (putAll ops ι vals a).defers = a.defers
  | [], a => rfl
  | q :: r, a => by
    have := putAll_defers (ι := ι) r (a.put (dstAt ops.toList q.1) (tr ι q.2))
    rw [put_defers] at this
    exact this
theorem putAll_none {ι : Nat → Loc} {d : Nat} : ∀ (vals : List (Nat × Value)) (a : Act), (∀ q ∈ vals, dstAt ops.toList q.1 ≠ some d) → (putAll ops ι vals a).tmps[d]? = a.tmps[d]?
  | [], a, _ => rfl
  | q :: r, a, h => by
    have := putAll_none (ι := ι) r (a.put (dstAt ops.toList q.1) (tr ι q.2)) (fun x hx => h x (by simp [hx]))
    rw [put_get_ne (h q (by simp))] at this
    exact this
theorem putAll_some {ι : Nat → Loc} {d i : Nat} {v : Value} : ∀ (vals : List (Nat × Value)) (a : Act), d < a.tmps.size → (i, v) ∈ vals → dstAt ops.toList i = some d → (∀ q ∈ vals, dstAt ops.toList q.1 = some d → q.1 = i) → (vals.map (·.1)).Nodup →
    (putAll ops ι vals a).tmps[d]? = some (tr ι v)
  | [], a, _, h, _, _, _ => by cases h
  | q :: r, a, hd, hm, hi, hu, hn => by
    simp only [List.map_cons, List.nodup_cons] at hn
    rcases List.mem_cons.1 hm with rfl | hm
    · have := putAll_none (ops := ops) (ι := ι) (d := d) r (a.put (dstAt ops.toList i) (tr ι v)) (fun x hx e => by
        have := hu x (by simp [hx]) e
        exact hn.1 (List.mem_map.2 ⟨x, hx, this⟩))
      show (putAll ops ι r (a.put (dstAt ops.toList i) (tr ι v))).tmps[d]? = _
      rw [this, hi, put_get_eq hd]
    · exact putAll_some r (a.put (dstAt ops.toList q.1) (tr ι q.2)) (by rw [put_size]; exact hd) hm hi (fun x hx => hu x (by simp [hx])) hn.2
theorem putAll_append {ι : Nat → Loc} (x y : List (Nat × Value)) (a : Act) : putAll ops ι (x ++ y) a = putAll ops ι y (putAll ops ι x a) := by
  simp [putAll, List.foldl_append]

/-- The head's operation i yields v, if the temporaries are so. -/
def Yld (P : Program) (ops : Array Oper) (ι : Nat → Loc) (B nx : Nat) (hJ : Heap) (wS : World) (i : Nat) (v : Value) (a : Act) : Prop :=
  ∃ o, ops[i]? = some o ∧ scT ι nx v ∧ (∀ c, o.op ≠ .defer c) ∧ ((Region.wanted o (yielded ops a.tmps) = false ∧ v = undef) ∨
    (Region.wanted o (yielded ops a.tmps) = true ∧ ∀ w, RelH ι B (heapOf o.op hJ) nx w → (isStrong o.op = true → Below wS.heap.size wS w) → Run1 P (execOp a.eval o) w (tr ι v)))

theorem vput_lt {tn : Nat} {env : List (Nat × Value)} {dst : Option Nat} {v : Value} {K : List (Nat × Value) → Prop} (hl : vput tn env dst v K) : ∀ d, dst = some d → d < tn := by
  rintro d rfl
  simp only [vput] at hl
  split at hl
  · rename_i h; exact blt_true h
  · exact hl.elim

theorem vhead_ok (hT : TabOK P T) (hC : CallsOK P C) (hD : DetC C) (hp : ∀ i, i < ops.size → kindB isPlain ops.toList i = true) {tn : Nat} {ι : Nat → Loc} {B nx : Nat} {hJ : Heap} {wS : World} (H : RelH ι B hJ nx wS) {K : List (Nat × Value) → Prop} :
    ∀ (l : List Nat) (env : List (Nat × Value)) (a : Act), vhead std T C tn ops.toList hJ nx l env K → EnvOK ι nx env a → a.tmps.size = tn →
    ∃ vals env1, K env1 ∧ vals.map (·.1) = l ∧ EnvOK ι nx env1 (putAll ops ι vals a) ∧ (∀ q ∈ vals, ∀ d, dstAt ops.toList q.1 = some d → d < tn) ∧
      ∀ pre i v post, vals = pre ++ (i, v) :: post → Yld P ops ι B nx hJ wS i v (putAll ops ι pre a)
  | [], env, a, hl, he, hs => ⟨[], env, hl, rfl, he, by simp, by simp⟩
  | i :: r, env, a, hl, he, hs => by
    simp only [vhead_cons] at hl
    split at hl
    · exact hl.elim
    rename_i o ho
    have hdst : dstAt ops.toList i = o.dst := by simp [dstAt, ho]
    have hoi : ops[i]? = some o := by rw [getL_eq] at ho; simpa using ho
    have hlt : i < ops.size := (Array.getElem?_eq_some_iff.1 hoi).1
    have hdef : ∀ c, o.op ≠ .defer c := by
      intro c e
      have := hp i hlt
      simp [kindB, ho, e, isPlain] at this
    obtain ⟨env1, he1, hcase⟩ := vguard_ok he hl
    have main : ∃ v, scT ι nx v ∧ Yld P ops ι B nx hJ wS i v a ∧ vput tn env1 o.dst v fun env => vhead std T C tn ops.toList hJ nx r env K := by
      rcases hcase with ⟨hw, hl⟩ | ⟨hw, hl⟩
      · obtain ⟨v, h1, h2, h3⟩ := vquiet_ok hT hC hD he1 H hl
        exact ⟨v, h2, ⟨o, hoi, h2, hdef, .inr ⟨hw, h3⟩⟩, h1⟩
      · exact ⟨undef, scT_g rfl, ⟨o, hoi, scT_g rfl, hdef, .inl ⟨hw, rfl⟩⟩, hl⟩
    obtain ⟨v, hv, hy, hl⟩ := main
    obtain ⟨env2, k1, k2, k3, k4⟩ := vput_ok he1 hs hl hv
    rw [← hdst] at k2 k3
    obtain ⟨vals, env3, h1, h2, h3, h4, h5⟩ := vhead_ok hT hC hD hp H r env2 _ k1 k2 k3
    refine ⟨(i, v) :: vals, env3, h1, by simp [h2], h3, fun q hq d hd => ?_, fun pre j u post e => ?_⟩
    · rcases List.mem_cons.1 hq with rfl | hq
      · exact vput_lt hl d (by rw [← hdst]; exact hd)
      · exact h4 q hq d hd
    · cases pre with
      | nil =>
        simp only [List.nil_append, List.cons.injEq, Prod.mk.injEq] at e
        obtain ⟨⟨rfl, rfl⟩, rfl⟩ := e
        exact hy
      | cons q pre =>
        simp only [List.cons_append, List.cons.injEq] at e
        obtain ⟨rfl, rfl⟩ := e
        exact h5 pre j u post rfl

/-- The temporaries on the way: 'a' has what has been listed, 'a'' the whole head as well. -/
structure TInv (ops : Array Oper) (p : Plan) (ι : Nat → Loc) (vals : List (Nat × Value)) (tn : Nat) (ds : List Deferred) (a0 : Act) (L : Nat → Prop) (a a' : Act) : Prop where
  size : a.tmps.size = tn
  size' : a'.tmps.size = tn
  defers : a.defers = ds
  defers' : a'.defers = ds
  q1 : ∀ i v d, (i, v) ∈ vals → dstAt ops.toList i = some d → a'.tmps[d]? = some (tr ι v)
  q2 : ∀ d, (∀ i ∈ p.head, dstAt ops.toList i = some d → L i) → a.tmps[d]? = a'.tmps[d]?
  q3 : ∀ d, (∀ i, i ∈ p.head ∨ L i → dstAt ops.toList i ≠ some d) → a'.tmps[d]? = a0.tmps[d]?
  q4 : ∀ i d, i ∈ p.head → ¬ L i → dstAt ops.toList i = some d → a.tmps[d]? = a0.tmps[d]?

def adds (L : Nat → Prop) (i : Nat) : Nat → Prop := fun j => j = i ∨ L j

variable {ι : Nat → Loc} {vals : List (Nat × Value)} {tn : Nat} {ds : List Deferred} {a0 : Act} {L : Nat → Prop} {a a' : Act}

theorem dst_lt {i d : Nat} (h : dstAt ops.toList i = some d) : i < ops.size := by
  unfold dstAt at h
  split at h
  · rename_i o ho
    rw [getL_eq] at ho
    have : ops[i]? = some o := by simpa using ho
    exact (Array.getElem?_eq_some_iff.1 this).1
  · cases h

theorem TInv.head (hp : PlanOK ops p) (I : TInv ops p ι vals tn ds a0 L a a') (hv : vals.map (·.1) = p.head) (hd : ∀ q ∈ vals, ∀ d, dstAt ops.toList q.1 = some d → d < tn) {i : Nat} {v : Value} (hi : (i, v) ∈ vals) :
    TInv ops p ι vals tn ds a0 (adds L i) (a.put (dstAt ops.toList i) (tr ι v)) a' := by
  refine ⟨by rw [put_size]; exact I.size, I.size', by rw [put_defers]; exact I.defers, I.defers', I.q1, fun d h => ?_, fun d h => I.q3 d (fun j hj => h j (hj.imp id .inr)), fun j d hj hn hjd => ?_⟩
  · by_cases e : dstAt ops.toList i = some d
    · rw [e, put_get_eq (by rw [I.size]; exact hd _ hi d e), I.q1 i v d hi e]
    · rw [put_get_ne e]
      refine I.q2 d fun j hj hjd => ?_
      rcases h j hj hjd with rfl | h
      · exact absurd hjd e
      · exact h
  · have hij : j ≠ i := fun e => hn (.inl e)
    rw [put_get_ne (fun e => hij (hp.dsts j i d (dst_lt hjd) (dst_lt e) hjd e))]
    exact I.q4 j d hj (fun h => hn (.inr h)) hjd

theorem TInv.other (hp : PlanOK ops p) (I : TInv ops p ι vals tn ds a0 L a a') (hv : vals.map (·.1) = p.head) {j : Nat} (hj : j ∉ p.head) (u : Value) :
    TInv ops p ι vals tn ds a0 (adds L j) (a.put (dstAt ops.toList j) u) (a'.put (dstAt ops.toList j) u) := by
  have hne : ∀ i d, i ∈ p.head → dstAt ops.toList i = some d → dstAt ops.toList j ≠ some d := fun i d hi hd e => hj (by rw [hp.dsts j i d (dst_lt e) (dst_lt hd) e hd]; exact hi)
  have hmem : ∀ i v, (i, v) ∈ vals → i ∈ p.head := fun i v h => by rw [← hv]; exact List.mem_map.2 ⟨_, h, rfl⟩
  refine ⟨by rw [put_size]; exact I.size, by rw [put_size]; exact I.size', by rw [put_defers]; exact I.defers, by rw [put_defers]; exact I.defers', fun i v d hi hd => ?_, fun d h => ?_, fun d h => ?_, fun i d hi hn hid => ?_⟩
  · rw [put_get_ne (hne i d (hmem i v hi) hd)]
    exact I.q1 i v d hi hd
  · rw [put_get, put_get, I.size, I.size']
    by_cases e : dstAt ops.toList j = some d ∧ d < tn
    · rw [if_pos e, if_pos e]
    · rw [if_neg e, if_neg e]
      refine I.q2 d fun i hi hid => ?_
      rcases h i hi hid with rfl | h
      · exact absurd hi hj
      · exact h
  · rw [put_get_ne (h j (.inr (.inl rfl)))]
    exact I.q3 d fun i hi => h i (hi.imp id .inr)
  · rw [put_get_ne (hne i d hi hid)]
    exact I.q4 i d hi (fun h => hn (.inr h)) hid

theorem mem_order {i : Nat} : i ∈ p.order ↔ i ∈ p.head ∨ i ∈ p.allocs ∨ i ∈ p.tail.map (·.1) := by simp [Plan.order]
theorem PlanOK.apart (hp : PlanOK ops p) {i : Nat} (hi : i ∈ p.head) : i ∉ p.allocs ∧ i ∉ p.tail.map (·.1) := by
  have := hp.nodup
  unfold Plan.order at this
  rw [List.append_assoc, List.nodup_append] at this
  exact ⟨fun h => this.2.2 i hi i (List.mem_append_left _ h) rfl, fun h => this.2.2 i hi i (List.mem_append_right _ h) rfl⟩
theorem PlanOK.apart2 (hp : PlanOK ops p) {i : Nat} (hi : i ∈ p.allocs) : i ∉ p.tail.map (·.1) := by
  have := hp.nodup
  unfold Plan.order at this
  rw [List.nodup_append] at this
  exact fun h => this.2.2 i (List.mem_append_right _ hi) i h rfl

/-- What the head's operation looks at is what it was when it was reckoned. -/
theorem TInv.sees (hp : PlanOK ops p) (I : TInv ops p ι vals tn ds a0 L a a') (hv : vals.map (·.1) = p.head) (hd : ∀ q ∈ vals, ∀ d, dstAt ops.toList q.1 = some d → d < tn) (h0 : a0.tmps.size = tn)
    (cl : ∀ i, L i → ∀ j ∈ predsAt ops.toList i, L j) (hL : ∀ i, L i → i < ops.size) {pre post : List (Nat × Value)} {i : Nat} {v : Value} (e : vals = pre ++ (i, v) :: post) (hn : ¬ L i) (hr : ∀ j ∈ predsAt ops.toList i, L j) :
    ∀ t ∈ lookAt ops i, a.tmps[t]? = (putAll ops ι pre a0).tmps[t]? := by
  intro t ht
  have hih : i ∈ p.head := by rw [← hv, e]; simp
  have hin : i < ops.size := hp.inb i (mem_order.2 (.inl hih))
  have hhead : p.head = pre.map (·.1) ++ i :: post.map (·.1) := by rw [← hv, e]; simp
  have hnd : (p.head).Nodup := by
    have := hp.nodup
    unfold Plan.order at this
    rw [List.append_assoc, List.nodup_append] at this
    exact this.1
  have hpre : ∀ j ∈ predsAt ops.toList i, j ∈ pre.map (·.1) := fun j hj => by
    rcases headOK_spec hp.headP _ _ _ hhead j hj with h | h
    · cases h
    · exact h
  have hni : i ∉ pre.map (·.1) := fun hm => by
    rw [hhead, List.nodup_append] at hnd
    exact hnd.2.2 i hm i (by simp) rfl
  by_cases hex : ∃ j ∈ p.head, dstAt ops.toList j = some t
  · obtain ⟨j, hj, hjt⟩ := hex
    by_cases hji : j = i
    · subst hji
      rw [I.q4 j t hj hn hjt]
      rw [putAll_none]
      intro q hq hqt
      have := hp.dsts _ _ t (dst_lt hqt) (dst_lt hjt) hqt hjt
      exact hni (List.mem_map.2 ⟨q, hq, this⟩)
    · have hjp := hp.look1 j (.inl hj) i hin (fun e => hji e.symm) t hjt ht
      have hjL := hr j hjp
      obtain ⟨q, hq, hqj⟩ := List.mem_map.1 (hpre j hjp)
      obtain ⟨j', u⟩ := q
      simp only at hqj
      subst hqj
      have hqv : (j', u) ∈ vals := by rw [e]; exact List.mem_append_left _ hq
      rw [I.q2 t (fun j2 hj2 h2 => by rw [hp.dsts j2 j' t (dst_lt h2) (dst_lt hjt) h2 hjt]; exact hjL), I.q1 j' u t hqv hjt]
      rw [putAll_some pre a0 (by rw [h0]; exact hd _ hqv t hjt) hq hjt (fun q2 hq2 h2 => hp.dsts _ _ t (dst_lt h2) (dst_lt hjt) h2 hjt) (by
        rw [hhead, List.nodup_append] at hnd
        exact hnd.1)]
  · have hex' : ∀ j ∈ p.head, dstAt ops.toList j ≠ some t := fun j hj h => hex ⟨j, hj, h⟩
    rw [I.q2 t (fun j hj h => absurd h (hex' j hj)), I.q3 t, putAll_none]
    · intro q hq
      exact hex' _ (by rw [hhead]; exact List.mem_append_left _ (List.mem_map.2 ⟨q, hq, rfl⟩))
    · intro j hj
      rcases hj with hj | hj
      · exact hex' j hj
      · intro hjt
        rcases mem_order.1 (hp.cover j (hL j hj)) with h | h | h
        · exact hex' j h hjt
        · have hne : i ≠ j := fun e => (hp.apart hih).1 (e ▸ h)
          have := hpre j (hp.look1 j (.inr h) i hin hne t hjt ht)
          exact (hp.apart (i := j) (by rw [hhead]; exact List.mem_append_left _ this)).1 h
        · obtain ⟨⟨t', c⟩, htc, rfl⟩ := List.mem_map.1 h
          exact hn (cl t' hj i (hp.look2 t' c htc i hih t hjt ht))

/-- What another operation looks at is there. -/
theorem TInv.sees' (hp : PlanOK ops p) (I : TInv ops p ι vals tn ds a0 L a a') {j : Nat} (hj : j ∉ p.head) (hjn : j < ops.size) (hr : ∀ i ∈ predsAt ops.toList j, L i) :
    ∀ t ∈ lookAt ops j, a.tmps[t]? = a'.tmps[t]? := fun t ht =>
  I.q2 t fun i hi hit => hr i (hp.look1 i (.inl hi) j hjn (fun e => hj (e ▸ hi)) t hit ht)
end
end Go.Aw
