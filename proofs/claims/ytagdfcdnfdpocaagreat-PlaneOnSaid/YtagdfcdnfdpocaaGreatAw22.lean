/-
  Regions in any order: the whole. No condition.
-/
import Derived.Test.YtagdfcdnfdpocaaGreatAw21
set_option linter.unusedSimpArgs false
set_option linter.unusedVariables false
noncomputable section
namespace Go.Aw
open Go.RowKit

section
variable {P : Program} {T : Tab} {C : VC} {Y : VY} {ops : Array Oper} {p : Plan}
variable {B : Nat} {w0 : World} {ιb : Nat → Loc} {nxb tn : Nat} {ds : List Deferred} {ι0 : Nat → Loc} {nx0 : Nat} {h0 hJ : Heap} {a0 : Act} {wS : World} {vals : List (Nat × Value)} {env1 : List (Nat × Value)} {K : KS}

def Lst (listed : Array Bool) (i : Nat) : Prop := listed.getD i false = true

theorem Lst.set {listed : Array Bool} {i : Nat} (hi : i < listed.size) : Lst (listed.setIfInBounds i true) = adds (Lst listed) i := by
  funext j
  unfold Lst adds
  apply propext
  by_cases h : j = i
  · subst h
    simp [hi]
  · rw [getD_set_ne false (fun e => h e.symm)]
    simp [h]

theorem ready_iff {listed : Array Bool} (hs : listed.size = ops.size) {i : Nat} : i ∈ Region.ready .any ops listed ↔ i < ops.size ∧ ¬ Lst listed i ∧ ∀ j ∈ predsAt ops.toList i, Lst listed j := by
  rw [mem_ready]
  constructor
  · rintro ⟨h1, o, ho, h2⟩
    have hlt := (Array.getElem?_eq_some_iff.1 ho).1
    refine ⟨hlt, ?_, fun j hj => ?_⟩
    · unfold Lst
      have hl : i < listed.size := by omega
      simp [hl] at h1 ⊢
      exact h1
    · have : getL ops.toList i = some o := by rw [getL_eq]; simpa using ho
      simp only [predsAt, this, predsOf, List.mem_filterMap] at hj
      obtain ⟨e, he, hj⟩ := hj
      split at hj
      · rename_i hb
        injection hj with hj
        subst hj
        exact h2 e (by simpa using he) hb
      · cases hj
  · rintro ⟨hlt, h1, h2⟩
    refine ⟨?_, ops[i], by simp [hlt], fun e he hb => ?_⟩
    · have hl : i < listed.size := by omega
      unfold Lst at h1
      simp [hl] at h1 ⊢
      exact h1
    · refine h2 e.on ?_
      have : getL ops.toList i = some ops[i] := by rw [getL_eq]; simp [hlt]
      simp only [predsAt, this, predsOf, List.mem_filterMap]
      exact ⟨e, by simpa using he, by rw [hb]⟩

def left (n : Nat) (listed : Array Bool) : Nat := ((List.range n).filter fun i => !listed.getD i false).length

theorem left_set {n : Nat} {listed : Array Bool} {i : Nat} (hi : i < n) (hs : listed.size = n) (hn : ¬ Lst listed i) : left n (listed.setIfInBounds i true) < left n listed := by
  unfold left
  have : (List.range n).filter (fun j => !(listed.setIfInBounds i true).getD j false) = ((List.range n).filter fun j => !listed.getD j false).filter (fun j => decide (j ≠ i)) := by
    rw [List.filter_filter]
    apply List.filter_congr
    intro j hj
    by_cases h : j = i
    · subst h
      have hl : j < listed.size := by omega
      simp [hl]
    · rw [getD_set_ne false (fun e => h e.symm)]
      simp [h]
  rw [this]
  refine Nat.lt_of_le_of_ne (List.length_filter_le _ _) fun e => ?_
  have := List.length_filter_eq_length_iff.1 e i (List.mem_filter.2 ⟨by simpa using hi, by unfold Lst at hn; simpa using hn⟩)
  simp at this

theorem all_of_stuck (hp : PlanOK ops p) {listed : Array Bool} (hs : listed.size = ops.size) (h : Region.ready .any ops listed = []) : ∀ i, i < ops.size → Lst listed i := by
  intro i
  induction i using Nat.strongRecOn with
  | _ i ih =>
    intro hi
    refine Classical.byContradiction fun hn => ?_
    have : i ∈ Region.ready .any ops listed := (ready_iff hs).2 ⟨hi, hn, fun j hj => ih j (hp.lin i hi j hj) (by have := hp.lin i hi j hj; omega)⟩
    rw [h] at this
    cases this

theorem region_done (X : Ctx P T C Y ops p B w0 ιb nxb tn ds ι0 nx0 h0 hJ a0 wS vals env1 K) {L : Nat → Prop} {a : Act} {w : World} (hall : ∀ i, i < ops.size → L i)
    (S : PreS T ops p tn ds ι0 a0 wS vals L a w ∨ PostS T C Y ops p B w0 ιb nxb tn ds ι0 nx0 hJ a0 vals K L a w) : ∃ ι env h nx, K env h nx ∧ Inv B w0 ιb nxb tn ds ι env h nx a w := by
  have hin : ∀ i ∈ p.order, L i := fun i hi => hall i (X.plan.inb i hi)
  have S : PostS T C Y ops p B w0 ιb nxb tn ds ι0 nx0 hJ a0 vals K L a w := by
    rcases S with S | S
    · exact S.post X (fun i hi => hin i (mem_order.2 (.inr (.inl hi)))) (fun i hi _ => hin i (mem_order.2 (.inl hi)))
    · exact S
  obtain ⟨done, rest, a', ι, env, h, nx, e1, e2, e3, e4, e5, I, J, e6, e7, e8, _, _⟩ := S
  cases rest with
  | cons t r => exact absurd (hin t.1 (mem_order.2 (.inr (.inr (List.mem_map.2 ⟨t, by rw [e1]; simp, rfl⟩))))) (e3 t (by simp))
  | nil =>
    exact ⟨ι, env, h, nx, e8, J.env.congr (fun d => (I.q2 d fun i hi _ => hin i (mem_order.2 (.inl hi))).symm), J.heap, J.below, J.old, J.le, I.size, I.defers⟩

theorem region_any (X : Ctx P T C Y ops p B w0 ιb nxb tn ds ι0 nx0 h0 hJ a0 wS vals env1 K) (r : Option Nat) {Q : Exit → Act → World → Prop}
    (hQ : ∀ ι env h nx a w, K env h nx → Inv B w0 ιb nxb tn ds ι env h nx a w → Q .normal a w) : ∀ (fuel : Nat) (listed : Array Bool) (a : Act) (w : World), listed.size = ops.size → left ops.size listed ≤ fuel →
    (∀ i, Lst listed i → ∀ j ∈ predsAt ops.toList i, Lst listed j) →
    (PreS T ops p tn ds ι0 a0 wS vals (Lst listed) a w ∨ PostS T C Y ops p B w0 ιb nxb tn ds ι0 nx0 hJ a0 vals K (Lst listed) a w) → wpAnyIn (Fr r) 0 P .any ops Q fuel listed a w := by
  have fin : ∀ (listed : Array Bool) (a : Act) (w : World), listed.size = ops.size → Region.ready .any ops listed = [] →
      (PreS T ops p tn ds ι0 a0 wS vals (Lst listed) a w ∨ PostS T C Y ops p B w0 ιb nxb tn ds ι0 nx0 hJ a0 vals K (Lst listed) a w) → Q .normal a w := by
    intro listed a w hs hr S
    obtain ⟨ι, env, h, nx, h1, h2⟩ := region_done X (all_of_stuck X.plan hs hr) S
    exact hQ ι env h nx a w h1 h2
  intro fuel
  induction fuel with
  | zero =>
    intro listed a w hs hl cl S
    have hr : Region.ready .any ops listed = [] := by
      refine List.eq_nil_iff_forall_not_mem.2 fun i hi => ?_
      obtain ⟨h1, h2, _⟩ := (ready_iff hs).1 hi
      have := left_set h1 hs h2
      omega
    exact ⟨hr, fin listed a w hs hr S⟩
  | succ fuel ih =>
    intro listed a w hs hl cl S
    refine ⟨fun hr => fin listed a w hs hr S, fun i hi => ?_⟩
    obtain ⟨h1, h2, h3⟩ := (ready_iff hs).1 hi
    have hL : ∀ i, Lst listed i → i < ops.size := by
      intro j hj
      unfold Lst at hj
      by_cases h : j < listed.size
      · omega
      · simp [h] at hj
    have next : ∀ a w, (PreS T ops p tn ds ι0 a0 wS vals (adds (Lst listed) i) a w ∨ PostS T C Y ops p B w0 ιb nxb tn ds ι0 nx0 hJ a0 vals K (adds (Lst listed) i) a w) →
        wpAnyIn (Fr r) 0 P .any ops Q fuel (listed.setIfInBounds i true) a w := by
      intro a w S'
      have hset := Lst.set (listed := listed) (i := i) (by omega)
      refine ih _ a w (by simp [hs]) (by have := left_set h1 hs h2; omega) ?_ (by rw [hset]; exact S')
      rw [hset]
      rintro j (rfl | hj) k hk
      · exact .inr (h3 k hk)
      · exact .inr (cl j hj k hk)
    rcases mem_order.1 (X.plan.cover i h1) with h | h | h
    · exact head_step X cl hL h h2 h3 S r _ Q next
    · rcases S with S | S
      · exact alloc_step X h h2 S r _ Q fun a w s => next a w (.inl s)
      · obtain ⟨_, _, _, _, _, _, _, _, _, _, e4, _⟩ := S
        exact absurd (e4 i h) h2
    · have S : PostS T C Y ops p B w0 ιb nxb tn ds ι0 nx0 hJ a0 vals K (Lst listed) a w := by
        rcases S with S | S
        · have hfirst := tail_first X.plan.tailP (L := Lst listed) (fun t ht => S.noT _ (List.mem_map.2 ⟨t, ht, rfl⟩)) h cl h3
          obtain ⟨c, rr, hrr⟩ := hfirst
          obtain ⟨f1, f2⟩ := X.plan.first i c rr hrr
          exact S.post X (fun j hj => predsC_all cl h3 j (f1 j hj)) (fun j hj hk => predsC_all cl h3 j (f2 j hj hk))
        · exact S
      exact tail_step X h h2 cl h3 S r _ Q fun a w s => next a w (.inr s)

theorem vregion_ok (hT : TabOK P T) (hC : CallsOK P C) (hY : YieldsOK P Y) (hD : DetC C) (hm : P.follows .mixedOrders = true) (hp : PlanOK ops p) {ι : Nat → Loc} {env : List (Nat × Value)} {h : Heap} {nx : Nat} {a : Act} {w : World} (I : Inv B w0 ιb nxb tn ds ι env h nx a w)
    (hl : vregion std T C Y tn ops.toList p env h nx K) (r : Option Nat) {id : Nat} {Q : Exit → Act → World → Prop} (hQ : ∀ ι env h nx a w, K env h nx → Inv B w0 ιb nxb tn ds ι env h nx a w → Q .normal a w) :
    (Code.region id ops true).wpIn (Fr r) 0 P Q a w := by
  refine wpIn_region_any hm ?_
  unfold vregion at hl
  have H := I.heap.drawn (w.drawn + 1)
  have hb : Below B w { w with drawn := w.drawn + 1 } := ⟨rfl, rfl, rfl, Nat.le_refl _, fun _ _ => rfl⟩
  have hsub : ∀ k o, look (asideHeap ops.toList env p.tail h) k = some o → look h k = some o := fun k o hk => asideHeap_sub hk
  obtain ⟨vals, env1, k1, k2, k3, k4, k5⟩ := vhead_ok hT hC hD hp.plain (H.sub hsub) p.head env a hl I.env I.size
  have X : Ctx P T C Y ops p B w0 ιb nxb tn ds ι nx h (asideHeap ops.toList env p.tail h) a { w with drawn := w.drawn + 1 } vals env1 K :=
    ⟨hT, hC, hY, hp, I.old, I.le, I.size, I.defers, H, I.below.trans hb, hsub, k2, k3, k4, k5, k1⟩
  have hno : ∀ i, ¬ Lst (Array.replicate ops.size false) i := by
    intro i
    unfold Lst
    by_cases h : i < ops.size <;> simp [h]
  refine region_any X r hQ ops.size _ a _ (by simp) ?_ (fun i hi => absurd hi (hno i)) (.inl ?_)
  · unfold left
    exact Nat.le_trans (List.length_filter_le _ _) (by simp)
  · refine ⟨fun t _ => hno t, Below.refl _ _, putAll ops ι vals a, fun _ => 0, ?_, fun d _ => rfl, fun i _ hi => absurd hi (hno i), fun i _ j _ hi => absurd hi (hno i)⟩
    have hmem : ∀ i v, (i, v) ∈ vals → i ∈ p.head := fun i v h => by rw [← k2]; exact List.mem_map.2 ⟨_, h, rfl⟩
    have hnd : (vals.map (·.1)).Nodup := by
      have := hp.nodup
      unfold Plan.order at this
      rw [List.append_assoc, List.nodup_append] at this
      rw [k2]
      exact this.1
    refine ⟨I.size, by rw [putAll_size]; exact I.size, I.defers, by rw [putAll_defers]; exact I.defers, fun i v d hi hd => ?_, fun d hd => ?_, fun d hd => ?_, fun i d _ _ _ => rfl⟩
    · exact putAll_some vals a (by rw [I.size]; exact k4 _ hi d hd) hi hd (fun q hq h2 => hp.dsts _ _ d (dst_lt h2) (dst_lt hd) h2 hd) hnd
    · rw [putAll_none]
      intro q hq hqd
      exact hno q.1 (hd q.1 (hmem q.1 q.2 hq) hqd)
    · rw [putAll_none]
      intro q hq
      exact hd q.1 (.inl (hmem q.1 q.2 hq))
end
end Go.Aw
