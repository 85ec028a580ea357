/-
  Regions in any order: the machine does what was reckoned. No condition.
-/
import Derived.Test.YtagdfcdnfdpocaaGreatAw19
set_option linter.unusedSimpArgs false
set_option linter.unusedVariables false
noncomputable section
namespace Go.Aw
open Go.RowKit

section
variable {P : Program} {T : Tab} {C : VC} {Y : VY} {ops : Array Oper} {p : Plan}

theorem RelH.sub {ι : Nat → Loc} {B nx : Nat} {h h' : Heap} {w : World} (H : RelH ι B h nx w) (hs : ∀ k o, look h' k = some o → look h k = some o) : RelH ι B h' nx w :=
  ⟨fun k o hk => H.obj k o (hs k o hk), fun k k' o o' h1 h2 => H.sep k k' o o' (hs _ _ h1) (hs _ _ h2), fun k o hk => H.low k o (hs k o hk), H.size, fun k o hk => H.sc k o (hs k o hk)⟩

/-- A part of the heap that has stayed, under the names of then. -/
theorem RelH.back {ι ι0 : Nat → Loc} {B nx nx0 : Nat} {h hJ : Heap} {w wS : World} (H : RelH ι B h nx w) (HS : RelH ι0 B hJ nx0 wS) (hs : ∀ k o, look hJ k = some o → look h k = some o) (hi : ∀ k, k < nx0 → ι k = ι0 k) : RelH ι0 B hJ nx0 w := by
  refine ⟨fun k o hk => ?_, HS.sep, HS.low, H.size, HS.sc⟩
  have h1 := H.obj k o (hs k o hk)
  have h2 : OSc ι nx0 o := (HS.sc k o hk).mono (Nat.le_refl _) hi
  have h3 := h1.names h2 (ι' := ι0) (fun j hj => (hi j hj).symm)
  rwa [hi k (HS.low k o hk)] at h3

theorem run1_wpIn {o : Oper} {a b : Act} {w : World} {u : Value} (hr : Run1 P (execOp b.eval o) w u) (he : execOp a.eval o = execOp b.eval o) (hd : ∀ c, o.op ≠ .defer c) (r : Option Nat) (next : Act → World → Prop) (Q : Exit → Act → World → Prop)
    (hn : ∀ w', Below w.heap.size w w' → next (a.put o.dst u) w') : o.wpIn (Fr r) 0 P a w next Q := by
  refine ⟨fun _ _ => trivial, ?_⟩
  rw [semAt_eq hd, he]
  rcases hr with h | ⟨f, args, h, hc⟩
  · rw [h]
    exact hn w (Below.refl _ _)
  · rw [h]
    refine ⟨fun hdep => absurd hdep (by simp [Fr, Fence.wide]), ?_⟩
    refine CallsIn.mono (F := Fence.wide) hc fun e w' hret => ?_
    obtain ⟨rfl, hb⟩ := hret
    exact hn w' hb

def AllocAt (T : Tab) (ops : Array Oper) (wS : World) (i b : Nat) (a : Act) (w : World) : Prop :=
  wS.heap.size ≤ b ∧ ∃ o t d ti, getL ops.toList i = some o ∧ o.op = .alloc t ∧ o.dst = some d ∧ look T t = some ti ∧ w.heap[b]? = some (.cells ti.zv.cells t (0, 0)) ∧ a.tmps[d]? = some (.pointer (some ⟨b, 0, none⟩))

theorem vallocs_facts {tn : Nat} {l : List Oper} {K : KS} : ∀ {al : List Nat} {env : List (Nat × Value)} {h : Heap} {nx : Nat}, vallocs T tn l al env h nx K →
    ∀ i ∈ al, ∃ o t d ti, getL l i = some o ∧ o.op = .alloc t ∧ o.dst = some d ∧ d < tn ∧ look T t = some ti
  | [], _, _, _, _, i, hi => by cases hi
  | j :: r, env, h, nx, hl, i, hi => by
    simp only [vallocs_cons] at hl
    split at hl
    case h_2 => exact hl.elim
    rename_i d t ty pos after gd ho
    split at hl
    case h_2 => exact hl.elim
    rename_i ti hti
    have hd := vput_lt hl d rfl
    rcases List.mem_cons.1 hi with rfl | hi
    · exact ⟨_, t, d, ti, ho, rfl, rfl, hd, hti⟩
    · simp only [vput] at hl
      split at hl
      · exact vallocs_facts hl i hi
      · exact hl.elim

theorem EnvOK.congr {ι : Nat → Loc} {n : Nat} {env : List (Nat × Value)} {a a' : Act} (he : EnvOK ι n env a) (h : ∀ d : Nat, a.tmps[d]? = a'.tmps[d]?) : EnvOK ι n env a' := fun t v hv => by
  rw [← h t]; exact he t v hv

theorem vallocs_ok (hT : TabOK P T) {tn B : Nat} {wS w : World} (hB : B ≤ wS.heap.size) {K : KS} {a' : Act} {bs : Nat → Nat} : ∀ (al : List Nat) (ι : Nat → Loc) (env : List (Nat × Value)) (h : Heap) (nx : Nat) (a : Act),
    vallocs T tn ops.toList al env h nx K → EnvOK ι nx env a → a.tmps.size = tn → RelH ι B h nx w → (∀ i ∈ al, AllocAt T ops wS i (bs i) a' w) → al.Nodup → (∀ i ∈ al, ∀ j ∈ al, bs i = bs j → i = j) →
    (∀ k o b, look h k = some o → (ι k).blk = some b → ∀ i ∈ al, b ≠ bs i) → (∀ d, (∀ i ∈ al, dstAt ops.toList i ≠ some d) → a.tmps[d]? = a'.tmps[d]?) →
    ∃ ι' env' h' nx', K env' h' nx' ∧ EnvOK ι' nx' env' a' ∧ RelH ι' B h' nx' w ∧ (∀ k, k < nx → ι' k = ι k) ∧ nx ≤ nx' ∧ ∀ k, k < nx → look h' k = look h k
  | [], ι, env, h, nx, a, hl, he, hs, H, hal, hnd, hinj, hsep, hd => ⟨ι, env, h, nx, hl, he.congr (fun d => hd d (by simp)), H, fun _ _ => rfl, Nat.le_refl _, fun _ _ => rfl⟩
  | i :: r, ι, env, h, nx, a, hl, he, hs, H, hal, hnd, hinj, hsep, hd => by
    simp only [vallocs_cons] at hl
    split at hl
    case h_2 => exact hl.elim
    rename_i d t ty pos after gd ho
    split at hl
    case h_2 => exact hl.elim
    rename_i ti hti
    obtain ⟨hb, o', t', d', ti', h1, h2, h3, h4, h5, h6⟩ := hal i (by simp)
    rw [ho] at h1
    injection h1 with h1
    subst h1
    simp only at h2 h3
    injection h2 with h2
    injection h3 with h3
    subst h2; subst h3
    rw [hti] at h4
    injection h4 with h4
    subst h4
    have hz := zv_cells hT hti
    have hdi : dstAt ops.toList i = some d := by simp [dstAt, ho]
    have hadd := H.add (.cells true false 1 ti.zv.cells.toList) (.at (bs i) 0 0) (by
      refine ⟨Nat.le_trans hB hb, by simp, ti.zv.cells, t, h5, by simp, fun j v hv => ?_⟩
      rw [Nat.zero_add, ← Array.getElem?_toList, hv, trS_g (hz v (List.mem_of_getElem? hv))]) (fun v hv => scS_g (hz v hv)) (by
      intro k o' hk _ b hb' e
      have : bs i = b := by simpa [Loc.blk] using hb'
      exact hsep k o' b hk e i (by simp) this.symm)
    have hsc : scT (ins ι nx (.at (bs i) 0 0)) (nx + 1) (.pointer (some ⟨nx, 0, none⟩)) := by simp [scT, scA, scS, scP, ins_same, Loc.isAt]
    obtain ⟨env', k1, k2, k3, _⟩ := vput_ok (he.names (ι' := ins ι nx (.at (bs i) 0 0)) (m := nx + 1) (by omega) (fun k hk => ins_lt _ _ hk)) hs hl hsc
    have htr : tr (ins ι nx (.at (bs i) 0 0)) (.pointer (some ⟨nx, 0, none⟩)) = .pointer (some ⟨bs i, 0, none⟩) := by simp [tr_pointer, ins_same]
    rw [htr] at k2 k3
    rw [List.nodup_cons] at hnd
    obtain ⟨ι', env2, h2, nx2, q1, q2, q3, q4, q5, q6⟩ := vallocs_ok hT hB r _ env' _ (nx + 1) _ k1 k2 k3 hadd (fun j hj => hal j (by simp [hj])) hnd.2 (fun x hx y hy => hinj x (by simp [hx]) y (by simp [hy])) (by
      intro k o' b hk hkb j hj e
      rw [look_upd] at hk
      by_cases hkn : k = nx
      · subst hkn
        rw [ins_same] at hkb
        have : bs i = b := by simpa [Loc.blk] using hkb
        have := hinj i (by simp) j (by simp [hj]) (this.trans e)
        exact hnd.1 (this ▸ hj)
      · rw [if_neg hkn] at hk
        rw [ins_ne _ _ hkn] at hkb
        exact hsep k o' b hk hkb j (by simp [hj]) e) (by
      intro d2 h2
      by_cases e : d2 = d
      · subst e
        rw [put_get_eq (by have := vput_lt hl d2 rfl; omega)]
        exact h6.symm
      · rw [put_get_ne (fun e' => e (Option.some.inj e').symm)]
        refine hd d2 fun j hj => ?_
        rcases List.mem_cons.1 hj with rfl | hj
        · rw [hdi]; exact fun e' => e (Option.some.inj e').symm
        · exact h2 j hj)
    exact ⟨ι', env2, h2, nx2, q1, q2, q3, fun k hk => (q4 k (by omega)).trans (ins_lt _ _ hk), by omega, fun k hk => (q6 k (by omega)).trans (look_upd_ne _ _ (by omega))⟩

/-- All that stays through a region. -/
structure Ctx (P : Program) (T : Tab) (C : VC) (Y : VY) (ops : Array Oper) (p : Plan) (B : Nat) (w0 : World) (ιb : Nat → Loc) (nxb tn : Nat) (ds : List Deferred) (ι0 : Nat → Loc) (nx0 : Nat) (h0 hJ : Heap) (a0 : Act) (wS : World)
    (vals : List (Nat × Value)) (env1 : List (Nat × Value)) (K : KS) : Prop where
  tab : TabOK P T
  calls : CallsOK P C
  yields : YieldsOK P Y
  plan : PlanOK ops p
  old : ∀ k, k < nxb → ι0 k = ιb k
  le : nxb ≤ nx0
  size : a0.tmps.size = tn
  defers : a0.defers = ds
  heap : RelH ι0 B h0 nx0 wS
  below : Below B w0 wS
  sub : ∀ k o, look hJ k = some o → look h0 k = some o
  heads : vals.map (·.1) = p.head
  env : EnvOK ι0 nx0 env1 (putAll ops ι0 vals a0)
  dlt : ∀ q ∈ vals, ∀ d, dstAt ops.toList q.1 = some d → d < tn
  yld : ∀ pre i v post, vals = pre ++ (i, v) :: post → Yld P ops ι0 B nx0 hJ wS i v (putAll ops ι0 pre a0)
  rest : vallocs T tn ops.toList p.allocs env1 h0 nx0 fun env h nx => vtail std T C Y tn ops.toList hJ p.tail env h nx K

structure PreS (T : Tab) (ops : Array Oper) (p : Plan) (tn : Nat) (ds : List Deferred) (ι0 : Nat → Loc) (a0 : Act) (wS : World) (vals : List (Nat × Value)) (L : Nat → Prop) (a : Act) (w : World) : Prop where
  noT : ∀ t ∈ p.tail.map (·.1), ¬ L t
  below : Below wS.heap.size wS w
  on : ∃ (a' : Act) (bs : Nat → Nat), TInv ops p ι0 vals tn ds a0 L a a' ∧ (∀ d, (∀ i ∈ p.allocs, L i → dstAt ops.toList i ≠ some d) → (putAll ops ι0 vals a0).tmps[d]? = a'.tmps[d]?) ∧
    (∀ i ∈ p.allocs, L i → AllocAt T ops wS i (bs i) a' w) ∧ (∀ i ∈ p.allocs, ∀ j ∈ p.allocs, L i → L j → bs i = bs j → i = j)

def PostS (T : Tab) (C : VC) (Y : VY) (ops : Array Oper) (p : Plan) (B : Nat) (w0 : World) (ιb : Nat → Loc) (nxb tn : Nat) (ds : List Deferred) (ι0 : Nat → Loc) (nx0 : Nat) (hJ : Heap) (a0 : Act) (vals : List (Nat × Value)) (K : KS) (L : Nat → Prop) (a : Act) (w : World) : Prop :=
  ∃ done rest a' ι env h nx, p.tail = done ++ rest ∧ (∀ t ∈ done, L t.1) ∧ (∀ t ∈ rest, ¬ L t.1) ∧ (∀ i ∈ p.allocs, L i) ∧ (∀ i ∈ p.head, kindB isStrong ops.toList i = true → L i) ∧
    TInv ops p ι0 vals tn ds a0 L a a' ∧ Inv B w0 ιb nxb tn ds ι env h nx a' w ∧ (∀ k, k < nx0 → ι k = ι0 k) ∧ nx0 ≤ nx ∧
    vtail std T C Y tn ops.toList hJ rest env h nx K ∧
    (∃ last got, tailOK ops.toList (p.head.filter (fun i => !kindB isPure ops.toList i)) last got rest = true ∧ (∀ x ∈ got, L x) ∧ (∀ l, last = some l ↔ ∃ d c, done = d ++ [(l, c)])) ∧
    ((∀ i ∈ p.head, kindB isPure ops.toList i = false → L i) ∨ (RelH ι0 B hJ nx0 w ∧ ∀ k o, look hJ k = some o → look h k = some o))

variable {B : Nat} {w0 : World} {ιb : Nat → Loc} {nxb tn : Nat} {ds : List Deferred} {ι0 : Nat → Loc} {nx0 : Nat} {h0 hJ : Heap} {a0 : Act} {wS : World} {vals : List (Nat × Value)} {env1 : List (Nat × Value)} {K : KS} {L : Nat → Prop} {a : Act} {w : World}

theorem PreS.post (X : Ctx P T C Y ops p B w0 ιb nxb tn ds ι0 nx0 h0 hJ a0 wS vals env1 K) (S : PreS T ops p tn ds ι0 a0 wS vals L a w) (hall : ∀ i ∈ p.allocs, L i) (hst : ∀ i ∈ p.head, kindB isStrong ops.toList i = true → L i) :
    PostS T C Y ops p B w0 ιb nxb tn ds ι0 nx0 hJ a0 vals K L a w := by
  obtain ⟨a', bs, I, r1, r2, r3⟩ := S.on
  have hw : RelH ι0 B h0 nx0 w := X.heap.ext S.below
  have hnd : p.allocs.Nodup := by
    have := X.plan.nodup
    unfold Plan.order at this
    rw [List.append_assoc, List.nodup_append, List.nodup_append] at this
    exact this.2.1.1
  obtain ⟨ι, env, h, nx, k1, k2, k3, k4, k5, k6⟩ := vallocs_ok X.tab X.heap.size p.allocs ι0 env1 h0 nx0 (putAll ops ι0 vals a0) X.rest X.env (by rw [putAll_size]; exact X.size) hw (fun i hi => r2 i hi (hall i hi)) hnd (fun i hi j hj => r3 i hi j hj (hall i hi) (hall j hj)) (by
    intro k o b hk hb i hi e
    have h1 := (X.heap.obj k o hk).lt hb
    have h2 := (r2 i hi (hall i hi)).1
    omega) (fun d hd => r1 d (fun i hi _ => hd i hi))
  refine ⟨[], p.tail, a', ι, env, h, nx, rfl, by simp, fun t ht => S.noT _ (List.mem_map.2 ⟨t, ht, rfl⟩), hall, hst, I, ⟨k2, k3, X.below.trans (S.below.mono X.heap.size), fun k hk => (k4 k (Nat.lt_of_lt_of_le hk X.le)).trans (X.old k hk), Nat.le_trans X.le k5, I.size', I.defers'⟩, k4, k5, k1, ⟨none, [], X.plan.tailP, by simp, by simp⟩, .inr ⟨(X.heap.sub X.sub).ext S.below, fun k o hk => (k6 k (X.heap.low k o (X.sub k o hk))).trans (X.sub k o hk)⟩⟩

/-- One of the head, whenever. -/
theorem head_step (X : Ctx P T C Y ops p B w0 ιb nxb tn ds ι0 nx0 h0 hJ a0 wS vals env1 K) (cl : ∀ i, L i → ∀ j ∈ predsAt ops.toList i, L j) (hL : ∀ i, L i → i < ops.size) {i : Nat} (hi : i ∈ p.head) (hn : ¬ L i) (hr : ∀ j ∈ predsAt ops.toList i, L j)
    (S : PreS T ops p tn ds ι0 a0 wS vals L a w ∨ PostS T C Y ops p B w0 ιb nxb tn ds ι0 nx0 hJ a0 vals K L a w) (r : Option Nat) (next : Act → World → Prop) (Q : Exit → Act → World → Prop)
    (hnext : ∀ a w, (PreS T ops p tn ds ι0 a0 wS vals (adds L i) a w ∨ PostS T C Y ops p B w0 ιb nxb tn ds ι0 nx0 hJ a0 vals K (adds L i) a w) → next a w) : wpOpIn (Fr r) 0 P ops Q i next a w := by
  have hiv : i ∈ vals.map (·.1) := by rw [X.heads]; exact hi
  obtain ⟨q, hq, hqi⟩ := List.mem_map.1 hiv
  obtain ⟨i', v⟩ := q
  simp only at hqi
  subst hqi
  obtain ⟨pre, post, hsplit⟩ := List.append_of_mem hq
  obtain ⟨o, ho, hsc, hdef, hy⟩ := X.yld pre i' v post hsplit
  have hdst : dstAt ops.toList i' = o.dst := by simp [dstAt, getL_eq, ho]
  have hlt := (Array.getElem?_eq_some_iff.1 ho).1
  have hget : getL ops.toList i' = some o := by rw [getL_eq]; simpa using ho
  have hsel : ∀ cs b, o.op ≠ .select cs b := by
    intro cs b e
    have := X.plan.plain i' hlt
    simp [kindB, hget, e, isPlain] at this
  obtain ⟨a', I⟩ : ∃ a', TInv ops p ι0 vals tn ds a0 L a a' := by
    rcases S with S | ⟨done, rest, a', ι, env, h, nx, _, _, _, _, _, I, _⟩
    · obtain ⟨a', _, I, _⟩ := S.on
      exact ⟨a', I⟩
    · exact ⟨a', I⟩
  have hsee := I.sees X.plan X.heads X.dlt X.size cl hL hsplit hn hr
  have hlook : lookAt ops i' = o.looksAt ops := by simp [lookAt, hget]
  rw [hlook] at hsee
  obtain ⟨he, hw⟩ := same_of_look hsel hsee
  -- what is known past it
  have hpast : ∀ w', Below w.heap.size w w' → next (a.put o.dst (tr ι0 v)) w' := by
    intro w' hb
    refine hnext _ _ ?_
    rw [← hdst]
    rcases S with S | S
    · refine .inl ?_
      obtain ⟨a', bs, I, r1, r2, r3⟩ := S.on
      have hne : ∀ j, j ∈ p.allocs → j ≠ i' := fun j hj e => (X.plan.apart hi).1 (e ▸ hj)
      refine ⟨fun t ht => ?_, S.below.trans (hb.mono S.below.size), a', bs, I.head X.plan X.heads X.dlt hq, fun d hd => r1 d (fun j hj hjL => hd j hj (.inr hjL)), fun j hj hjL => ?_, fun j hj k hk hjL hkL => r3 j hj k hk (hjL.resolve_left (hne j hj)) (hkL.resolve_left (hne k hk))⟩
      · rintro (rfl | h)
        · exact (X.plan.apart hi).2 ht
        · exact S.noT t ht h
      · obtain ⟨hb1, o2, t2, d2, ti2, e1, e2, e3, e4, e5, e6⟩ := r2 j hj (hjL.resolve_left (hne j hj))
        exact ⟨hb1, o2, t2, d2, ti2, e1, e2, e3, e4, (hb.block _ (Array.getElem?_eq_some_iff.1 e5).1).trans e5, e6⟩
    · refine .inr ?_
      obtain ⟨done, rest, a', ι, env, h, nx, e1, e2, e3, e4, e5, I, J, e6, e7, e8, ⟨last, got, e9, e10, e11⟩, e12⟩ := S
      refine ⟨done, rest, a', ι, env, h, nx, e1, fun t ht => .inr (e2 t ht), fun t ht => ?_, fun j hj => .inr (e4 j hj), fun j hj hk => .inr (e5 j hj hk), I.head X.plan X.heads X.dlt hq, ⟨J.env, J.heap.ext hb, J.below.trans (hb.mono J.heap.size), J.old, J.le, J.size, J.defers⟩, e6, e7, e8, ⟨last, got, e9, fun x hx => .inr (e10 x hx), e11⟩, ?_⟩
      · rintro (rfl | h)
        · exact (X.plan.apart hi).2 (by rw [e1]; exact List.mem_map.2 ⟨t, List.mem_append_right _ ht, rfl⟩)
        · exact e3 t ht h
      · rcases e12 with e12 | ⟨e12, e13⟩
        · exact .inl fun j hj hk => .inr (e12 j hj hk)
        · exact .inr ⟨e12.ext hb, e13⟩
  unfold wpOpIn
  simp only [ho]
  rcases hy with ⟨hw', rfl⟩ | ⟨hw', hrun⟩
  · rw [hw, hw']
    refine ⟨fun _ _ => trivial, ?_⟩
    have := hpast w (Below.refl _ _)
    rwa [tr_g (show gT undef = true from rfl)] at this
  · rw [hw, hw', if_pos rfl]
    refine run1_wpIn (hrun w ?_ ?_) he hdef r _ Q hpast
    · cases hk : isPure o.op with
      | true => simp only [heapOf, hk]; exact RelH.none (by
          rcases S with S | ⟨done, rest, a', ι, env, h, nx, _, _, _, _, _, _, J, _⟩
          · exact Nat.le_trans X.heap.size S.below.size
          · exact J.heap.size)
      | false =>
        simp only [heapOf, hk]
        rcases S with S | ⟨done, rest, a', ι, env, h, nx, _, _, _, _, _, _, _, _, _, _, _, e12⟩
        · exact (X.heap.sub X.sub).ext S.below
        · rcases e12 with e12 | e12
          · exact absurd (e12 i' hi (by simp [kindB, hget, hk])) hn
          · exact e12.1
    · intro hk
      rcases S with S | ⟨done, rest, a', ι, env, h, nx, _, _, _, _, e5, _⟩
      · exact S.below
      · exact absurd (e5 i' hi (by simp [kindB, hget, hk])) hn

/-- A new cell, ahead of the tail. -/
theorem alloc_step (X : Ctx P T C Y ops p B w0 ιb nxb tn ds ι0 nx0 h0 hJ a0 wS vals env1 K) {i : Nat} (hi : i ∈ p.allocs) (hn : ¬ L i)
    (S : PreS T ops p tn ds ι0 a0 wS vals L a w) (r : Option Nat) (next : Act → World → Prop) (Q : Exit → Act → World → Prop)
    (hnext : ∀ a w, PreS T ops p tn ds ι0 a0 wS vals (adds L i) a w → next a w) : wpOpIn (Fr r) 0 P ops Q i next a w := by
  obtain ⟨o, t, d, ti, ho, hop, hod, hd, hti⟩ := vallocs_facts X.rest i hi
  obtain ⟨o2, ho2, hal⟩ := X.plan.allocs i hi
  have hoo : ops[i]? = some o := by rw [getL_eq] at ho; simpa using ho
  rw [hoo] at ho2
  injection ho2 with ho2
  subst ho2
  have hguard : o.guard = none := by
    unfold isAlloc at hal
    split at hal
    · rfl
    · cases hal
  have hdi : dstAt ops.toList i = some d := by simp [dstAt, ho, hod]
  obtain ⟨a', bs, I, r1, r2, r3⟩ := S.on
  have hnh : i ∉ p.head := fun h => (X.plan.apart h).1 hi
  unfold wpOpIn
  simp only [hoo]
  rw [if_pos (by simp [Region.wanted, hguard])]
  refine ⟨fun _ _ => trivial, ?_⟩
  rw [semAt_eq (fun c e => by rw [hop] at e; cases e)]
  have hz := (X.tab t ti hti).zero w
  have hrun : (execOp a.eval o).run P w = .ok (.value (.pointer (some ⟨w.heap.size, 0, none⟩))) (w.alloc (.cells ti.zv.cells t)) := by
    simp [execOp, hop, Instr.alloc, hz, newVar, newRow]
  rw [hrun]
  refine hnext _ _ ?_
  have hbl := below_alloc w (.cells ti.zv.cells t)
  have hbig : ∀ j ∈ p.allocs, L j → bs j < w.heap.size := fun j hj hjL => by
    obtain ⟨_, _, _, _, _, _, _, _, _, e5, _⟩ := r2 j hj hjL
    exact (Array.getElem?_eq_some_iff.1 e5).1
  refine ⟨fun t ht => ?_, S.below.trans (hbl.mono S.below.size), a'.put (some d) (.pointer (some ⟨w.heap.size, 0, none⟩)), fun j => if j = i then w.heap.size else bs j, ?_, fun d2 h2 => ?_, fun j hj hjL => ?_, fun j hj k hk hjL hkL e => ?_⟩
  · rintro (rfl | h)
    · exact X.plan.apart2 hi ht
    · exact S.noT t ht h
  · have := I.other X.plan X.heads hnh (.pointer (some ⟨w.heap.size, 0, none⟩))
    rw [hdi] at this
    rw [hod]
    exact this
  · by_cases e : d2 = d
    · subst e
      exact absurd hdi (h2 i hi (.inl rfl))
    · rw [put_get_ne (fun e' => e (Option.some.inj e').symm)]
      exact r1 d2 fun j hj hjL => h2 j hj (.inr hjL)
  · by_cases e : j = i
    · subst e
      simp only [if_true]
      exact ⟨S.below.size, o, t, d, ti, ho, hop, hod, hti, (MapKept.heap_alloc w _).1, put_get_eq (by rw [I.size']; exact hd)⟩
    · simp only [if_neg e]
      have hjL := hjL.resolve_left e
      obtain ⟨hb1, o2, t2, d2, ti2, e1, e2, e3, e4, e5, e6⟩ := r2 j hj hjL
      refine ⟨hb1, o2, t2, d2, ti2, e1, e2, e3, e4, (hbl.block _ (hbig j hj hjL)).trans e5, ?_⟩
      rw [put_get_ne (fun e' => e (X.plan.dsts j i d2 (X.plan.inb j (mem_order.2 (.inr (.inl hj)))) (X.plan.inb i (mem_order.2 (.inr (.inl hi)))) (by simp [dstAt, e1, e3]) (hdi.trans e')))]
      exact e6
  · simp only at e
    by_cases e1 : j = i <;> by_cases e2 : k = i
    · rw [e1, e2]
    · rw [if_pos e1, if_neg e2] at e
      have := hbig k hk (hkL.resolve_left e2)
      omega
    · rw [if_neg e1, if_pos e2] at e
      have := hbig j hj (hjL.resolve_left e1)
      omega
    · rw [if_neg e1, if_neg e2] at e
      exact r3 j hj k hk (hjL.resolve_left e1) (hkL.resolve_left e2) e
end
end Go.Aw
