/-
  The library's sort of segments as a contract of a list of the caller's own. No condition.
-/
import Derived.Test.YtmkcjbpekejgdaaGreatSe117
set_option linter.unusedSimpArgs false
set_option linter.unusedVariables false
noncomputable section
namespace Go.Aw
open Go.RowKit Go.Shelf Go.Lib Go.Sort Go.Proofs
set_option maxRecDepth 100000
def sortH (l : List Sg) : Array Sg := pdq (ltOf ordG) l.toArray 0 l.toArray.size (Lib.bitLen l.toArray.size) true true
def sortG (l : List Sg) : List Sg := (sortH l).toList
theorem sortH_facts (l : List Sg) : PermIn 0 l.toArray.size l.toArray (sortH l) ∧ SortedIn (ltOf ordG) 0 l.toArray.size (sortH l) :=
  pdq_sorts (ltOf ordG) swo_ordG l.toArray 0 l.toArray.size (Lib.bitLen l.toArray.size) true true (Nat.zero_le _) (Nat.le_refl _) (Or.inl rfl)
theorem sortH_size (l : List Sg) : (sortH l).size = l.length := by
  have := (sortH_facts l).1.1
  simpa using this
theorem sortG_len (l : List Sg) : (sortG l).length = l.length := by
  unfold sortG
  rw [Array.length_toList, sortH_size]
theorem sortG_perm (l : List Sg) : (sortG l).Perm l := by
  have h := (sortH_facts l).1.2.2
  have e1 : (sortH l).extract 0 l.toArray.size = sortH l := by
    rw [show l.toArray.size = (sortH l).size by rw [sortH_size]; simp]
    exact Array.extract_size
  have e2 : l.toArray.extract 0 l.toArray.size = l.toArray := Array.extract_size
  rw [e1, e2] at h
  exact h
theorem sortG_sorted (l : List Sg) {i j : Nat} (hij : i < j) (hj : j < l.length) : ltOf ordG (atS (sortG l) j) (atS (sortG l) i) = false := by
  have h := (sortH_facts l).2 i j (Nat.zero_le _) hij (by simpa using hj)
  have hl := sortH_size l
  have e : ∀ k, k < l.length → (sortH l)[k]! = atS (sortG l) k := fun k hk => by
    rw [atS_eq (by rw [sortG_len]; exact hk), getElem!_pos _ k (by rw [hl]; exact hk)]
    rfl
  rw [e j hj, e i (by omega)] at h
  exact h
theorem flatS_at : ∀ (l : List Sg) (j : Nat), j < l.length * 4 → (flat elS.fl l)[j]? = some (encS l[j / 4]!)[j % 4]!
  | [], j, h => by simp at h
  | a :: r, 0, h => rfl
  | a :: r, 1, h => rfl
  | a :: r, 2, h => rfl
  | a :: r, 3, h => rfl
  | a :: r, j + 4, h => by
    have ih := flatS_at r j (by simp only [List.length_cons] at h; omega)
    have e1 : (j + 4) / 4 = j / 4 + 1 := by omega
    have e2 : (j + 4) % 4 = j % 4 := by omega
    rw [e1, e2]
    show (flat elS.fl r)[j]? = _
    rw [ih]
    congr 2
theorem flatL_at (l : List Sg) {j : Nat} (h : j < l.length * 4) : some (flatK encS 4 l.toArray)[j]! = (flat elS.fl l)[j]? := by
  rw [get_flatK encS 4 l.toArray j (by simpa using h), flatS_at l j h]
  simp
def sXg : XF := fun args h nx K => match args with
  | [.slice (some ⟨k, 0, none⟩) n c, .func (.func 96) ⟨[]⟩ ⟨[]⟩] => ∃ l, n = l.length ∧ look h k = some (.cells true false 4 (flat elS.fl l)) ∧ l.length ≤ 1000000 ∧ 0 < l.length ∧ K (.tuple #[]) (upd h k (.cells true false 4 (flat elS.fl (sortG l)))) nx
  | _ => False
theorem d95 : XOK Go.Proofs.Tryz.prog 95 sXg := by
  refine ⟨fun args h nx K hx ι B w H hsc => ?_, fun args h nx K hx => ?_⟩
  · unfold sXg at hx
    split at hx
    case h_2 => exact hx.elim
    rename_i k n c
    obtain ⟨l, rfl, hk, hlen, hpos, hK⟩ := hx
    refine ⟨⟨Go.Proofs.Tryz.f95, Go.Proofs.Tryz.func95, rfl, by decide +kernel⟩, ?_⟩
    have hsl : k < nx ∧ ((ι k).isAt = false → l.length = 0 ∧ c = 0) := hsc _ (.head _)
    have ho := H.obj k _ hk
    cases hι : ι k with
    | nil p =>
      have := hsl.2 (by rw [hι]; rfl)
      omega
    | lay b off ex =>
      rw [hι] at ho
      obtain ⟨hB, _, arr, t, hblk, hsz, hcell⟩ := ho
      rw [flat4] at hsz
      have hlt : b < w.heap.size := (Array.getElem?_eq_some_iff.1 hblk).1
      have hds : l.toArray.size = l.length := by simp
      have hH : HoldsK encS 4 w b off l.toArray := by
        intro j hj
        rw [size_flatK, hds] at hj
        have h1 : (flat elS.fl l)[j]? = some (flatK encS 4 l.toArray)[j]! := (flatL_at l hj).symm
        have h2 := hcell j _ h1
        rw [trS_g (allG_mem (flat_g elS l) (List.mem_of_getElem? h1))] at h2
        refine ⟨?_, ?_⟩
        · simp only [World.cell?, hblk]
          exact h2
        · simp only [World.frozen?, hblk]
          simp
      have hcon := AnyQ.slices_SortFunc_eq Go.Proofs.Tryz.sortSg 4 Go.Proofs.Tryz.isAgg39 Go.Proofs.Tryz.sizeOf39 encS (fun _ => rfl) (fun x v hv => by simp [encS] at hv; rcases hv with rfl | rfl | rfl | rfl <;> rfl) ordG swo_ordG 96 #[] b off (c + ex) l.toArray w
        (enters_of Go.Proofs.Tryz.func96 (by kernel_rfl) rfl) (cmp_laysG b off l.toArray.size w) hH hlt (by omega)
      change Calls Go.Proofs.Tryz.prog 95 _ _ _ at hcon
      have hargs : (([.slice (some ⟨k, 0, none⟩) l.length c, .func (.func 96) ⟨[]⟩ ⟨[]⟩] : List Value).map (tr ι)).toArray = #[.slice (some ⟨b, off, none⟩) l.toArray.size (c + ex), .func (.func 96) #[] #[]] := by
        rw [hds]
        simp only [List.map_cons, List.map_nil, tr, trA, trS, trP, hι, trFn, Nat.add_zero]
        simp
      rw [hargs]
      refine callsIn_wide.2 (hcon.mono fun e w' hr => ?_)
      obtain ⟨rfl, n, os, rfl⟩ := hr
      have hd' : (sortH l).size = l.length := sortH_size l
      have hw1 : (putRowK encS 4 (Sort.ahead w n) b off (sortH l)).heap = w.heap.modify b (onCells (putCells id off (flatK encS 4 (sortH l)))) := rfl
      have hsz1 : (putRowK encS 4 (Sort.ahead w n) b off (sortH l)).heap.size = w.heap.size := by rw [hw1, Array.size_modify]
      have hoth : ∀ b', b' ≠ b → (putRowK encS 4 (Sort.ahead w n) b off (sortH l)).heap[b']? = w.heap[b']? := fun b' hne => by
        rw [hw1, Array.getElem?_modify, if_neg (fun e => hne e.symm)]
      have hat : (putRowK encS 4 (Sort.ahead w n) b off (sortH l)).heap[b]? = some (.cells (putCells id off (flatK encS 4 (sortH l)) arr) t (0, 0)) := by
        rw [hw1, Array.getElem?_modify, if_pos rfl, hblk]
        rfl
      have h1 : RelH ι B (upd h k (.cells true false 4 (flat elS.fl (sortG l)))) nx (putRowK encS 4 (Sort.ahead w n) b off (sortH l)) := by
        refine H.set hk rfl ?_ (fun v hv => scS_g (allG_mem (flat_g elS _) hv)) rfl (fun b' hb' => hoth b' (fun e => hb' (by rw [hι, e]; rfl))) (Nat.le_of_eq hsz1.symm)
        rw [hι]
        refine ⟨hB, (fun h => (by cases h)), _, t, hat, ?_, fun i v hv => ?_⟩
        · rw [flat4, sortG_len]
          unfold putCells
          rw [Array.size_mapIdx]
          exact hsz
        · have hi : i < l.length * 4 := by
            have := (List.getElem?_eq_some_iff.1 hv).1
            rw [flat4, sortG_len] at this
            exact this
          have hg : v = (flatK encS 4 (sortH l))[i]! := by
            have h2 := flatL_at (sortG l) (j := i) (by rw [sortG_len]; exact hi)
            rw [show (sortG l).toArray = sortH l from Array.toArray_toList] at h2
            rw [hv] at h2
            injection h2 with h2
            exact h2.symm
          rw [trS_g (allG_mem (flat_g elS _) (List.mem_of_getElem? hv)), hg]
          unfold putCells
          have hia : off + i < arr.size := by omega
          rw [Array.getElem?_mapIdx, Array.getElem?_eq_getElem hia]
          simp only [Option.map_some, id]
          rw [if_pos ⟨by omega, by rw [size_flatK, hd']; omega⟩, show off + i - off = i by omega]
      have hbel1 : Bel B w (putRowK encS 4 (Sort.ahead w n) b off (sortH l)) := ⟨rfl, rfl, rfl, Nat.le_of_eq hsz1.symm, fun b' hb' => hoth b' (by omega), Nat.le_add_right _ _⟩
      have hbel2 : ∀ B', B' ≤ (putRowK encS 4 (Sort.ahead w n) b off (sortH l)).heap.size → Bel B' (putRowK encS 4 (Sort.ahead w n) b off (sortH l)) (grow (putRowK encS 4 (Sort.ahead w n) b off (sortH l)) os) := fun B' hB' => ⟨rfl, rfl, rfl, by unfold grow; rw [Array.size_append]; omega, fun b' hb' => by unfold grow; exact Array.getElem?_append_left (by omega), Nat.le_refl _⟩
      exact ⟨_, _, nx, ι, hK, (fun v hv => by cases hv), h1.ext (hbel2 _ (Nat.le_refl _)), hbel1.trans (hbel2 B (by rw [hsz1]; exact H.size)), fun _ _ => rfl, Nat.le_refl _, (by simp [tr])⟩
  · unfold sXg at hx
    split at hx
    case h_2 => exact hx.elim
    rename_i k n c
    obtain ⟨l, hn, hk, hlen, hpos, hK⟩ := hx
    exact ⟨_, _, _, hK, fun K' hk' => ⟨l, hn, hk, hlen, hpos, hk'⟩⟩
end Go.Aw
