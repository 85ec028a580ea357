/-
  The library's sort as a contract of a list of the caller's own. No condition.
-/
import Derived.Test.YtmkcjbpekejgdaaGreatSe92
set_option linter.unusedSimpArgs false
set_option linter.unusedVariables false
noncomputable section
namespace Go.Aw
open Go.RowKit Go.Shelf Go.Lib Go.Sort Go.Proofs
set_option maxRecDepth 100000
def sortA (l : List (Int × Int)) : Array (Int × Int) := pdq (ltOf ordS) l.toArray 0 l.toArray.size (Lib.bitLen l.toArray.size) true true
def sortI (l : List (Int × Int)) : List (Int × Int) := (sortA l).toList
theorem sortA_facts (l : List (Int × Int)) : PermIn 0 l.toArray.size l.toArray (sortA l) ∧ SortedIn (ltOf ordS) 0 l.toArray.size (sortA l) :=
  pdq_sorts (ltOf ordS) swo_ord l.toArray 0 l.toArray.size (Lib.bitLen l.toArray.size) true true (Nat.zero_le _) (Nat.le_refl _) (Or.inl rfl)
theorem sortA_size (l : List (Int × Int)) : (sortA l).size = l.length := by
  have := (sortA_facts l).1.1
  simpa using this
theorem sortI_len (l : List (Int × Int)) : (sortI l).length = l.length := by
  unfold sortI
  rw [Array.length_toList, sortA_size]
theorem sortI_perm (l : List (Int × Int)) : (sortI l).Perm l := by
  have h := (sortA_facts l).1.2.2
  have e1 : (sortA l).extract 0 l.toArray.size = sortA l := by
    rw [show l.toArray.size = (sortA l).size by rw [sortA_size]; simp]
    exact Array.extract_size
  have e2 : l.toArray.extract 0 l.toArray.size = l.toArray := Array.extract_size
  rw [e1, e2] at h
  exact h
theorem sortI_sorted (l : List (Int × Int)) {i j : Nat} (hij : i < j) (hj : j < l.length) : ltOf ordS (at2 (sortI l) j) (at2 (sortI l) i) = false := by
  have h := (sortA_facts l).2 i j (Nat.zero_le _) hij (by simpa using hj)
  have hl := sortA_size l
  have e : ∀ k, k < l.length → (sortA l)[k]! = at2 (sortI l) k := fun k hk => by
    rw [at2_eq (by rw [sortI_len]; exact hk), getElem!_pos _ k (by rw [hl]; exact hk)]
    rfl
  rw [e j hj, e i (by omega)] at h
  exact h
theorem flatP_at : ∀ (l : List (Int × Int)) (j : Nat), j < l.length * 2 → (flat elP.fl l)[j]? = some (encP l[j / 2]!)[j % 2]!
  | [], j, h => by simp at h
  | a :: r, 0, h => rfl
  | a :: r, 1, h => rfl
  | a :: r, j + 2, h => by
    have ih := flatP_at r j (by simp only [List.length_cons] at h; omega)
    have e1 : (j + 2) / 2 = j / 2 + 1 := by omega
    have e2 : (j + 2) % 2 = j % 2 := by omega
    rw [e1, e2]
    show (flat elP.fl r)[j]? = _
    rw [ih]
    congr 2
theorem flatK_at (l : List (Int × Int)) {j : Nat} (h : j < l.length * 2) : some (flatK encP 2 l.toArray)[j]! = (flat elP.fl l)[j]? := by
  rw [get_flatK encP 2 l.toArray j (by simpa using h), flatP_at l j h]
  simp
def sX : XF := fun args h nx K => match args with
  | [.slice (some ⟨k, 0, none⟩) n c, .func (.func 78) ⟨[]⟩ ⟨[]⟩] => ∃ l, n = l.length ∧ look h k = some (.cells true false 2 (flat elP.fl l)) ∧ l.length ≤ 1000000 ∧ 0 < l.length ∧ K (.tuple #[]) (upd h k (.cells true false 2 (flat elP.fl (sortI l)))) nx
  | _ => False
theorem d77 : XOK Go.Proofs.Tryz.prog 77 sX := by
  refine ⟨fun args h nx K hx ι B w H hsc => ?_, fun args h nx K hx => ?_⟩
  · unfold sX at hx
    split at hx
    case h_2 => exact hx.elim
    rename_i k n c
    obtain ⟨l, rfl, hk, hlen, hpos, hK⟩ := hx
    refine ⟨⟨Go.Proofs.Tryz.f77, Go.Proofs.Tryz.func77, rfl, by decide +kernel⟩, ?_⟩
    have hsl : k < nx ∧ ((ι k).isAt = false → l.length = 0 ∧ c = 0) := hsc _ (.head _)
    have ho := H.obj k _ hk
    cases hι : ι k with
    | nil p =>
      have := hsl.2 (by rw [hι]; rfl)
      omega
    | lay b off ex =>
      rw [hι] at ho
      obtain ⟨hB, _, arr, t, hblk, hsz, hcell⟩ := ho
      rw [flat2] at hsz
      have hlt : b < w.heap.size := (Array.getElem?_eq_some_iff.1 hblk).1
      have hds : l.toArray.size = l.length := by simp
      have hH : HoldsK encP 2 w b off l.toArray := by
        intro j hj
        rw [size_flatK, hds] at hj
        have h1 : (flat elP.fl l)[j]? = some (flatK encP 2 l.toArray)[j]! := (flatK_at l hj).symm
        have h2 := hcell j _ h1
        rw [trS_g (allG_mem (flat_g elP l) (List.mem_of_getElem? h1))] at h2
        refine ⟨?_, ?_⟩
        · simp only [World.cell?, hblk]
          exact h2
        · simp only [World.frozen?, hblk]
          simp
      have hcon := AnyQ.slices_SortFunc_eq Go.Proofs.Tryz.sortPt 2 Go.Proofs.Tryz.isAgg32 Go.Proofs.Tryz.sizeOf32 encP (fun _ => rfl) (fun x v hv => by simp [encP] at hv; rcases hv with rfl | rfl <;> rfl) ordS swo_ord 78 #[] b off (c + ex) l.toArray w
        (enters_of Go.Proofs.Tryz.func78 (by kernel_rfl) rfl) (cmp_lays b off l.toArray.size w) hH hlt (by omega)
      change Calls Go.Proofs.Tryz.prog 77 _ _ _ at hcon
      have hargs : (([.slice (some ⟨k, 0, none⟩) l.length c, .func (.func 78) ⟨[]⟩ ⟨[]⟩] : List Value).map (tr ι)).toArray = #[.slice (some ⟨b, off, none⟩) l.toArray.size (c + ex), .func (.func 78) #[] #[]] := by
        rw [hds]
        simp only [List.map_cons, List.map_nil, tr, trA, trS, trP, hι, trFn, Nat.add_zero]
        simp
      rw [hargs]
      refine callsIn_wide.2 (hcon.mono fun e w' hr => ?_)
      obtain ⟨rfl, n, os, rfl⟩ := hr
      have hd' : (sortA l).size = l.length := sortA_size l
      have hw1 : (putRowK encP 2 (Sort.ahead w n) b off (sortA l)).heap = w.heap.modify b (onCells (putCells id off (flatK encP 2 (sortA l)))) := rfl
      have hsz1 : (putRowK encP 2 (Sort.ahead w n) b off (sortA l)).heap.size = w.heap.size := by rw [hw1, Array.size_modify]
      have hoth : ∀ b', b' ≠ b → (putRowK encP 2 (Sort.ahead w n) b off (sortA l)).heap[b']? = w.heap[b']? := fun b' hne => by
        rw [hw1, Array.getElem?_modify, if_neg (fun e => hne e.symm)]
      have hat : (putRowK encP 2 (Sort.ahead w n) b off (sortA l)).heap[b]? = some (.cells (putCells id off (flatK encP 2 (sortA l)) arr) t (0, 0)) := by
        rw [hw1, Array.getElem?_modify, if_pos rfl, hblk]
        rfl
      have h1 : RelH ι B (upd h k (.cells true false 2 (flat elP.fl (sortI l)))) nx (putRowK encP 2 (Sort.ahead w n) b off (sortA l)) := by
        refine H.set hk rfl ?_ (fun v hv => scS_g (allG_mem (flat_g elP _) hv)) rfl (fun b' hb' => hoth b' (fun e => hb' (by rw [hι, e]; rfl))) (Nat.le_of_eq hsz1.symm)
        rw [hι]
        refine ⟨hB, (fun h => (by cases h)), _, t, hat, ?_, fun i v hv => ?_⟩
        · rw [flat2, sortI_len]
          unfold putCells
          rw [Array.size_mapIdx]
          exact hsz
        · have hi : i < l.length * 2 := by
            have := (List.getElem?_eq_some_iff.1 hv).1
            rw [flat2, sortI_len] at this
            exact this
          have hg : v = (flatK encP 2 (sortA l))[i]! := by
            have h2 := flatK_at (sortI l) (j := i) (by rw [sortI_len]; exact hi)
            rw [show (sortI l).toArray = sortA l from Array.toArray_toList] at h2
            rw [hv] at h2
            injection h2 with h2
            exact h2.symm
          rw [trS_g (allG_mem (flat_g elP _) (List.mem_of_getElem? hv)), hg]
          unfold putCells
          have hia : off + i < arr.size := by omega
          rw [Array.getElem?_mapIdx, Array.getElem?_eq_getElem hia]
          simp only [Option.map_some, id]
          rw [if_pos ⟨by omega, by rw [size_flatK, hd']; omega⟩, show off + i - off = i by omega]
      have hbel1 : Bel B w (putRowK encP 2 (Sort.ahead w n) b off (sortA l)) := ⟨rfl, rfl, rfl, Nat.le_of_eq hsz1.symm, fun b' hb' => hoth b' (by omega), Nat.le_add_right _ _⟩
      have hbel2 : ∀ B', B' ≤ (putRowK encP 2 (Sort.ahead w n) b off (sortA l)).heap.size → Bel B' (putRowK encP 2 (Sort.ahead w n) b off (sortA l)) (grow (putRowK encP 2 (Sort.ahead w n) b off (sortA l)) os) := fun B' hB' => ⟨rfl, rfl, rfl, by unfold grow; rw [Array.size_append]; omega, fun b' hb' => by unfold grow; exact Array.getElem?_append_left (by omega), Nat.le_refl _⟩
      exact ⟨_, _, nx, ι, hK, (fun v hv => by cases hv), h1.ext (hbel2 _ (Nat.le_refl _)), hbel1.trans (hbel2 B (by rw [hsz1]; exact H.size)), fun _ _ => rfl, Nat.le_refl _, (by simp [tr])⟩
  · unfold sX at hx
    split at hx
    case h_2 => exact hx.elim
    rename_i k n c
    obtain ⟨l, hn, hk, hlen, hpos, hK⟩ := hx
    exact ⟨_, _, _, hK, fun K' hk' => ⟨l, hn, hk, hlen, hpos, hk'⟩⟩
end Go.Aw
