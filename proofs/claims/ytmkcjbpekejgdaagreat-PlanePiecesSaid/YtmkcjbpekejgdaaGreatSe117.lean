/-
  The library's sort, by its contract on the shelf, at this program's segments. No condition.
-/
import Derived.Shelf.SlSortCmp.WholeK
import Derived.Test.YtmkcjbpekejgdaaGreatSe113
set_option linter.unusedSimpArgs false
set_option linter.unusedVariables false
noncomputable section
namespace Go.Proofs
open Go.Shelf
def Tryz.sortSg_ren : Go.Shelf.Ren := ⟨fun | 6 => 95 | 15 => 139 | 14 => 145 | 28 => 170 | 29 => 171 | 20 => 172 | 21 => 173 | 22 => 174 | 23 => 175 | 24 => 176 | 25 => 177 | 26 => 178 | 27 => 179 | 46 => 203 | 47 => 199 | 48 => 200 | 49 => 204 | 50 => 205 | 57 => 213 | n => n, fun | 22 => 47 | 24 => 39 | 25 => 109 | 3 => 3 | 39 => 147 | 0 => 0 | 53 => 171 | 55 => 173 | 4 => 4 | 46 => 165 | 45 => 164 | 50 => 70 | 5 => 5 | 9 => 9 | 66 => 191 | 70 => 195 | 76 => 203 | 77 => 156 | n => n, fun | n => n⟩
theorem Tryz.sortSg : Go.Proofs.SlLaysF0.n6 Tryz.prog Tryz.sortSg_ren := {
  mixed := by kernel_rfl
  f6 := ⟨Tryz.f95.name, by decide, Tryz.func95.trans (congrArg some (by kernel_rfl))⟩
  f14 := ⟨Tryz.f145.name, by decide, Tryz.func145.trans (congrArg some (by kernel_rfl))⟩
  f15 := Tryz.func139.trans (congrArg some (by kernel_rfl))
  f20 := ⟨Tryz.f172.name, by decide, Tryz.func172.trans (congrArg some (by kernel_rfl))⟩
  f21 := ⟨Tryz.f173.name, by decide, Tryz.func173.trans (congrArg some (by kernel_rfl))⟩
  f22 := ⟨Tryz.f174.name, by decide, Tryz.func174.trans (congrArg some (by kernel_rfl))⟩
  f23 := ⟨Tryz.f175.name, by decide, Tryz.func175.trans (congrArg some (by kernel_rfl))⟩
  f24 := ⟨Tryz.f176.name, by decide, Tryz.func176.trans (congrArg some (by kernel_rfl))⟩
  f25 := ⟨Tryz.f177.name, by decide, Tryz.func177.trans (congrArg some (by kernel_rfl))⟩
  f26 := ⟨Tryz.f178.name, by decide, Tryz.func178.trans (congrArg some (by kernel_rfl))⟩
  f27 := ⟨Tryz.f179.name, by decide, Tryz.func179.trans (congrArg some (by kernel_rfl))⟩
  f28 := Tryz.func170.trans (congrArg some (by kernel_rfl))
  f29 := Tryz.func171.trans (congrArg some (by kernel_rfl))
  f46 := ⟨Tryz.f203.name, by decide, Tryz.func203.trans (congrArg some (by kernel_rfl))⟩
  f47 := Tryz.func199.trans (congrArg some (by kernel_rfl))
  f48 := Tryz.func200.trans (congrArg some (by kernel_rfl))
  f49 := ⟨Tryz.f204.name, by decide, Tryz.func204.trans (congrArg some (by kernel_rfl))⟩
  f50 := ⟨Tryz.f205.name, by decide, Tryz.func205.trans (congrArg some (by kernel_rfl))⟩
  f57 := ⟨Tryz.f213.name, by decide, Tryz.func213.trans (congrArg some (by kernel_rfl))⟩
  t0 := Tryz.underlying0
  a0 := Tryz.isAgg0
  z0 := Tryz.sizeOf0
  v0 := Tryz.zeroValue0
  t3 := Tryz.underlying3
  a3 := Tryz.isAgg3
  z3 := Tryz.sizeOf3
  v3 := Tryz.zeroValue3
  t4 := Tryz.underlying4
  a4 := Tryz.isAgg4
  z4 := Tryz.sizeOf4
  v4 := Tryz.zeroValue4
  t5 := Tryz.underlying5
  a5 := Tryz.isAgg5
  z5 := Tryz.sizeOf5
  v5 := Tryz.zeroValue5
  t9 := Tryz.underlying9
  a9 := Tryz.isAgg9
  z9 := Tryz.sizeOf9
  v9 := Tryz.zeroValue9
  t22 := Tryz.underlying47
  a22 := Tryz.isAgg47
  z22 := Tryz.sizeOf47
  v22 := Tryz.zeroValue47
  t25 := Tryz.underlying109
  a25 := Tryz.isAgg109
  z25 := Tryz.sizeOf109
  v25 := Tryz.zeroValue109
  t39 := Tryz.underlying147
  a39 := Tryz.isAgg147
  z39 := Tryz.sizeOf147
  v39 := Tryz.zeroValue147
  t45 := Tryz.underlying164
  a45 := Tryz.isAgg164
  z45 := Tryz.sizeOf164
  v45 := Tryz.zeroValue164
  t46 := Tryz.underlying165
  a46 := Tryz.isAgg165
  z46 := Tryz.sizeOf165
  v46 := Tryz.zeroValue165
  t50 := Tryz.underlying70
  a50 := Tryz.isAgg70
  z50 := Tryz.sizeOf70
  v50 := Tryz.zeroValue70
  t53 := Tryz.underlying171
  a53 := Tryz.isAgg171
  z53 := Tryz.sizeOf171
  v53 := Tryz.zeroValue171
  t55 := Tryz.underlying173
  a55 := Tryz.isAgg173
  z55 := Tryz.sizeOf173
  v55 := Tryz.zeroValue173
  t66 := Tryz.underlying191
  a66 := Tryz.isAgg191
  z66 := Tryz.sizeOf191
  v66 := Tryz.zeroValue191
  t70 := Tryz.underlying195
  a70 := Tryz.isAgg195
  z70 := Tryz.sizeOf195
  v70 := Tryz.zeroValue195
  t76 := Tryz.underlying203
  a76 := Tryz.isAgg203
  z76 := Tryz.sizeOf203
  v76 := Tryz.zeroValue203
  t77 := Tryz.underlying156
  a77 := Tryz.isAgg156
  z77 := Tryz.sizeOf156
  v77 := Tryz.zeroValue156 }
end Go.Proofs
namespace Go.Aw
open Go.RowKit Go.Shelf Go.Lib Go.Sort Go.Proofs
set_option maxRecDepth 100000
theorem ordS_lt (a b : Int × Int) : ordS a b < 0 ↔ lessB a b = true := by
  rw [less_lex]
  unfold ordS orI cmpI
  constructor
  · intro h
    repeat' split at h
    all_goals omega
  · intro h
    repeat' split
    all_goals omega
theorem ordS_zero (a b : Int × Int) : ordS a b = 0 ↔ eqP a b = true := by
  rw [eqP_iff, Prod.ext_iff]
  unfold ordS orI cmpI
  constructor
  · intro h
    repeat' split at h
    all_goals omega
  · intro h
    repeat' split
    all_goals omega
theorem lt_ordG (x y : Sg) : ltOf ordG x y = lessG x y := by
  have e : decide (ordG x y < 0) = lessG x y := by
    rw [Bool.eq_iff_iff, decide_eq_true_iff]
    unfold ordG lessG orI
    rw [Bool.or_eq_true, Bool.and_eq_true, ← ordS_lt, ← ordS_lt, ← ordS_zero]
    split <;> omega
  exact e
theorem swo_ordG : SWO (ltOf ordG) where
  irrefl x := by rw [lt_ordG]; exact lessG_ir x
  trans x y z h1 h2 := by
    rw [lt_ordG] at *
    exact lessG_tr h1 h2
  ntrans x y z h1 h2 := by
    rw [lt_ordG] at *
    rw [← Bool.not_eq_true, lessG_iff] at *
    omega
def encS (x : Sg) : List Value := [iv x.1.1, iv x.1.2, iv x.2.1, iv x.2.2]
attribute [local irreducible] ordG in
theorem ordG_calls (x y : Sg) (W : World) : Calls Go.Proofs.Tryz.prog 96 (([sgv x, sgv y] : List Value).map (tr (fun _ => Loc.nil none))).toArray W fun e w' => e = .returned (iv (ordG x y)) ∧ ∃ q os', w' = grow (W.drewN q) os' := by
  have h := (xcmg.1 [sgv x, sgv y] [] 0 (fun v _ _ => v = iv (ordG x y)) rfl (fun _ => .nil none) W.heap.size W (RelH.none (Nat.le_refl _)) (fun v hv => by
      simp only [List.mem_cons, List.not_mem_nil, or_false] at hv
      rcases hv with rfl | rfl <;> exact scT_g rfl)).2
  refine callsIn_wide.1 (CallsIn.mono h fun e w' hr => ?_)
  cases e with
  | returned u =>
    obtain ⟨v, h', nx', ι', rfl, _, _, hb, _, _, rfl⟩ := hr
    exact ⟨rfl, bel_grow hb⟩
  | panicked c => exact hr.elim
  | outgrown => exact hr.elim
theorem cmp_laysG (blk off size : Nat) (w : World) : CmpLays Go.Proofs.Tryz.prog 96 #[] encS 4 ordG blk off size w :=
  fun m os dk hs x y => by
    have h := ordG_calls x y (sortWorldK encS 4 w blk off m dk os)
    rw [List.map_cons, List.map_cons, List.map_nil, tr_g (show gT (sgv x) = true from rfl), tr_g (show gT (sgv y) = true from rfl)] at h
    rw [Array.append_empty]
    exact h
end Go.Aw
