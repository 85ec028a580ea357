/-
  Parts of the proof, put together. No condition.
-/
import Derived.Test.YtjahkcbdecgbhaaGreatQBr
set_option linter.unusedSimpArgs false
set_option linter.unusedVariables false
noncomputable section
namespace Go.Aw
def zS:CC:={ XZ with X:=DV RV W7 }
def XG:Nat→Option (List Value→Heap→Nat→sR→Bool):=FC RV W7
theorem aFZ:TwX zS XG:=FN rfl
theorem aCD:pF Go.Proofs.Tryz.prog zS:=FY _ (CD DZ SA) _ _
theorem YJ:cJ zS XG 60 aEf:=by unfold cJ;decide +kernel
theorem aB2:cJ zS XG 60 aEa:=by unfold cJ;decide +kernel
theorem XM:cJ zS XG 60 aEg:=by unfold cJ;decide +kernel
theorem ZC:cJ zS XG 60 aEj:=by unfold cJ;decide +kernel
theorem aAL:cJ zS XG 60 aEd:=by unfold cJ;decide +kernel
theorem XW:cJ zS XG 60 aDA:=by unfold cJ;decide +kernel
theorem aA2:cJ zS XG 60 aDS:=by unfold cJ;decide +kernel
theorem XI:cJ zS XG 60 aEh:=by unfold cJ;decide +kernel
theorem aB3:cJ zS XG 60 aDI:=by unfold cJ;decide +kernel
theorem YN:cJ zS XG 60 aDZ:=by unfold cJ;decide +kernel
def QO:List nR:=[aEf,aEa,aEg,aEj,aEd,aDA,aDS,aEh,aDI,aDZ]
theorem V4:∀ E∈QO,cJ zS XG 60 E:=by
 intro E hE;simp only [QO,List.mem_cons,List.not_mem_nil,or_false] at hE;rcases hE with rfl|rfl|rfl|rfl|rfl|rfl|rfl|rfl|rfl|rfl
 ·exact YJ
 ·exact aB2
 ·exact XM
 ·exact ZC
 ·exact aAL
 ·exact XW
 ·exact aA2
 ·exact XI
 ·exact aB3
 ·exact YN
def T4:List nR:=QO++RV
theorem D9:u7 Go.Proofs.Tryz.prog T4:=(CZ aCD aFZ V4).app DZ
end Go.Aw
end
