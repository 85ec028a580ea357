/-
  Parts of a proof. No condition.
-/
import Derived.Test.YtjahkcbdecgbhaaGreatQBn
set_option linter.unusedSimpArgs false
set_option linter.unusedVariables false
noncomputable section
namespace Go.Aw
def HV:CM:={ Z7 with X:=DO UM XZ }
def xbD:Nat→Option (List Value→Heap→Nat→tI→Bool):=E0 UM XZ
theorem aFW:TwX HV xbD:=E1 rfl
theorem aCz:pU Go.Proofs.Tryz.prog HV:=FY _ (DB FW TX) _ _
theorem aBJ:cM HV xbD 60 aF2:=by unfold cM;decide +kernel
theorem aBw:cM HV xbD 60 aEx:=by unfold cM;decide +kernel
theorem YR:cM HV xbD 60 aEU:=by unfold cM;decide +kernel
theorem Z0:cM HV xbD 60 aF9:=by unfold cM;decide +kernel
theorem aAz:cM HV xbD 60 aFf:=by unfold cM;decide +kernel
theorem aBj:cM HV xbD 60 aEL:=by unfold cM;decide +kernel
theorem aBd:cM HV xbD 60 aF0:=by unfold cM;decide +kernel
def P8:List n8:=[aF2,aEx,aEU,aF9,aFf,aEL,aF0]
theorem XK:∀ E∈P8,cM HV xbD 60 E:=by
 intro E hE;simp only [P8,List.mem_cons,List.not_mem_nil,or_false] at hE;rcases hE with rfl|rfl|rfl|rfl|rfl|rfl|rfl
 ·exact aBJ
 ·exact aBw
 ·exact YR
 ·exact Z0
 ·exact aAz
 ·exact aBj
 ·exact aBd
def aAn:List n8:=P8++UM
theorem RU:vL Go.Proofs.Tryz.prog aAn:=(DM aCz aFW XK).app FW
end Go.Aw
end
