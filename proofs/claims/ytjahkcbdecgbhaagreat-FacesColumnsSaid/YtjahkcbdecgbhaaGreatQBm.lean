/-
  Parts of a proof. No condition.
-/
import Derived.Test.YtjahkcbdecgbhaaGreatQBl
set_option linter.unusedSimpArgs false
set_option linter.unusedVariables false
noncomputable section
namespace Go.Aw
def AK:CM:={ Z7 with X:=DO US XZ }
def YM:Nat→Option (List Value→Heap→Nat→tI→Bool):=E0 US XZ
theorem aGF:TwX AK YM:=E1 rfl
theorem aDH:pU Go.Proofs.Tryz.prog AK:=FY _ (DB EP TX) _ _
theorem ZA:cM AK YM 60 aEK:=by unfold cM;decide +kernel
theorem ZU:cM AK YM 60 aF1:=by unfold cM;decide +kernel
theorem Y9:cM AK YM 60 aFe:=by unfold cM;decide +kernel
theorem aBg:cM AK YM 60 aFj:=by unfold cM;decide +kernel
theorem Y7:cM AK YM 60 aER:=by unfold cM;decide +kernel
theorem aBZ:cM AK YM 60 aF7:=by unfold cM;decide +kernel
theorem aBB:cM AK YM 60 aET:=by unfold cM;decide +kernel
theorem ZW:cM AK YM 60 aEG:=by unfold cM;decide +kernel
theorem Z9:cM AK YM 60 aFk:=by unfold cM;decide +kernel
theorem aC4:cM AK YM 60 aFc:=by unfold cM;decide +kernel
def QS:List n8:=[aEK,aF1,aFe,aFj,aER,aF7,aET,aEG,aFk,aFc]
theorem XJ:∀ E∈QS,cM AK YM 60 E:=by
 intro E hE;simp only [QS,List.mem_cons,List.not_mem_nil,or_false] at hE;rcases hE with rfl|rfl|rfl|rfl|rfl|rfl|rfl|rfl|rfl|rfl
 ·exact ZA
 ·exact ZU
 ·exact Y9
 ·exact aBg
 ·exact Y7
 ·exact aBZ
 ·exact aBB
 ·exact ZW
 ·exact Z9
 ·exact aC4
def UO:List n8:=QS++US
theorem D8:vL Go.Proofs.Tryz.prog UO:=(DM aDH aGF XJ).app EP
end Go.Aw
end
