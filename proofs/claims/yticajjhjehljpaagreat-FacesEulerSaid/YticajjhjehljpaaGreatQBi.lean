/-
  Parts of a proof. No condition.
-/
import Derived.Test.YticajjhjehljpaaGreatQBh
set_option linter.unusedSimpArgs false
set_option linter.unusedVariables false
noncomputable section
namespace Go.Aw
def zZ:B9:={ Y5 with X:=FG SW VG }
def XM:Nat→Option (List Value→Heap→Nat→qM→Bool):=EJ SW VG
theorem aGR:TwX zZ XM:=CZ rfl
theorem aCA:oS Go.Proofs.Tryz.prog zZ:=DA _ (BY C7 SO) _ _
theorem aA0:cH zZ XM 60 aEu:=by unfold cH;decide +kernel
theorem ZL:cH zZ XM 60 aE4:=by unfold cH;decide +kernel
theorem aAi:cH zZ XM 60 aE9:=by unfold cH;decide +kernel
theorem ZU:cH zZ XM 60 aEv:=by unfold cH;decide +kernel
theorem YR:cH zZ XM 60 aDJ:=by unfold cH;decide +kernel
theorem YB:cH zZ XM 60 aDI:=by unfold cH;decide +kernel
theorem aAU:cH zZ XM 60 aE0:=by unfold cH;decide +kernel
theorem YY:cH zZ XM 60 aEy:=by unfold cH;decide +kernel
theorem XZ:cH zZ XM 60 aEd:=by unfold cH;decide +kernel
theorem aAP:cH zZ XM 60 aEe:=by unfold cH;decide +kernel
def PA:List mV:=[aEu,aE4,aE9,aEv,aDJ,aDI,aE0,aEy,aEd,aEe]
theorem WO:∀ E∈PA,cH zZ XM 60 E:=by
 intro E hE;simp only [PA,List.mem_cons,List.not_mem_nil,or_false] at hE;rcases hE with rfl|rfl|rfl|rfl|rfl|rfl|rfl|rfl|rfl|rfl
 ·exact aA0
 ·exact ZL
 ·exact aAi
 ·exact ZU
 ·exact YR
 ·exact YB
 ·exact aAU
 ·exact YY
 ·exact XZ
 ·exact aAP
def TX:List mV:=PA++SW
theorem DP:tX Go.Proofs.Tryz.prog TX:=(B6 aCA aGR WO).app C7
end Go.Aw
end
