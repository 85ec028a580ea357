/-
  Parts of the proof, put together. No condition.
-/
import Derived.Test.YtjahkcbdecgbhaaGreatQBr
set_option linter.unusedSimpArgs false
set_option linter.unusedVariables false
noncomputable section
namespace Go.Aw
def A2:ET:={ aAX with X:=FZ TV W2 }
def X4:Nat→Option (List Value→Heap→Nat→sH→Bool):=DM TV W2
theorem aH0:TwX A2 X4:=DR rfl
theorem aDv:rP Go.Proofs.Tryz.prog A2:=E1 _ (C9 D5 S2) _ _
theorem ZD:cL A2 X4 60 aEF:=by unfold cL;decide +kernel
theorem aBm:cL A2 X4 60 aE8:=by unfold cL;decide +kernel
theorem aAm:cL A2 X4 60 aEi:=by unfold cL;decide +kernel
theorem aAa:cL A2 X4 60 aEr:=by unfold cL;decide +kernel
theorem aAY:cL A2 X4 60 aEU:=by unfold cL;decide +kernel
theorem aAF:cL A2 X4 60 aET:=by unfold cL;decide +kernel
theorem aAs:cL A2 X4 60 aEe:=by unfold cL;decide +kernel
theorem aBg:cL A2 X4 60 aF3:=by unfold cL;decide +kernel
theorem YL:cL A2 X4 60 aED:=by unfold cL;decide +kernel
theorem aAy:cL A2 X4 60 aEd:=by unfold cL;decide +kernel
def QX:List oB:=[aEF,aE8,aEi,aEr,aEU,aET,aEe,aF3,aED,aEd]
theorem W3:∀ E∈QX,cL A2 X4 60 E:=by
 intro E hE;simp only [QX,List.mem_cons,List.not_mem_nil,or_false] at hE;rcases hE with rfl|rfl|rfl|rfl|rfl|rfl|rfl|rfl|rfl|rfl
 ·exact ZD
 ·exact aBm
 ·exact aAm
 ·exact aAa
 ·exact aAY
 ·exact aAF
 ·exact aAs
 ·exact aBg
 ·exact YL
 ·exact aAy
def UN:List oB:=QX++TV
theorem EK:vS Go.Proofs.Tryz.prog UN:=(DK aDv aH0 W3).app D5
end Go.Aw
end
