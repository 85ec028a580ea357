/-
  Parts of a proof. No condition.
-/
import Derived.Test.YtjahkcbdecgbhaaGreatQBn
set_option linter.unusedSimpArgs false
set_option linter.unusedVariables false
noncomputable section
namespace Go.Aw
def II:C0:={ aCF with X:=GY XO Z7 }
def xbD:Nat→Option (List Value→Heap→Nat→sX→Bool):=GO XO Z7
theorem aIb:TwX II xbD:=FL rfl
theorem aEd:o7 Go.Proofs.Tryz.prog II:=GR _ (DZ GF WK) _ _
theorem aD6:cT II xbD 60 aGs:=by unfold cT;decide +kernel
theorem aBa:cT II xbD 60 aGb:=by unfold cT;decide +kernel
theorem aAz:cT II xbD 60 aGO:=by unfold cT;decide +kernel
theorem aCm:cT II xbD 60 aGc:=by unfold cT;decide +kernel
theorem aBc:cT II xbD 60 aGN:=by unfold cT;decide +kernel
theorem aCT:cT II xbD 60 aGg:=by unfold cT;decide +kernel
theorem aAU:cT II xbD 60 aGo:=by unfold cT;decide +kernel
def TY:List oF:=[aGs,aGb,aGO,aGc,aGN,aGg,aGo]
theorem X0:∀ E∈TY,cT II xbD 60 E:=by
 intro E hE;simp only [TY,List.mem_cons,List.not_mem_nil,or_false] at hE;rcases hE with rfl|rfl|rfl|rfl|rfl|rfl|rfl
 ·exact aD6
 ·exact aBa
 ·exact aAz
 ·exact aCm
 ·exact aBc
 ·exact aCT
 ·exact aAU
def aBI:List oF:=TY++XO
theorem RN:wV Go.Proofs.Tryz.prog aBI:=(D8 aEd aIb X0).app GF
end Go.Aw
end
