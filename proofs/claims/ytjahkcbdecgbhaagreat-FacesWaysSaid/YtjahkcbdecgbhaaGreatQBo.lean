/-
  Parts of a proof. No condition.
-/
import Derived.Test.YtjahkcbdecgbhaaGreatQBn
set_option linter.unusedSimpArgs false
set_option linter.unusedVariables false
noncomputable section
namespace Go.Aw
def IJ:FH:={ aAl with X:=E0 WN Y9 }
def xbD:Nat→Option (List Value→Heap→Nat→uO→Bool):=FW WN Y9
theorem aHz:TwX IJ xbD:=E6 rfl
theorem aE2:sK Go.Proofs.Tryz.prog IJ:=G0 _ (EH GO VQ) _ _
theorem aCl:cV IJ xbD 60 aGq:=by unfold cV;decide +kernel
theorem aC5:cV IJ xbD 60 aFV:=by unfold cV;decide +kernel
theorem aBa:cV IJ xbD 60 aGh:=by unfold cV;decide +kernel
theorem aBW:cV IJ xbD 60 aGf:=by unfold cV;decide +kernel
theorem aBf:cV IJ xbD 60 aGb:=by unfold cV;decide +kernel
theorem aBU:cV IJ xbD 60 aG1:=by unfold cV;decide +kernel
theorem aBP:cV IJ xbD 60 aGz:=by unfold cV;decide +kernel
def TY:List oJ:=[aGq,aFV,aGh,aGf,aGb,aG1,aGz]
theorem ZU:∀ E∈TY,cV IJ xbD 60 E:=by
 intro E hE;simp only [TY,List.mem_cons,List.not_mem_nil,or_false] at hE;rcases hE with rfl|rfl|rfl|rfl|rfl|rfl|rfl
 ·exact aCl
 ·exact aC5
 ·exact aBa
 ·exact aBW
 ·exact aBf
 ·exact aBU
 exact aBP
def aAx:List oJ:=TY++WN
theorem SH:xG Go.Proofs.Tryz.prog aAx:=(EE aE2 aHz ZU).app GO
end Go.Aw
end
