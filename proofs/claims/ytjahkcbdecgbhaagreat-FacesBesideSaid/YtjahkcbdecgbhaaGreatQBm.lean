/-
  Parts of a proof. No condition.
-/
import Derived.Test.YtjahkcbdecgbhaaGreatQBl
set_option linter.unusedSimpArgs false
set_option linter.unusedVariables false
noncomputable section
namespace Go.Aw
def BW:C0:={ aCF with X:=GY VS Z7 }
def xbB:Nat→Option (List Value→Heap→Nat→sX→Bool):=GO VS Z7
theorem aGT:TwX BW xbB:=FL rfl
theorem aEE:o7 Go.Proofs.Tryz.prog BW:=GR _ (DZ E9 WK) _ _
theorem aAe:cT BW xbB 60 aFR:=by unfold cT;decide +kernel
theorem aAI:cT BW xbB 60 aGi:=by unfold cT;decide +kernel
theorem aD7:cT BW xbB 60 aGM:=by unfold cT;decide +kernel
theorem aCU:cT BW xbB 60 aGd:=by unfold cT;decide +kernel
theorem aC1:cT BW xbB 60 aGE:=by unfold cT;decide +kernel
theorem aB6:cT BW xbB 60 aGz:=by unfold cT;decide +kernel
theorem aB0:cT BW xbB 60 aGF:=by unfold cT;decide +kernel
theorem aBC:cT BW xbB 60 aGp:=by unfold cT;decide +kernel
theorem aAF:cT BW xbB 60 aFN:=by unfold cT;decide +kernel
theorem aBZ:cT BW xbB 60 aGD:=by unfold cT;decide +kernel
def RY:List oF:=[aFR,aGi,aGM,aGd,aGE,aGz,aGF,aGp,aFN,aGD]
theorem YX:∀ E∈RY,cT BW xbB 60 E:=by
 intro E hE;simp only [RY,List.mem_cons,List.not_mem_nil,or_false] at hE;rcases hE with rfl|rfl|rfl|rfl|rfl|rfl|rfl|rfl|rfl|rfl
 ·exact aAe
 ·exact aAI
 ·exact aD7
 ·exact aCU
 ·exact aC1
 ·exact aB6
 ·exact aB0
 ·exact aBC
 ·exact aAF
 ·exact aBZ
def WS:List oF:=RY++VS
theorem F3:wV Go.Proofs.Tryz.prog WS:=(D8 aEE aGT YX).app E9
end Go.Aw
end
