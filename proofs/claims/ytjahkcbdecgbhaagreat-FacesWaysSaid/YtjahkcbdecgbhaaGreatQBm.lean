/-
  Parts of a proof. No condition.
-/
import Derived.Test.YtjahkcbdecgbhaaGreatQBl
set_option linter.unusedSimpArgs false
set_option linter.unusedVariables false
noncomputable section
namespace Go.Aw
def BQ:FH:={ aAl with X:=E0 WJ Y9 }
def xbB:Nat→Option (List Value→Heap→Nat→uO→Bool):=FW WJ Y9
theorem aIi:TwX BQ xbB:=E6 rfl
theorem aDN:sK Go.Proofs.Tryz.prog BQ:=G0 _ (EH F9 VQ) _ _
theorem aAP:cV BQ xbB 60 aFY:=by unfold cV;decide +kernel
theorem aBE:cV BQ xbB 60 aGy:=by unfold cV;decide +kernel
theorem aAm:cV BQ xbB 60 aGs:=by unfold cV;decide +kernel
theorem aAD:cV BQ xbB 60 aGd:=by unfold cV;decide +kernel
theorem aBA:cV BQ xbB 60 aG0:=by unfold cV;decide +kernel
theorem aAT:cV BQ xbB 60 aGE:=by unfold cV;decide +kernel
theorem aCU:cV BQ xbB 60 aFZ:=by unfold cV;decide +kernel
theorem aAJ:cV BQ xbB 60 aGj:=by unfold cV;decide +kernel
theorem aDc:cV BQ xbB 60 aGt:=by unfold cV;decide +kernel
theorem aCC:cV BQ xbB 60 aGx:=by unfold cV;decide +kernel
def TC:List oJ:=[aFY,aGy,aGs,aGd,aG0,aGE,aFZ,aGj,aGt,aGx]
theorem Z3:∀ E∈TC,cV BQ xbB 60 E:=by
 intro E hE;simp only [TC,List.mem_cons,List.not_mem_nil,or_false] at hE;rcases hE with rfl|rfl|rfl|rfl|rfl|rfl|rfl|rfl|rfl|rfl
 ·exact aAP
 ·exact aBE
 ·exact aAm
 ·exact aAD
 ·exact aBA
 ·exact aAT
 ·exact aCU
 ·exact aAJ
 ·exact aDc
 exact aCC
def W9:List oJ:=TC++WJ
theorem FZ:xG Go.Proofs.Tryz.prog W9:=(EE aDN aIi Z3).app F9
end Go.Aw
end
