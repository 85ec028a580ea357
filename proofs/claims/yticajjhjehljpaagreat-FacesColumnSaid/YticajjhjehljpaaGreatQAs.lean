/-
  Parts of a proof. No condition.
-/
import Derived.Test.YticajjhjehljpaaGreatQAr
set_option linter.unusedSimpArgs false
set_option linter.unusedVariables false
noncomputable section
namespace Go.Aw
def AV:DC:={ aDx with X:=EV VT ZU }
def xbB:Nat→Option (List Value→Heap→Nat→uH→Bool):=E6 VT ZU
theorem aI0:TwX AV xbB:=GQ rfl
theorem aF1:pA Go.Proofs.Tryz.prog AV:=GH _ (D7 E2 WV) _ _
theorem aAS:cT AV xbB 60 aH8:=by unfold cT;decide +kernel
theorem aCz:cT AV xbB 60 aHN:=by unfold cT;decide +kernel
theorem aBO:cT AV xbB 60 aHi:=by unfold cT;decide +kernel
theorem aDI:cT AV xbB 60 aHO:=by unfold cT;decide +kernel
theorem aBi:cT AV xbB 60 aHk:=by unfold cT;decide +kernel
theorem aCn:cT AV xbB 60 aGL:=by unfold cT;decide +kernel
theorem aC8:cT AV xbB 60 aHc:=by unfold cT;decide +kernel
theorem aDG:cT AV xbB 60 aHl:=by unfold cT;decide +kernel
theorem aBP:cT AV xbB 60 aH4:=by unfold cT;decide +kernel
theorem aBa:cT AV xbB 60 aHI:=by unfold cT;decide +kernel
def SZ:List oJ:=[aH8,aHN,aHi,aHO,aHk,aGL,aHc,aHl,aH4,aHI]
theorem aA6:∀ E∈SZ,cT AV xbB 60 E:=by
 intro E hE;simp only [SZ,List.mem_cons,List.not_mem_nil,or_false] at hE;rcases hE with rfl|rfl|rfl|rfl|rfl|rfl|rfl|rfl|rfl|rfl
 ·exact aAS
 ·exact aCz
 ·exact aBO
 ·exact aDI
 ·exact aBi
 ·exact aCn
 ·exact aC8
 ·exact aDG
 ·exact aBP
 exact aBa
def W9:List oJ:=SZ++VT
theorem FC:vX Go.Proofs.Tryz.prog W9:=(DO aF1 aI0 aA6).app E2
end Go.Aw
end
