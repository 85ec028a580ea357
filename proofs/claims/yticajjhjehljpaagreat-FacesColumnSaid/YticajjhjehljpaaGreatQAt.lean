/-
  Parts of a proof. No condition.
-/
import Derived.Test.YticajjhjehljpaaGreatQAs
set_option linter.unusedSimpArgs false
set_option linter.unusedVariables false
noncomputable section
namespace Go.Aw
def aB4:DC:={ aDx with X:=EV W9 ZU }
def xbC:Nat→Option (List Value→Heap→Nat→uH→Bool):=E6 W9 ZU
theorem aIo:TwX aB4 xbC:=GQ rfl
theorem aFP:pA Go.Proofs.Tryz.prog aB4:=GH _ (D7 FC WV) _ _
theorem aCr:cT aB4 xbC 60 aH5:=by unfold cT;decide +kernel
theorem aDM:cT aB4 xbC 60 aGS:=by unfold cT;decide +kernel
def UL:List oJ:=[aH5,aGS]
theorem Z6:∀ E∈UL,cT aB4 xbC 60 E:=by
 intro E hE;simp only [UL,List.mem_cons,List.not_mem_nil,or_false] at hE;rcases hE with rfl|rfl
 ·exact aCr
 exact aDM
def U5:List oJ:=UL++W9
theorem HU:vX Go.Proofs.Tryz.prog U5:=(DO aFP aIo Z6).app FC
end Go.Aw
end
