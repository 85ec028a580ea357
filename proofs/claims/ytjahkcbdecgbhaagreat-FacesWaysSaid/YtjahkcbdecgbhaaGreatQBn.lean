/-
  Parts of a proof. No condition.
-/
import Derived.Test.YtjahkcbdecgbhaaGreatQBm
set_option linter.unusedSimpArgs false
set_option linter.unusedVariables false
noncomputable section
namespace Go.Aw
def aD3:FH:={ aAl with X:=E0 W9 Y9 }
def xbC:Nat→Option (List Value→Heap→Nat→uO→Bool):=FW W9 Y9
theorem aIR:TwX aD3 xbC:=E6 rfl
theorem aEx:sK Go.Proofs.Tryz.prog aD3:=G0 _ (EH FZ VQ) _ _
theorem aBe:cV aD3 xbC 60 aGD:=by unfold cV;decide +kernel
theorem aAB:cV aD3 xbC 60 aGa:=by unfold cV;decide +kernel
def UH:List oJ:=[aGD,aGa]
theorem ZB:∀ E∈UH,cV aD3 xbC 60 E:=by
 intro E hE;simp only [UH,List.mem_cons,List.not_mem_nil,or_false] at hE;rcases hE with rfl|rfl
 ·exact aBe
 exact aAB
def WN:List oJ:=UH++W9
theorem GO:xG Go.Proofs.Tryz.prog WN:=(EE aEx aIR ZB).app FZ
end Go.Aw
end
