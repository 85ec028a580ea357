/-
  Parts of the proof, put together. No condition.
-/
import Derived.Test.YtjahkcbdecgbhaaGreatQBq
set_option linter.unusedSimpArgs false
set_option linter.unusedVariables false
noncomputable section
namespace Go.Aw
def aDe:ET:={ aAX with X:=FZ [] W2 }
def xbA:Nat→Option (List Value→Heap→Nat→sH→Bool):=DM [] W2
theorem aFT:TwX aDe xbA:=DR rfl
theorem aCJ:rP Go.Proofs.Tryz.prog aDe:=E1 _ aJa _ _
theorem ZJ:cL aDe xbA 60 aEh:=by unfold cL;decide +kernel
def QI:List oB:=[aEh]
theorem XV:∀ E∈QI,cL aDe xbA 60 E:=by
 intro E hE;simp only [QI,List.mem_cons,List.not_mem_nil,or_false] at hE;subst hE;exact ZJ
def TV:List oB:=QI
theorem D5:vS Go.Proofs.Tryz.prog TV:=DK aCJ aFT XV
end Go.Aw
end
