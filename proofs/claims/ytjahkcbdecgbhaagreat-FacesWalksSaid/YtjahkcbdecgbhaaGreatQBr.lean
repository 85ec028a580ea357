/-
  Parts of the proof, put together. No condition.
-/
import Derived.Test.YtjahkcbdecgbhaaGreatQBq
set_option linter.unusedSimpArgs false
set_option linter.unusedVariables false
noncomputable section
namespace Go.Aw
def aCl:CC:={ XZ with X:=DV [] W7 }
def xbA:Nat→Option (List Value→Heap→Nat→sR→Bool):=FC [] W7
theorem aGf:TwX aCl xbA:=FN rfl
theorem aBH:pF Go.Proofs.Tryz.prog aCl:=FY _ aI7 _ _
theorem aAl:cJ aCl xbA 60 aEl:=by unfold cJ;decide +kernel
def PN:List nR:=[aEl]
theorem VP:∀ E∈PN,cJ aCl xbA 60 E:=by
 intro E hE;simp only [PN,List.mem_cons,List.not_mem_nil,or_false] at hE;subst hE;exact aAl
def RV:List nR:=PN
theorem DZ:u7 Go.Proofs.Tryz.prog RV:=CZ aBH aGf VP
end Go.Aw
end
