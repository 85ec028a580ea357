/-
  Parts of a proof. No condition.
-/
import Derived.Test.YtjahkcbdecgbhaaGreatQBk
set_option linter.unusedSimpArgs false
set_option linter.unusedVariables false
noncomputable section
namespace Go.Aw
def aFp:FH:={ aAl with X:=E0 [] Y9 }
def xbA:Nat→Option (List Value→Heap→Nat→uO→Bool):=FW [] Y9
theorem aH6:TwX aFp xbA:=E6 rfl
theorem aDZ:sK Go.Proofs.Tryz.prog aFp:=G0 _ aJu _ _
theorem aCT:cV aFp xbA 60 aGe:=by unfold cV;decide +kernel
def R6:List oJ:=[aGe]
theorem ZT:∀ E∈R6,cV aFp xbA 60 E:=by
 intro E hE;simp only [R6,List.mem_cons,List.not_mem_nil,or_false] at hE;subst hE;exact aCT
def WJ:List oJ:=R6
theorem F9:xG Go.Proofs.Tryz.prog WJ:=EE aDZ aH6 ZT
end Go.Aw
end
