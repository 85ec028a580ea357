/-
  Parts of a proof. No condition.
-/
import Derived.Test.YtjahkcbdecgbhaaGreatQBk
set_option linter.unusedSimpArgs false
set_option linter.unusedVariables false
noncomputable section
namespace Go.Aw
def aF4:C0:={ aCF with X:=GY [] Z7 }
def xbA:Nat→Option (List Value→Heap→Nat→sX→Bool):=GO [] Z7
theorem aIN:TwX aF4 xbA:=FL rfl
theorem aE7:o7 Go.Proofs.Tryz.prog aF4:=GR _ aJI _ _
theorem aBM:cT aF4 xbA 60 aGx:=by unfold cT;decide +kernel
def TQ:List oF:=[aGx]
theorem XV:∀ E∈TQ,cT aF4 xbA 60 E:=by
 intro E hE;simp only [TQ,List.mem_cons,List.not_mem_nil,or_false] at hE;subst hE;exact aBM
def VS:List oF:=TQ
theorem E9:wV Go.Proofs.Tryz.prog VS:=D8 aE7 aIN XV
end Go.Aw
end
