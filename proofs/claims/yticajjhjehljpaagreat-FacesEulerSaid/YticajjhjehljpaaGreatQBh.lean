/-
  Parts of a proof. No condition.
-/
import Derived.Test.YticajjhjehljpaaGreatQBg
set_option linter.unusedSimpArgs false
set_option linter.unusedVariables false
noncomputable section
namespace Go.Aw
def aDx:B9:={ Y5 with X:=FG [] VG }
def xbA:Nat→Option (List Value→Heap→Nat→qM→Bool):=EJ [] VG
theorem aF6:TwX aDx xbA:=CZ rfl
theorem aDv:oS Go.Proofs.Tryz.prog aDx:=DA _ aIt _ _
theorem Z2:cH aDx xbA 60 aEk:=by unfold cH;decide +kernel
def RR:List mV:=[aEk]
theorem WE:∀ E∈RR,cH aDx xbA 60 E:=by
 intro E hE;simp only [RR,List.mem_cons,List.not_mem_nil,or_false] at hE;subst hE;exact Z2
def SW:List mV:=RR
theorem C7:tX Go.Proofs.Tryz.prog SW:=B6 aDv aF6 WE
end Go.Aw
end
