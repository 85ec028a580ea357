/-
  Parts of a proof. No condition.
-/
import Derived.Test.YticajjhjehljpaaGreatQAu
set_option linter.unusedSimpArgs false
set_option linter.unusedVariables false
noncomputable section
namespace Go.Aw
def aKI:DC:={ aDx with X:=EV aB3 ZU }
theorem aEq:pA Go.Proofs.Tryz.prog aKI:=GH _ (D7 SV WV) _ _
theorem aCO:CZ aKI (E6 aB3 ZU) 60 false 11 [] [] 0 (fun v _ _=>OM v (.bool true))=true:=by decide +kernel
end Go.Aw
end
