/-
  Parts of a proof. No condition.
-/
import Derived.Test.YticajjhjehljpaaGreatQAv
set_option linter.unusedSimpArgs false
set_option linter.unusedVariables false
noncomputable section
namespace Go.Aw
def aO9:EP:={ aDu with X:=GM aCv gsQ }
theorem aHO:qH Go.Proofs.Tryz.prog aO9:=IT _ (FP VI YV) _ _
theorem aEZ:EE aO9 (IQ aCv gsQ) 60 false 11 [] [] 0 (fun v _ _=>Q1 v (.bool true))=true:=by decide +kernel
end Go.Aw
end
