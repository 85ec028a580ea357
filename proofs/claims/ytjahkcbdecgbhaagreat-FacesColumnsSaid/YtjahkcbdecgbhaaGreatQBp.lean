/-
  Parts of a proof. No condition.
-/
import Derived.Test.YtjahkcbdecgbhaaGreatQBo
set_option linter.unusedSimpArgs false
set_option linter.unusedVariables false
noncomputable section
namespace Go.Aw
def aJo:CM:={ Z7 with X:=DO aAn XZ }
theorem aCo:pU Go.Proofs.Tryz.prog aJo:=FY _ (DB RU TX) _ _
theorem Y2:A9 aJo (E0 aAn XZ) 60 false 16 [] [] 0 (fun v _ _=>NO v (.bool true))=true:=by decide +kernel
end Go.Aw
end
