/-
  Parts of the proof, put together. No condition.
-/
import Derived.Test.YtjahkcbdecgbhaaGreatQBu
set_option linter.unusedSimpArgs false
set_option linter.unusedVariables false
noncomputable section
namespace Go.Aw
def aHi:CC:={ XZ with X:=DV X8 W7 }
theorem aCW:pF Go.Proofs.Tryz.prog aHi:=FY _ (CD RF SA) _ _
theorem Y4:BC aHi (FC X8 W7) 60 false 16 [] [] 0 (fun v _ _=>LJ v (.bool true))=true:=by decide +kernel
end Go.Aw
end
