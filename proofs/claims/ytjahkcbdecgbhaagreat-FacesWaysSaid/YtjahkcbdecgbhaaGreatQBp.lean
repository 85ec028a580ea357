/-
  Parts of a proof. No condition.
-/
import Derived.Test.YtjahkcbdecgbhaaGreatQBo
set_option linter.unusedSimpArgs false
set_option linter.unusedVariables false
noncomputable section
namespace Go.Aw
def aKm:FH:={ aAl with X:=E0 aAx Y9 }
theorem aEl:sK Go.Proofs.Tryz.prog aKm:=G0 _ (EH SH VQ) _ _
theorem aCH:CK aKm (FW aAx Y9) 60 false 16 [] [] 0 (fun v _ _=>OZ v (.bool true))=true:=by decide +kernel
end Go.Aw
end
