/-
  Parts of a proof. No condition.
-/
import Derived.Test.YtjahkcbdecgbhaaGreatQBo
set_option linter.unusedSimpArgs false
set_option linter.unusedVariables false
noncomputable section
namespace Go.Aw
def aL3:C0:={ aCF with X:=GY aBI Z7 }
theorem aEA:o7 Go.Proofs.Tryz.prog aL3:=GR _ (DZ RN WK) _ _
theorem aCI:CI aL3 (GO aBI Z7) 60 false 16 [] [] 0 (fun v _ _=>QX v (.bool true))=true:=by decide +kernel
end Go.Aw
end
