/-
  Parts of a proof. No condition.
-/
import Derived.Test.YticajjhjehljpaaGreatQBk
set_option linter.unusedSimpArgs false
set_option linter.unusedVariables false
noncomputable section
namespace Go.Aw
def aI3:B9:={ Y5 with X:=FG aA6 VG }
theorem aDB:oS Go.Proofs.Tryz.prog aI3:=DA _ (BY O1 SO) _ _
theorem aAp:AI aI3 (EJ aA6 VG) 60 false 11 [] [] 0 (fun v _ _=>MI v (.bool true))=true:=by decide +kernel
end Go.Aw
end
