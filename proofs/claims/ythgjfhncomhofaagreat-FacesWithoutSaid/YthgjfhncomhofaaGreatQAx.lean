/-
  Parts of a proof. No condition.
-/
import Derived.Test.YthgjfhncomhofaaGreatQAw
set_option linter.unusedSimpArgs false
set_option linter.unusedVariables false
noncomputable section
namespace Go.Aw
open Proofs
def aOV:EI:={ aDQ with X:=KW aEb gsQ }
theorem aIF:o6 Tryz.prog aOV:=KJ _ (IH XR aAd) _ _
theorem aGn:GH aOV (JW aEb gsQ) 60 false 11 [] [] 0 (fun v _ _=>V1 v (.bool true))=true:=by decide +kernel
end Go.Aw
end
