/-
  Parts of a proof. No condition.
-/
import Derived.Test.YtjahkcbdecgbhaaGreatQBj
set_option linter.unusedSimpArgs false
set_option linter.unusedVariables false
noncomputable section
namespace Go.Aw
def aIX:CP:={ aBR with X:=FD aAw WH }
theorem aCL:o8 Go.Proofs.Tryz.prog aIX:=ES _ (CY Q3 S1) _ _
theorem ZS:BJ aIX (E4 aAw WH) 60 false 16 [] [] 0 (fun v _ _=>O0 v (.bool true))=true:=by decide +kernel
end Go.Aw
end
