/-
  Parts of the proof, put together. No condition.
-/
import Derived.Test.YtjahkcbdecgbhaaGreatQBu
set_option linter.unusedSimpArgs false
set_option linter.unusedVariables false
noncomputable section
namespace Go.Aw
def aHT:ET:={ aAX with X:=FZ Z6 W2 }
theorem aCB:rP Go.Proofs.Tryz.prog aHT:=E1 _ (C9 Q7 S2) _ _
theorem ZW:BM aHT (DM Z6 W2) 60 false 16 [] [] 0 (fun v _ _=>ME v (.bool true))=true:=by decide +kernel
end Go.Aw
end
