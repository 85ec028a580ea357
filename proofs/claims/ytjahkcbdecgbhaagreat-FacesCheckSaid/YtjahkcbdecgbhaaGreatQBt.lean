/-
  Parts of the proof, put together. No condition.
-/
import Derived.Test.YtjahkcbdecgbhaaGreatQBs
set_option linter.unusedSimpArgs false
set_option linter.unusedVariables false
noncomputable section
namespace Go.Aw
def cfgM:Cfg:={ cfgP with X:=calX calsD gsQ }
theorem cfgM_ok:CfgOK Go.Proofs.Tryz.prog cfgM:=cfg_ok _ (calX_ok calsD_good gsQ_l) _ _
theorem mapped_B:wcall cfgM (calXB calsD gsQ) 60 false 16 [] [] 0 (fun v _ _=>sameT v (.bool true))=true:=by decide +kernel
end Go.Aw
end
