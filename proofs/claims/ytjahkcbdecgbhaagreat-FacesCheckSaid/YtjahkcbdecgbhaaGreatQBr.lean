/-
  Parts of the proof, put together. No condition.
-/
import Derived.Test.YtjahkcbdecgbhaaGreatQBq
set_option linter.unusedSimpArgs false
set_option linter.unusedVariables false
noncomputable section
namespace Go.Aw
def cfgC:Cfg:={ cfgP with X:=calX calsB gsQ }
def xbC:Nat→Option (List Value→Heap→Nat→KEB→Bool):=calXB calsB gsQ
theorem xbC_tw:TwX cfgC xbC:=calTwX rfl
theorem cfgC_ok:CfgOK Go.Proofs.Tryz.prog cfgC:=cfg_ok _ (calX_ok calsB_good gsQ_l) _ _
end Go.Aw
end

noncomputable section
namespace Go.Aw
theorem calC0_ok:CalOK cfgC xbC 60 calC0:=by unfold CalOK;decide +kernel
end Go.Aw
end

noncomputable section
namespace Go.Aw
theorem calC1_ok:CalOK cfgC xbC 60 calC1:=by unfold CalOK;decide +kernel
end Go.Aw
end

noncomputable section
namespace Go.Aw
def calsC0:List Cal:=[calC0,calC1]
theorem calsC0_ok:∀ E∈calsC0,CalOK cfgC xbC 60 E:=by
 intro E hE
 simp only [calsC0,List.mem_cons,List.not_mem_nil,or_false] at hE
 rcases hE with rfl|rfl
 ·exact calC0_ok
 ·exact calC1_ok
def calsC:List Cal:=calsC0++calsB
theorem calsC_good:GoodC Go.Proofs.Tryz.prog calsC:=(good_of cfgC_ok xbC_tw calsC0_ok).app calsB_good
end Go.Aw
end
