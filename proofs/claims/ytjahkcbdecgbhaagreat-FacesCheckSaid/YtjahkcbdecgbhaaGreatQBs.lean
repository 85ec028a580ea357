/-
  Parts of the proof, put together. No condition.
-/
import Derived.Test.YtjahkcbdecgbhaaGreatQBr
set_option linter.unusedSimpArgs false
set_option linter.unusedVariables false
noncomputable section
namespace Go.Aw
def cfgD:Cfg:={ cfgP with X:=calX calsC gsQ }
def xbD:Nat→Option (List Value→Heap→Nat→KEB→Bool):=calXB calsC gsQ
theorem xbD_tw:TwX cfgD xbD:=calTwX rfl
theorem cfgD_ok:CfgOK Go.Proofs.Tryz.prog cfgD:=cfg_ok _ (calX_ok calsC_good gsQ_l) _ _
end Go.Aw
end

noncomputable section
namespace Go.Aw
theorem calD0_ok:CalOK cfgD xbD 60 calD0:=by unfold CalOK;decide +kernel
end Go.Aw
end

noncomputable section
namespace Go.Aw
theorem calD1_ok:CalOK cfgD xbD 60 calD1:=by unfold CalOK;decide +kernel
end Go.Aw
end

noncomputable section
namespace Go.Aw
theorem calD2_ok:CalOK cfgD xbD 60 calD2:=by unfold CalOK;decide +kernel
end Go.Aw
end

noncomputable section
namespace Go.Aw
theorem calD3_ok:CalOK cfgD xbD 60 calD3:=by unfold CalOK;decide +kernel
end Go.Aw
end

noncomputable section
namespace Go.Aw
theorem calD4_ok:CalOK cfgD xbD 60 calD4:=by unfold CalOK;decide +kernel
end Go.Aw
end

noncomputable section
namespace Go.Aw
theorem calD5_ok:CalOK cfgD xbD 60 calD5:=by unfold CalOK;decide +kernel
end Go.Aw
end

noncomputable section
namespace Go.Aw
theorem calD6_ok:CalOK cfgD xbD 60 calD6:=by unfold CalOK;decide +kernel
end Go.Aw
end

noncomputable section
namespace Go.Aw
def calsD0:List Cal:=[calD0,calD1,calD2,calD3,calD4,calD5,calD6]
theorem calsD0_ok:∀ E∈calsD0,CalOK cfgD xbD 60 E:=by
 intro E hE
 simp only [calsD0,List.mem_cons,List.not_mem_nil,or_false] at hE
 rcases hE with rfl|rfl|rfl|rfl|rfl|rfl|rfl
 ·exact calD0_ok
 ·exact calD1_ok
 ·exact calD2_ok
 ·exact calD3_ok
 ·exact calD4_ok
 ·exact calD5_ok
 ·exact calD6_ok
def calsD:List Cal:=calsD0++calsC
theorem calsD_good:GoodC Go.Proofs.Tryz.prog calsD:=(good_of cfgD_ok xbD_tw calsD0_ok).app calsC_good
end Go.Aw
end
