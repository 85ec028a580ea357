/-
  Parts of the proof, put together. No condition.
-/
import Derived.Test.YtjahkcbdecgbhaaGreatQBp
set_option linter.unusedSimpArgs false
set_option linter.unusedVariables false
noncomputable section
namespace Go.Aw
def cfgB:Cfg:={ cfgP with X:=calX calsA gsQ }
def xbB:Nat→Option (List Value→Heap→Nat→KEB→Bool):=calXB calsA gsQ
theorem xbB_tw:TwX cfgB xbB:=calTwX rfl
theorem cfgB_ok:CfgOK Go.Proofs.Tryz.prog cfgB:=cfg_ok _ (calX_ok calsA_good gsQ_l) _ _
end Go.Aw
end

noncomputable section
namespace Go.Aw
theorem calB0_ok:CalOK cfgB xbB 60 calB0:=by unfold CalOK;decide +kernel
end Go.Aw
end

noncomputable section
namespace Go.Aw
theorem calB1_ok:CalOK cfgB xbB 60 calB1:=by unfold CalOK;decide +kernel
end Go.Aw
end

noncomputable section
namespace Go.Aw
theorem calB2_ok:CalOK cfgB xbB 60 calB2:=by unfold CalOK;decide +kernel
end Go.Aw
end

noncomputable section
namespace Go.Aw
theorem calB3_ok:CalOK cfgB xbB 60 calB3:=by unfold CalOK;decide +kernel
end Go.Aw
end

noncomputable section
namespace Go.Aw
theorem calB4_ok:CalOK cfgB xbB 60 calB4:=by unfold CalOK;decide +kernel
end Go.Aw
end

noncomputable section
namespace Go.Aw
theorem calB5_ok:CalOK cfgB xbB 60 calB5:=by unfold CalOK;decide +kernel
end Go.Aw
end

noncomputable section
namespace Go.Aw
theorem calB6_ok:CalOK cfgB xbB 60 calB6:=by unfold CalOK;decide +kernel
end Go.Aw
end

noncomputable section
namespace Go.Aw
theorem calB7_ok:CalOK cfgB xbB 60 calB7:=by unfold CalOK;decide +kernel
end Go.Aw
end

noncomputable section
namespace Go.Aw
theorem calB8_ok:CalOK cfgB xbB 60 calB8:=by unfold CalOK;decide +kernel
end Go.Aw
end

noncomputable section
namespace Go.Aw
theorem calB9_ok:CalOK cfgB xbB 60 calB9:=by unfold CalOK;decide +kernel
end Go.Aw
end

noncomputable section
namespace Go.Aw
def calsB0:List Cal:=[calB0,calB1,calB2,calB3,calB4,calB5,calB6,calB7,calB8,calB9]
theorem calsB0_ok:∀ E∈calsB0,CalOK cfgB xbB 60 E:=by
 intro E hE
 simp only [calsB0,List.mem_cons,List.not_mem_nil,or_false] at hE
 rcases hE with rfl|rfl|rfl|rfl|rfl|rfl|rfl|rfl|rfl|rfl
 ·exact calB0_ok
 ·exact calB1_ok
 ·exact calB2_ok
 ·exact calB3_ok
 ·exact calB4_ok
 ·exact calB5_ok
 ·exact calB6_ok
 ·exact calB7_ok
 ·exact calB8_ok
 ·exact calB9_ok
def calsB:List Cal:=calsB0++calsA
theorem calsB_good:GoodC Go.Proofs.Tryz.prog calsB:=(good_of cfgB_ok xbB_tw calsB0_ok).app calsA_good
end Go.Aw
end
