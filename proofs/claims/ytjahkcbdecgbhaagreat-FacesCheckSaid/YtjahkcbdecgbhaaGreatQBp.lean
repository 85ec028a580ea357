/-
  Parts of the proof, put together. No condition.
-/
import Derived.Test.YtjahkcbdecgbhaaGreatQBo
set_option linter.unusedSimpArgs false
set_option linter.unusedVariables false
noncomputable section
namespace Go.Aw
def cfgA:Cfg:={ cfgP with X:=calX [] gsQ }
def xbA:Nat→Option (List Value→Heap→Nat→KEB→Bool):=calXB [] gsQ
theorem xbA_tw:TwX cfgA xbA:=calTwX rfl
theorem cfgA_ok:CfgOK Go.Proofs.Tryz.prog cfgA:=cfg_ok _ gsQ_x _ _
end Go.Aw
end

noncomputable section
namespace Go.Aw
theorem calA0_ok:CalOK cfgA xbA 60 calA0:=by unfold CalOK;decide +kernel
end Go.Aw
end

noncomputable section
namespace Go.Aw
def calsA0:List Cal:=[calA0]
theorem calsA0_ok:∀ E∈calsA0,CalOK cfgA xbA 60 E:=by
 intro E hE
 simp only [calsA0,List.mem_cons,List.not_mem_nil,or_false] at hE
 subst hE
 exact calA0_ok
def calsA:List Cal:=calsA0
theorem calsA_good:GoodC Go.Proofs.Tryz.prog calsA:=good_of cfgA_ok xbA_tw calsA0_ok
end Go.Aw
end
