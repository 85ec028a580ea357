/-
  Parts of the proof, put together. No condition.
-/
import Derived.Test.YtjahkcbdecgbhaaGreatQBt
set_option linter.unusedSimpArgs false
set_option linter.unusedVariables false
noncomputable section
namespace Go.Aw
def HI:ET:={ aAX with X:=FZ SX W2 }
def xbD:Nat→Option (List Value→Heap→Nat→sH→Bool):=DM SX W2
theorem aHj:TwX HI xbD:=DR rfl
theorem aDW:rP Go.Proofs.Tryz.prog HI:=E1 _ (C9 EF S2) _ _
theorem aBE:cL HI xbD 60 aEj:=by unfold cL;decide +kernel
theorem YI:cL HI xbD 60 aEQ:=by unfold cL;decide +kernel
theorem aBj:cL HI xbD 60 aEv:=by unfold cL;decide +kernel
theorem aAu:cL HI xbD 60 aEH:=by unfold cL;decide +kernel
theorem YR:cL HI xbD 60 aEC:=by unfold cL;decide +kernel
theorem aAj:cL HI xbD 60 aEg:=by unfold cL;decide +kernel
theorem ZO:cL HI xbD 60 aEp:=by unfold cL;decide +kernel
def Q3:List oB:=[aEj,aEQ,aEv,aEH,aEC,aEg,aEp]
theorem WJ:∀ E∈Q3,cL HI xbD 60 E:=by
 intro E hE;simp only [Q3,List.mem_cons,List.not_mem_nil,or_false] at hE;rcases hE with rfl|rfl|rfl|rfl|rfl|rfl|rfl
 ·exact aBE
 ·exact YI
 ·exact aBj
 ·exact aAu
 ·exact YR
 ·exact aAj
 ·exact ZO
def Z6:List oB:=Q3++SX
theorem Q7:vS Go.Proofs.Tryz.prog Z6:=(DK aDW aHj WJ).app EF
end Go.Aw
end
