/-
  Parts of a proof. No condition.
-/
import Derived.Test.YtjahkcbdecgbhaaGreatQBg
set_option linter.unusedSimpArgs false
set_option linter.unusedVariables false
noncomputable section
namespace Go.Aw
def AH:CP:={ aBR with X:=FD TW WH }
def YR:Nat→Option (List Value→Heap→Nat→rK→Bool):=E4 TW WH
theorem aGL:TwX AH YR:=ER rfl
theorem aCa:o8 Go.Proofs.Tryz.prog AH:=ES _ (CY FG S1) _ _
theorem aAl:cL AH YR 60 aF2:=by unfold cL;decide +kernel
theorem aB0:cL AH YR 60 aF3:=by unfold cL;decide +kernel
theorem aBm:cL AH YR 60 aET:=by unfold cL;decide +kernel
theorem Z7:cL AH YR 60 aEU:=by unfold cL;decide +kernel
theorem ZF:cL AH YR 60 aEB:=by unfold cL;decide +kernel
theorem aAn:cL AH YR 60 aEW:=by unfold cL;decide +kernel
theorem aAo:cL AH YR 60 aED:=by unfold cL;decide +kernel
theorem aBa:cL AH YR 60 aEJ:=by unfold cL;decide +kernel
theorem Y2:cL AH YR 60 aFg:=by unfold cL;decide +kernel
theorem aA3:cL AH YR 60 aFb:=by unfold cL;decide +kernel
def SO:List mZ:=[aF2,aF3,aET,aEU,aEB,aEW,aED,aEJ,aFg,aFb]
theorem WU:∀ E∈SO,cL AH YR 60 E:=by
 intro E hE;simp only [SO,List.mem_cons,List.not_mem_nil,or_false] at hE;rcases hE with rfl|rfl|rfl|rfl|rfl|rfl|rfl|rfl|rfl|rfl
 ·exact aAl
 ·exact aB0
 ·exact aBm
 ·exact Z7
 ·exact ZF
 ·exact aAn
 ·exact aAo
 ·exact aBa
 ·exact Y2
 ·exact aA3
def TE:List mZ:=SO++TW
theorem D7:uN Go.Proofs.Tryz.prog TE:=(CG aCa aGL WU).app FG
end Go.Aw
end
