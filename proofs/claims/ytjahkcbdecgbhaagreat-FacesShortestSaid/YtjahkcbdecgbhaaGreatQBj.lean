/-
  Parts of a proof. No condition.
-/
import Derived.Test.YtjahkcbdecgbhaaGreatQBi
set_option linter.unusedSimpArgs false
set_option linter.unusedVariables false
noncomputable section
namespace Go.Aw
def HK:CP:={ aBR with X:=FD T1 WH }
def xbD:Nat→Option (List Value→Heap→Nat→rK→Bool):=E4 T1 WH
theorem aFX:TwX HK xbD:=ER rfl
theorem aEt:o8 Go.Proofs.Tryz.prog HK:=ES _ (CY EO S1) _ _
theorem ZT:cL HK xbD 60 aEN:=by unfold cL;decide +kernel
theorem aAj:cL HK xbD 60 aEL:=by unfold cL;decide +kernel
theorem aBr:cL HK xbD 60 aFe:=by unfold cL;decide +kernel
theorem aBv:cL HK xbD 60 aFn:=by unfold cL;decide +kernel
theorem aAc:cL HK xbD 60 aFc:=by unfold cL;decide +kernel
theorem aAT:cL HK xbD 60 aEQ:=by unfold cL;decide +kernel
theorem aAa:cL HK xbD 60 aFk:=by unfold cL;decide +kernel
def SA:List mZ:=[aEN,aEL,aFe,aFn,aFc,aEQ,aFk]
theorem XO:∀ E∈SA,cL HK xbD 60 E:=by
 intro E hE;simp only [SA,List.mem_cons,List.not_mem_nil,or_false] at hE;rcases hE with rfl|rfl|rfl|rfl|rfl|rfl|rfl
 ·exact ZT
 ·exact aAj
 ·exact aBr
 ·exact aBv
 ·exact aAc
 ·exact aAT
 ·exact aAa
def aAw:List mZ:=SA++T1
theorem Q3:uN Go.Proofs.Tryz.prog aAw:=(CG aEt aFX XO).app EO
end Go.Aw
end
