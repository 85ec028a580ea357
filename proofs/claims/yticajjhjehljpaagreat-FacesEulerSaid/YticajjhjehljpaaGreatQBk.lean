/-
  Parts of a proof. No condition.
-/
import Derived.Test.YticajjhjehljpaaGreatQBj
set_option linter.unusedSimpArgs false
set_option linter.unusedVariables false
noncomputable section
namespace Go.Aw
def GG:B9:={ Y5 with X:=FG R0 VG }
def xbD:Nat→Option (List Value→Heap→Nat→qM→Bool):=EJ R0 VG
theorem aF4:TwX GG xbD:=CZ rfl
theorem aD1:oS Go.Proofs.Tryz.prog GG:=DA _ (BY DU SO) _ _
theorem aAk:cH GG xbD 60 aEx:=by unfold cH;decide +kernel
theorem Z6:cH GG xbD 60 aEi:=by unfold cH;decide +kernel
theorem YZ:cH GG xbD 60 aE7:=by unfold cH;decide +kernel
theorem ZA:cH GG xbD 60 aE8:=by unfold cH;decide +kernel
theorem YU:cH GG xbD 60 aDP:=by unfold cH;decide +kernel
theorem ZV:cH GG xbD 60 aEg:=by unfold cH;decide +kernel
theorem aAY:cH GG xbD 60 aEa:=by unfold cH;decide +kernel
def Q6:List mV:=[aEx,aEi,aE7,aE8,aDP,aEg,aEa]
theorem XG:∀ E∈Q6,cH GG xbD 60 E:=by
 intro E hE;simp only [Q6,List.mem_cons,List.not_mem_nil,or_false] at hE;rcases hE with rfl|rfl|rfl|rfl|rfl|rfl|rfl
 ·exact aAk
 ·exact Z6
 ·exact YZ
 ·exact ZA
 ·exact YU
 ·exact ZV
 ·exact aAY
def aA6:List mV:=Q6++R0
theorem O1:tX Go.Proofs.Tryz.prog aA6:=(B6 aD1 aF4 XG).app DU
end Go.Aw
end
