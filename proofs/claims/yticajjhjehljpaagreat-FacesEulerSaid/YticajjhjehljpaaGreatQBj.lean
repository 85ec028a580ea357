/-
  Parts of a proof. No condition.
-/
import Derived.Test.YticajjhjehljpaaGreatQBi
set_option linter.unusedSimpArgs false
set_option linter.unusedVariables false
noncomputable section
namespace Go.Aw
def aAn:B9:={ Y5 with X:=FG TX VG }
def xbC:Nat→Option (List Value→Heap→Nat→qM→Bool):=EJ TX VG
theorem aEX:TwX aAn xbC:=CZ rfl
theorem aD4:oS Go.Proofs.Tryz.prog aAn:=DA _ (BY DP SO) _ _
theorem ZH:cH aAn xbC 60 aE1:=by unfold cH;decide +kernel
theorem YV:cH aAn xbC 60 aEt:=by unfold cH;decide +kernel
def RC:List mV:=[aE1,aEt]
theorem VJ:∀ E∈RC,cH aAn xbC 60 E:=by
 intro E hE;simp only [RC,List.mem_cons,List.not_mem_nil,or_false] at hE;rcases hE with rfl|rfl
 ·exact ZH
 ·exact YV
def R0:List mV:=RC++TX
theorem DU:tX Go.Proofs.Tryz.prog R0:=(B6 aD4 aEX VJ).app DP
end Go.Aw
end
