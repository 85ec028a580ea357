/-
  Parts of a proof. No condition.
-/
import Derived.Test.YtjahkcbdecgbhaaGreatQBf
set_option linter.unusedSimpArgs false
set_option linter.unusedVariables false
noncomputable section
namespace Go.Aw
def aE3:CP:={ aBR with X:=FD [] WH }
def xbA:Nat→Option (List Value→Heap→Nat→rK→Bool):=E4 [] WH
theorem aFy:TwX aE3 xbA:=ER rfl
theorem aDs:o8 Go.Proofs.Tryz.prog aE3:=ES _ aHK _ _
theorem aAQ:cL aE3 xbA 60 aEY:=by unfold cL;decide +kernel
def QG:List mZ:=[aEY]
theorem XG:∀ E∈QG,cL aE3 xbA 60 E:=by
 intro E hE;simp only [QG,List.mem_cons,List.not_mem_nil,or_false] at hE;subst hE;exact aAQ
def TW:List mZ:=QG
theorem FG:uN Go.Proofs.Tryz.prog TW:=CG aDs aFy XG
end Go.Aw
end
