/-
  Parts of a proof. No condition.
-/
import Derived.Test.YtjahkcbdecgbhaaGreatQBh
set_option linter.unusedSimpArgs false
set_option linter.unusedVariables false
noncomputable section
namespace Go.Aw
def aAS:CP:={ aBR with X:=FD TE WH }
def xbC:Nat→Option (List Value→Heap→Nat→rK→Bool):=E4 TE WH
theorem aGv:TwX aAS xbC:=ER rfl
theorem aE9:o8 Go.Proofs.Tryz.prog aAS:=ES _ (CY D7 S1) _ _
theorem aBs:cL aAS xbC 60 aEZ:=by unfold cL;decide +kernel
theorem aAG:cL aAS xbC 60 aEP:=by unfold cL;decide +kernel
def Q7:List mZ:=[aEZ,aEP]
theorem WN:∀ E∈Q7,cL aAS xbC 60 E:=by
 intro E hE;simp only [Q7,List.mem_cons,List.not_mem_nil,or_false] at hE;rcases hE with rfl|rfl
 ·exact aBs
 ·exact aAG
def T1:List mZ:=Q7++TE
theorem EO:uN Go.Proofs.Tryz.prog T1:=(CG aE9 aGv WN).app D7
end Go.Aw
end
