/-
  Parts of a proof. No condition.
-/
import Derived.Test.YticajjhjehljpaaGreatQAh
import Derived.Test.YticajjhjehljpaaGreatQAi
set_option linter.unusedSimpArgs false
set_option linter.unusedVariables false
noncomputable section
namespace Go.Aw
def aMk:Nat:=427694997491918182215316377079558395867260410921244672736768
def frB (f:Nat):Bool:=Nat.beq (Nat.land (Nat.shiftRight aMk f) 1) 1
def aDu:EP:={ aQ5 with PR:=frB }
def GOK (S:List (Nat × GS)):Prop:=∀ p∈S,cO Go.Proofs.Tryz.prog p.1 (gX p.2)
theorem GOK.nil:GOK []:=fun _ h=>by cases h
theorem GOK.cons {f:Nat}{s:GS}{l:List (Nat × GS)}(h:cO Go.Proofs.Tryz.prog f (gX s))(hl:GOK l):GOK ((f,s)::l):=List.forall_mem_cons.2 ⟨h,hl⟩
def gsQ:List (Nat × GS):=[(109,s2 cP cP fun a b=>(true,iv (kN a b))),(67,s2 cS cS fun s t=>(true,u8 (JE s t))),(115,s2 cS cS fun s t=>(true,u8 (fF s t))),(113,s2 cP cP fun a b=>(true,iv (kN a b))),
 (110,s1 cS fun s=>(true,.bool (dL s))),(91,s2 cP cS fun p s=>(true,.bool (F3 p s))),(107,s2 cS cS fun s t=>(jE s&&jE t,u8 (gV s t))),(140,s2 cP cS fun p s=>(wide p&&jE s,.bool (onS p s))),(124,s2I fun p q=>(true,iv (iO p q)))]
theorem aEH:GOK gsQ:=.cons aOg (.cons aJ4 (.cons x22 (.cons aH5 (.cons x64 (.cons x20 (.cons x68 (.cons x65 (.cons UE .nil))))))))
theorem aNB:∀ f x,GM [] gsQ f=some x→cO Go.Proofs.Tryz.prog f x:=by
 intro f x h;unfold GM at h;simp only [aHI] at h;split at h
 ·rename_i s hs;injection h with h;subst h;exact aEH (f,s) (aY hs)
 ·cases h
theorem YV:∀ f s,look gsQ f=some s→cO Go.Proofs.Tryz.prog f (gX s):=fun f s h=>aEH (f,s) (aY h)
end Go.Aw
end
