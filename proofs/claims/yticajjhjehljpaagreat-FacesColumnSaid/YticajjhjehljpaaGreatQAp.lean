/-
  Parts of a proof. No condition.
-/
import Derived.Test.YticajjhjehljpaaGreatQAh
import Derived.Test.YticajjhjehljpaaGreatQAi
set_option linter.unusedSimpArgs false
set_option linter.unusedVariables false
noncomputable section
namespace Go.Aw
def aJh:Nat:=427694997491918182215316377079558395867260410921244672736768
def frB (f:Nat):Bool:=Nat.beq (Nat.land (Nat.shiftRight aJh f) 1) 1
def aDx:DC:={ aNC with PR:=frB }
def GOK (S:List (Nat × GS)):Prop:=∀ p∈S,dJ Go.Proofs.Tryz.prog p.1 (gX p.2)
theorem GOK.nil:GOK []:=fun _ h=>by cases h
theorem GOK.cons {f:Nat}{s:GS}{l:List (Nat × GS)}(h:dJ Go.Proofs.Tryz.prog f (gX s))(hl:GOK l):GOK ((f,s)::l):=List.forall_mem_cons.2 ⟨h,hl⟩
def ZU:List (Nat × GS):=[(109,s2 cP cP fun a b=>(true,iv (jK a b))),(67,s2 cS cS fun s t=>(true,u8 (ID s t))),(115,s2 cS cS fun s t=>(true,u8 (iO s t))),(113,s2 cP cP fun a b=>(true,iv (jK a b))),
 (110,s1 cS fun s=>(true,.bool (dR s))),(91,s2 cP cS fun p s=>(true,.bool (JS p s))),(107,s2 cS cS fun s t=>(wK s&&wK t,u8 (fR s t))),(140,s2 cP cS fun p s=>(wide p&&wK s,.bool (onS p s))),(124,s2I fun p q=>(true,iv (gB p q)))]
theorem aDt:GOK ZU:=.cons aLh (.cons aHM (.cons x22 (.cons aG3 (.cons x64 (.cons x20 (.cons x68 (.cons x65 (.cons SS .nil))))))))
theorem aLQ:∀ f x,EV [] ZU f=some x→dJ Go.Proofs.Tryz.prog f x:=by
 intro f x h;unfold EV at h;simp only [aFc] at h;split at h
 ·rename_i s hs;injection h with h;subst h;exact aDt (f,s) (aW hs)
 ·cases h
theorem WV:∀ f s,look ZU f=some s→dJ Go.Proofs.Tryz.prog f (gX s):=fun f s h=>aDt (f,s) (aW h)
end Go.Aw
end
