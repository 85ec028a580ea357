/-
  Parts of a proof. No condition.
-/
import Derived.Test.YthgjfhncomhofaaGreatQAi
import Derived.Test.YthgjfhncomhofaaGreatQAj
set_option linter.unusedSimpArgs false
set_option linter.unusedVariables false
noncomputable section
namespace Go.Aw
open Proofs
def aMf:Nat:=110453369119147045455192754009642865181667812255835906716341001528593408
def frB (f:Nat):Bool:=Nat.beq (Nat.land (Nat.shiftRight aMf f) 1) 1
def aDQ:EI:={ aS0 with PR:=frB }
def GOK (S:List (Nat × GS)):Prop:=∀ p∈S,c7 Tryz.prog p.1 (gX p.2)
theorem GOK.nil:GOK []:=fun _ h=>by cases h
theorem GOK.cons {f:Nat}{s:GS}{l:List (Nat × GS)}(h:c7 Tryz.prog f (gX s))(hl:GOK l):GOK ((f,s)::l):=ae.2 ⟨h,hl⟩
def gsQ:List (Nat × GS):=[(114,s2 cP cP fun a b=>(true,iv (iV a b))),(94,s2 cS cS fun s t=>(true,u8 (J9 s t))),(152,s2 cS cS fun s t=>(true,u8 (dW s t))),(167,s2 cP cP fun a b=>(true,iv (iV a b))),
 (164,s1 cS fun s=>(true,.bool (c8 s))),(153,s2 cP cS fun p s=>(true,.bool (OnS p s))),(162,s2 cS cS fun s t=>(jZ s&&jZ t,u8 (pC s t))),(201,s2 cP cS fun p s=>(wide p&&jZ s,.bool (onS p s))),(124,s2I fun p q=>(true,iv (jN p q)))]
theorem aFh:GOK gsQ:=.cons aDC (.cons aKO (.cons x22 (.cons aIA (.cons x64 (.cons x20 (.cons x68 (.cons x65 (.cons UQ .nil))))))))
theorem aP0:∀ f x,KW [] gsQ f=some x->c7 Tryz.prog f x:=by
 intro f x h;unfold KW at h;simp only[aIe]at h;split at h
 ·rename_i s hs;injection h with h;subst h;exact aFh (f,s) (aT hs)
 ·cases h
theorem aAd:∀ f s,aw gsQ f=some s->c7 Tryz.prog f (gX s):=fun f s h=>aFh (f,s) (aT h)
end Go.Aw
end
