/-
  Parts of a proof. No condition.
-/
import Derived.Test.YticajjhjehljpaaGreatQAo
import Derived.Test.YticajjhjehljpaaGreatQAp
import Derived.Test.YticajjhjehljpaaGreatQAq
set_option linter.unusedSimpArgs false
set_option linter.unusedVariables false
noncomputable section
namespace Go.Aw
def aFr:Nat:=427694997491918182215316377079558395867260410921244672736768
def frB (f:Nat):Bool:=Nat.beq (Nat.land (Nat.shiftRight aFr f) 1) 1
def Y5:B9:={ aJv with PR:=frB }
def GOK (S:List (Nat × GS)):Prop:=∀ p∈S,dK Go.Proofs.Tryz.prog p.1 (gX p.2)
theorem GOK.nil:GOK []:=fun _ h=>by cases h
theorem GOK.cons {f:Nat}{s:GS}{l:List (Nat × GS)}(h:dK Go.Proofs.Tryz.prog f (gX s))(hl:GOK l):GOK ((f,s)::l):=List.forall_mem_cons.2 ⟨h,hl⟩
def VG:List (Nat × GS):=[(109,s2 cP cP fun a b=>(true,iv (jS a b))),(67,s2 cS cS fun s t=>(true,u8 (E6 s t))),(115,s2 cS cS fun s t=>(true,u8 (iI s t))),(113,s2 cP cP fun a b=>(true,iv (jS a b))),
 (110,s1 cS fun s=>(true,.bool (dJ s))),(91,s2 cP cS fun p s=>(true,.bool (OnS p s))),(107,s2 cS cS fun s t=>(uC s&&uC t,u8 (kX s t))),(140,s2 cP cS fun p s=>(wide p&&uC s,.bool (onS p s))),(124,s2I fun p q=>(true,iv (gH p q)))]
theorem aA1:GOK VG:=.cons aIC (.cons aDS (.cons x22 (.cons aCG (.cons x64 (.cons x20 (.cons x68 (.cons x65 (.cons QD .nil))))))))
theorem aIt:∀ f x,FG [] VG f=some x→dK Go.Proofs.Tryz.prog f x:=by
 intro f x h;unfold FG at h;simp only [aDl] at h;split at h
 ·rename_i s hs;injection h with h;subst h;exact aA1 (f,s) (bA hs)
 ·cases h
theorem SO:∀ f s,look VG f=some s→dK Go.Proofs.Tryz.prog f (gX s):=fun f s h=>aA1 (f,s) (bA h)
end Go.Aw
end
