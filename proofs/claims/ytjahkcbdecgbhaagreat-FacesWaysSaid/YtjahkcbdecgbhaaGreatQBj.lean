/-
  Parts of a proof. No condition.
-/
import Derived.Test.YtjahkcbdecgbhaaGreatQAo
import Derived.Test.YtjahkcbdecgbhaaGreatQAq
import Derived.Test.YtjahkcbdecgbhaaGreatQAr
set_option linter.unusedSimpArgs false
set_option linter.unusedVariables false
noncomputable section
namespace Go.Aw
def aIM:Nat:=505783322557768154083792168837640058031674159105163098739011891983126941195567096
def frB (f:Nat):Bool:=Nat.beq (Nat.land (Nat.shiftRight aIM f) 1) 1
def aAl:FH:={ aLE with PR:=frB }
def GOK (S:List (Nat × GS)):Prop:=∀ p∈S,cT Go.Proofs.Tryz.prog p.1 (gX p.2)
theorem GOK.nil:GOK []:=fun _ h=>by cases h
theorem GOK.cons {f:Nat}{s:GS}{l:List (Nat × GS)}(h:cT Go.Proofs.Tryz.prog f (gX s))(hl:GOK l):GOK ((f,s)::l):=List.forall_mem_cons.2 ⟨h,hl⟩
def Y9:List (Nat × GS):=[(170,s2 cP cP fun a b=>(true,iv (lA a b))),(119,s2 cS cS fun s t=>(true,u8 (FB s t))),(198,s2 cS cS fun s t=>(true,u8 (fT s t))),(194,s2 cP cP fun a b=>(true,iv (lA a b))),
 (191,s1 cS fun s=>(true,.bool (eH s))),(199,s2 cP cS fun p s=>(true,.bool (OnS p s))),(189,s2 cS cS fun s t=>(iM s&&iM t,u8 (sE s t))),(226,s2 cP cS fun p s=>(wide p&&iM s,.bool (onS p s))),(179,s2I fun p q=>(true,iv (jL p q)))]
theorem aCo:GOK Y9:=.cons aJG (.cons aG5 (.cons x22 (.cons aFD (.cons x64 (.cons x20 (.cons x68 (.cons x65 (.cons ZI .nil))))))))
theorem aJu:∀ f x,E0 [] Y9 f=some x→cT Go.Proofs.Tryz.prog f x:=by
 intro f x h;unfold E0 at h;simp only [aFF] at h;split at h
 ·rename_i s hs;injection h with h;subst h;exact aCo (f,s) (bF hs)
 ·cases h
theorem VQ:∀ f s,look Y9 f=some s→cT Go.Proofs.Tryz.prog f (gX s):=fun f s h=>aCo (f,s) (bF h)
end Go.Aw
end
