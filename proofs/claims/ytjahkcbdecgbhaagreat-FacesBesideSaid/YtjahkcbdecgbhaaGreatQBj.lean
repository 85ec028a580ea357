/-
  Parts of a proof. No condition.
-/
import Derived.Test.YtjahkcbdecgbhaaGreatQAo
import Derived.Test.YtjahkcbdecgbhaaGreatQAq
import Derived.Test.YtjahkcbdecgbhaaGreatQAr
set_option linter.unusedSimpArgs false
set_option linter.unusedVariables false
noncomputable section
namespace Go.Aw
def aH1:Nat:=505783322557768154083792168837640058031674159105163098739011891983126941195567096
def frB (f:Nat):Bool:=Nat.beq (Nat.land (Nat.shiftRight aH1 f) 1) 1
def aCF:C0:={ aLP with PR:=frB }
def GOK (S:List (Nat × GS)):Prop:=∀ p∈S,cH Go.Proofs.Tryz.prog p.1 (gX p.2)
theorem GOK.nil:GOK []:=fun _ h=>by cases h
theorem GOK.cons {f:Nat}{s:GS}{l:List (Nat × GS)}(h:cH Go.Proofs.Tryz.prog f (gX s))(hl:GOK l):GOK ((f,s)::l):=List.forall_mem_cons.2 ⟨h,hl⟩
def Z7:List (Nat × GS):=[(170,s2 cP cP fun a b=>(true,iv (kY a b))),(119,s2 cS cS fun s t=>(true,u8 (GZ s t))),(198,s2 cS cS fun s t=>(true,u8 (fV s t))),(194,s2 cP cP fun a b=>(true,iv (kY a b))),
 (191,s1 cS fun s=>(true,.bool (eD s))),(199,s2 cP cS fun p s=>(true,.bool (OnS p s))),(189,s2 cS cS fun s t=>(iO s&&iO t,u8 (r9 s t))),(226,s2 cP cS fun p s=>(wide p&&iO s,.bool (onS p s))),(179,s2I fun p q=>(true,iv (jG p q)))]
theorem aAr:GOK Z7:=.cons aKI (.cons aCb (.cons x22 (.cons aF0 (.cons x64 (.cons x20 (.cons x68 (.cons x65 (.cons Y5 .nil))))))))
theorem aJI:∀ f x,GY [] Z7 f=some x→cH Go.Proofs.Tryz.prog f x:=by
 intro f x h;unfold GY at h;simp only [aEG] at h;split at h
 ·rename_i s hs;injection h with h;subst h;exact aAr (f,s) (bA hs)
 ·cases h
theorem WK:∀ f s,look Z7 f=some s→cH Go.Proofs.Tryz.prog f (gX s):=fun f s h=>aAr (f,s) (bA h)
end Go.Aw
end
