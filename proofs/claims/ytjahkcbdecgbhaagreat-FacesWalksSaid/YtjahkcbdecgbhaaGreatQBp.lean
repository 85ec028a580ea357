/-
  Parts of the proof, put together. No condition.
-/
import Derived.Test.YtjahkcbdecgbhaaGreatQAr
import Derived.Test.YtjahkcbdecgbhaaGreatQAt
import Derived.Test.YtjahkcbdecgbhaaGreatQAv
set_option linter.unusedSimpArgs false
set_option linter.unusedVariables false
noncomputable section
namespace Go.Aw
def aEU:Nat:=505783322557768154083792168837640058031674159105163098739011891983126941195567096
def frB (f:Nat):Bool:=Nat.beq (Nat.land (Nat.shiftRight aEU f) 1) 1
def XZ:CC:={ aJX with PR:=frB }
def GOK (S:List (Nat × GS)):Prop:=∀ p∈S,cE Go.Proofs.Tryz.prog p.1 (gX p.2)
theorem GOK.nil:GOK []:=fun _ h=>by cases h
theorem GOK.cons {f:Nat}{s:GS}{l:List (Nat × GS)}(h:cE Go.Proofs.Tryz.prog f (gX s))(hl:GOK l):GOK ((f,s)::l):=List.forall_mem_cons.2 ⟨h,hl⟩
def W7:List (Nat × GS):=[(170,s2 cP cP fun a b=>(true,iv (j7 a b))),(119,s2 cS cS fun s t=>(true,u8 (E8 s t))),(198,s2 cS cS fun s t=>(true,u8 (fD s t))),(194,s2 cP cP fun a b=>(true,iv (j7 a b))),
 (191,s1 cS fun s=>(true,.bool (dQ s))),(199,s2 cP cS fun p s=>(true,.bool (OnS p s))),(189,s2 cS cS fun s t=>(gM s&&gM t,u8 (rD s t))),(226,s2 cP cS fun p s=>(wide p&&gM s,.bool (onS p s))),(179,s2I fun p q=>(true,iv (iS p q)))]
theorem Y6:GOK W7:=.cons aIc (.cons aDT (.cons x22 (.cons aCf (.cons x64 (.cons x20 (.cons x68 (.cons x65 (.cons U7 .nil))))))))
theorem aI7:∀ f x,DV [] W7 f=some x→cE Go.Proofs.Tryz.prog f x:=by
 intro f x h;unfold DV at h;simp only [aCr] at h;split at h
 ·rename_i s hs;injection h with h;subst h;exact Y6 (f,s) (a8 hs)
 ·cases h
theorem SA:∀ f s,look W7 f=some s→cE Go.Proofs.Tryz.prog f (gX s):=fun f s h=>Y6 (f,s) (a8 h)
end Go.Aw
end
