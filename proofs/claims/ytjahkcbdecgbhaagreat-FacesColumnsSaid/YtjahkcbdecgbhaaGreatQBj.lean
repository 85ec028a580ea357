/-
  Parts of a proof. No condition.
-/
import Derived.Test.YtjahkcbdecgbhaaGreatQAo
import Derived.Test.YtjahkcbdecgbhaaGreatQAq
import Derived.Test.YtjahkcbdecgbhaaGreatQAr
set_option linter.unusedSimpArgs false
set_option linter.unusedVariables false
noncomputable section
namespace Go.Aw
def aG9:Nat:=505783322557768154083792168837640058031674159105163098739011891983126941195567096
def frB (f:Nat):Bool:=Nat.beq (Nat.land (Nat.shiftRight aG9 f) 1) 1
def Z7:CM:={ aLY with PR:=frB }
def GOK (S:List (Nat × GS)):Prop:=∀ p∈S,cO Go.Proofs.Tryz.prog p.1 (gX p.2)
theorem GOK.nil:GOK []:=fun _ h=>by cases h
theorem GOK.cons {f:Nat}{s:GS}{l:List (Nat × GS)}(h:cO Go.Proofs.Tryz.prog f (gX s))(hl:GOK l):GOK ((f,s)::l):=List.forall_mem_cons.2 ⟨h,hl⟩
def XZ:List (Nat × GS):=[(170,s2 cP cP fun a b=>(true,iv (jM a b))),(119,s2 cS cS fun s t=>(true,u8 (D5 s t))),(198,s2 cS cS fun s t=>(true,u8 (eZ s t))),(194,s2 cP cP fun a b=>(true,iv (jM a b))),
 (191,s1 cS fun s=>(true,.bool (dV s))),(199,s2 cP cS fun p s=>(true,.bool (OnS p s))),(189,s2 cS cS fun s t=>(gV s&&gV t,u8 (jQ s t))),(226,s2 cP cS fun p s=>(wide p&&gV s,.bool (onS p s))),(179,s2I fun p q=>(true,iv (gH p q)))]
theorem aAd:GOK XZ:=.cons aJl (.cons aEF (.cons x22 (.cons aCT (.cons x64 (.cons x20 (.cons x68 (.cons x65 (.cons RV .nil))))))))
theorem aJt:∀ f x,DO [] XZ f=some x→cO Go.Proofs.Tryz.prog f x:=by
 intro f x h;unfold DO at h;simp only [aDo] at h;split at h
 ·rename_i s hs;injection h with h;subst h;exact aAd (f,s) (a8 hs)
 ·cases h
theorem TX:∀ f s,look XZ f=some s→cO Go.Proofs.Tryz.prog f (gX s):=fun f s h=>aAd (f,s) (a8 h)
end Go.Aw
end
