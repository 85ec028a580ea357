/-
  Parts of a proof. No condition.
-/
import Derived.Test.YtjahkcbdecgbhaaGreatQAo
import Derived.Test.YtjahkcbdecgbhaaGreatQAp
import Derived.Test.YtjahkcbdecgbhaaGreatQAq
set_option linter.unusedSimpArgs false
set_option linter.unusedVariables false
noncomputable section
namespace Go.Aw
def aGm:Nat:=505783322557768154083792168837640058031674159105163098739011891983126941195567096
def frB (f:Nat):Bool:=Nat.beq (Nat.land (Nat.shiftRight aGm f) 1) 1
def aBR:CP:={ aKV with PR:=frB }
def GOK (S:List (Nat × GS)):Prop:=∀ p∈S,dM Go.Proofs.Tryz.prog p.1 (gX p.2)
theorem GOK.nil:GOK []:=fun _ h=>by cases h
theorem GOK.cons {f:Nat}{s:GS}{l:List (Nat × GS)}(h:dM Go.Proofs.Tryz.prog f (gX s))(hl:GOK l):GOK ((f,s)::l):=List.forall_mem_cons.2 ⟨h,hl⟩
def WH:List (Nat × GS):=[(170,s2 cP cP fun a b=>(true,iv (j3 a b))),(119,s2 cS cS fun s t=>(true,u8 (EL s t))),(198,s2 cS cS fun s t=>(true,u8 (jJ s t))),(194,s2 cP cP fun a b=>(true,iv (j3 a b))),
 (191,s1 cS fun s=>(true,.bool (eI s))),(199,s2 cP cS fun p s=>(true,.bool (OnS p s))),(189,s2 cS cS fun s t=>(uS s&&uS t,u8 (qL s t))),(226,s2 cP cS fun p s=>(wide p&&uS s,.bool (onS p s))),(179,s2I fun p q=>(true,iv (gY p q)))]
theorem aC3:GOK WH:=.cons aIz (.cons aF8 (.cons x22 (.cons aEb (.cons x64 (.cons x20 (.cons x68 (.cons x65 (.cons W3 .nil))))))))
theorem aHK:∀ f x,FD [] WH f=some x→dM Go.Proofs.Tryz.prog f x:=by
 intro f x h;unfold FD at h;simp only [aDM] at h;split at h
 ·rename_i s hs;injection h with h;subst h;exact aC3 (f,s) (bF hs)
 ·cases h
theorem S1:∀ f s,look WH f=some s→dM Go.Proofs.Tryz.prog f (gX s):=fun f s h=>aC3 (f,s) (bF h)
end Go.Aw
end
