/-
  Parts of the proof, put together. No condition.
-/
import Derived.Test.YtjahkcbdecgbhaaGreatQAp
import Derived.Test.YtjahkcbdecgbhaaGreatQAr
import Derived.Test.YtjahkcbdecgbhaaGreatQAt
set_option linter.unusedSimpArgs false
set_option linter.unusedVariables false
noncomputable section
namespace Go.Aw
def frMask:Nat:=505783322557768154083792168837640058031674159105163098739011891983126941195567096
def frB (f:Nat):Bool:=Nat.beq (Nat.land (Nat.shiftRight frMask f) 1) 1
def cfgP:Cfg:={ cfg0 with PR:=frB }
end Go.Aw
end

noncomputable section
namespace Go.Aw
def GOK (S:List (Nat × GS)):Prop:=∀ p∈S,XOK Go.Proofs.Tryz.prog p.1 (gX p.2)
theorem GOK.nil:GOK []:=fun _ h=>by cases h
theorem GOK.cons {f:Nat}{s:GS}{l:List (Nat × GS)}(h:XOK Go.Proofs.Tryz.prog f (gX s))(hl:GOK l):GOK ((f,s)::l):=List.forall_mem_cons.2 ⟨h,hl⟩
def gsQ:List (Nat × GS):=[(170,s2 cP cP fun a b=>(true,iv (ordS a b))),(119,s2 cS cS fun s t=>(true,u8 (meetF s t))),(198,s2 cS cS fun s t=>(true,u8 (MeetV s t))),(194,s2 cP cP fun a b=>(true,iv (ordS a b))),
 (191,s1 cS fun s=>(true,.bool (rightG s))),(199,s2 cP cS fun p s=>(true,.bool (OnS p s))),(189,s2 cS cS fun s t=>(wideS s&&wideS t,u8 (meetS s t))),(226,s2 cP cS fun p s=>(wide p&&wideS s,.bool (onS p s))),(179,s2I fun p q=>(true,iv (cmpI p q)))]
theorem gsQ_ok:GOK gsQ:=.cons x170 (.cons x119m (.cons x22 (.cons x106 (.cons x64 (.cons x20 (.cons x68 (.cons x65 (.cons x101 .nil))))))))
theorem gsQ_x:∀ f x,calX [] gsQ f=some x→XOK Go.Proofs.Tryz.prog f x:=by
 intro f x h
 unfold calX at h
 simp only [hasC] at h
 split at h
 ·rename_i s hs
  injection h with h
  subst h
  exact gsQ_ok (f,s) (look_mem hs)
 ·cases h
theorem gsQ_l:∀ f s,look gsQ f=some s→XOK Go.Proofs.Tryz.prog f (gX s):=fun f s h=>gsQ_ok (f,s) (look_mem h)
end Go.Aw
end
