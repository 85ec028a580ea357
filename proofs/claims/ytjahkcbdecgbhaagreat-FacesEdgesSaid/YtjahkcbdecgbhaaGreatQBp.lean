/-
  Parts of the proof, put together. No condition.
-/
import Derived.Test.YtjahkcbdecgbhaaGreatQAr
import Derived.Test.YtjahkcbdecgbhaaGreatQAu
import Derived.Test.YtjahkcbdecgbhaaGreatQAv
set_option linter.unusedSimpArgs false
set_option linter.unusedVariables false
noncomputable section
namespace Go.Aw
def aGK:Nat:=505783322557768154083792168837640058031674159105163098739011891983126941195567096
def frB (f:Nat):Bool:=Nat.beq (Nat.land (Nat.shiftRight aGK f) 1) 1
def aAX:ET:={ aJP with PR:=frB }
def GOK (S:List (Nat × GS)):Prop:=∀ p∈S,cJ Go.Proofs.Tryz.prog p.1 (gX p.2)
theorem GOK.nil:GOK []:=fun _ h=>by cases h
theorem GOK.cons {f:Nat}{s:GS}{l:List (Nat × GS)}(h:cJ Go.Proofs.Tryz.prog f (gX s))(hl:GOK l):GOK ((f,s)::l):=List.forall_mem_cons.2 ⟨h,hl⟩
def W2:List (Nat × GS):=[(170,s2 cP cP fun a b=>(true,iv (kJ a b))),(119,s2 cS cS fun s t=>(true,u8 (F6 s t))),(198,s2 cS cS fun s t=>(true,u8 (fI s t))),(194,s2 cP cP fun a b=>(true,iv (kJ a b))),
 (191,s1 cS fun s=>(true,.bool (dU s))),(199,s2 cP cS fun p s=>(true,.bool (OnS p s))),(189,s2 cS cS fun s t=>(gW s&&gW t,u8 (rT s t))),(226,s2 cP cS fun p s=>(wide p&&gW s,.bool (onS p s))),(179,s2I fun p q=>(true,iv (jA p q)))]
theorem aAx:GOK W2:=.cons aJ1 (.cons aEx (.cons x22 (.cons aCH (.cons x64 (.cons x20 (.cons x68 (.cons x65 (.cons VS .nil))))))))
theorem aJa:∀ f x,FZ [] W2 f=some x→cJ Go.Proofs.Tryz.prog f x:=by
 intro f x h;unfold FZ at h;simp only [aD9] at h;split at h
 ·rename_i s hs;injection h with h;subst h;exact aAx (f,s) (aZ hs)
 ·cases h
theorem S2:∀ f s,look W2 f=some s→cJ Go.Proofs.Tryz.prog f (gX s):=fun f s h=>aAx (f,s) (aZ h)
end Go.Aw
end
