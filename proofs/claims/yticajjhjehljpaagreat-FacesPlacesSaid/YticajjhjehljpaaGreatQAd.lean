/-
  Parts of a proof. No condition.
-/
import Derived.Test.YticajjhjehljpaaGreatQAc
import Derived.RangeFuncLeaves
set_option linter.unusedSimpArgs false
set_option linter.unusedVariables false
noncomputable section
namespace Go.Aw
open Go.RowKit
variable {A:Ar}{T:dD}{C:VC}{Y:VY}
theorem FY (hC:eT C)(hY:eT Y){env:List (Nat × Value)}{h:Heap}{nx:Nat}{op:Op}:fY (rL A T C Y env h nx op):=by
 have hlook:fY (fun K=>j6 A T env h op (fun v=>K v h nx)):=XX LB;show fY (fun K=>rL A T C Y env h nx op K);cases op
 case store t x y=>exact jY fun p=>jY fun v=>U2
 case alloc t=>exact VX
 case box t x=>exact jY fun v=>aDG
 case buildSlice t n ps =>
  simp only [rL];intro K hl;split at hl
  ·exact EK K hl
  exact hl.elim
 case slice t x lo hi mx =>
  simp only [rL];refine jY fun v=>?_;intro K hl;split at hl
  ·exact HK K hl
  exact hl.elim
 case makeSlice t l c =>
  simp only [rL];exact jY fun x=>jY fun y=>HD
 case makeMap t r =>
  cases r with
  |none=>exact c9
  |some r=>exact hlook
 case lookup t m k ok=>exact jY fun x=>jY fun y=>XX EG
 case mapUpdate t m k u=>exact jY fun x=>jY fun y=>jY fun v=>GV
 case call c =>
  obtain⟨cal,args,ats⟩:=c;cases cal with
  |invoke r m=>exact fZ
  |builtin b =>
   cases b
   case append =>
    simp only [rL];intro K hl;split at hl
    ·exact PU K hl
    exact hl.elim
   case clear =>
    simp only [rL];intro K hl;split at hl
    ·exact W1 K hl
    exact hl.elim
   all_goals exact hlook
  |value f =>
   simp only [rL];refine jY fun fv=>?_;intro K hl;split at hl
   ·split at hl
    ·split at hl
     ·exact hC _ _ _ _ K hl
     exact hl.elim
    ·split at hl
     ·exact hY _ _ _ _ K hl
     exact hl.elim
    exact hl.elim
   exact hl.elim
 all_goals exact hlook
theorem AP {ops:List Oper}{env:List (Nat × Value)}{g:Option (Nat × Bool)}:(∃ e,∀ Yk N,gM A ops env g Yk N=Yk e)∨(∃ e,∀ Yk N,gM A ops env g Yk N=N e)∨(∀ Yk N,gM A ops env g Yk N=False):=by
 unfold gM;cases g with
 |none=>exact .inl ⟨env,fun _ _=>rfl⟩
 |some gw =>
  obtain⟨j,want⟩:=gw;simp only;cases gD ops j with
  |none=>exact .inr (.inr fun _ _=>rfl)
  |some o =>
   simp only;cases o.dst with
   |none=>exact .inr (.inr fun _ _=>rfl)
   |some t =>
    simp only;cases look env t with
    |none=>exact .inr (.inr fun _ _=>rfl)
    |some v =>
     cases v with
     |tuple vs=>exact .inr (.inl ⟨env,fun _ _=>rfl⟩)
     |bool b =>
      simp only;cases A.eqB b want with
      |true=>exact .inl ⟨_,fun _ _=>rfl⟩
      |false=>exact .inr (.inl ⟨_,fun _ _=>rfl⟩)
     |_=>exact .inr (.inr fun _ _=>rfl)
theorem IA {tn:Nat}{env:List (Nat × Value)}{dst:Option Nat}{v:Value}:(∃ e,∀ K,fB tn env dst v K=K e)∨(∀ K,fB tn env dst v K=False):=by
 unfold fB;cases dst with
 |none=>exact .inl ⟨env,fun _=>rfl⟩
 |some d =>
  simp only;cases Nat.blt d tn with
  |true=>exact .inl ⟨_,fun _=>rfl⟩
  |false=>exact .inr fun _=>rfl
theorem oQ {e:List (Nat × Value)}{h:Heap}{nx:Nat}:mG (fun K=>K e h nx):=fun K hl=>⟨e,h,nx,hl,fun K' h=>h⟩
theorem yQ:mG (fun _=>False):=fun K hl=>hl.elim
theorem zE {ops:List Oper}{env:List (Nat × Value)}{g:Option (Nat × Bool)}{F G:List (Nat × Value)→KS→Prop}(hF:∀ e,mG (F e))(hG:∀ e,mG (G e)):mG (fun K=>gM A ops env g (fun e=>F e K) (fun e=>G e K)):=by
 rcases AP (A:=A) (ops:=ops) (env:=env) (g:=g) with ⟨e,h⟩|⟨e,h⟩|h
 ·simp only [h];exact hF e
 ·simp only [h];exact hG e
 simp only [h];exact yQ
theorem o6 {tn:Nat}{env:List (Nat × Value)}{dst:Option Nat}{v:Value}{F:List (Nat × Value)→KS→Prop}(hF:∀ e,mG (F e)):mG (fun K=>fB tn env dst v (fun e=>F e K)):=by
 rcases IA (tn:=tn) (env:=env) (dst:=dst) (v:=v) with ⟨e,h⟩|h
 ·simp only [h];exact hF e
 simp only [h];exact yQ
theorem CM {E:KE→Prop}{F:Value→Heap→Nat→KS→Prop}(hE:fY E)(hF:∀ v h nx,mG (F v h nx)):mG (fun K=>E (fun v h nx=>F v h nx K)):=by
 intro K hl;obtain⟨v,h,nx,h1,h2⟩:=hE _ hl;obtain⟨e,h',nx',h3,h4⟩:=hF v h nx K h1;exact⟨e,h',nx',h3,fun K' hk=>h2 _ (h4 K' hk)⟩
theorem VM {E:KS→Prop}{F:List (Nat × Value)→Heap→Nat→KS→Prop}(hE:mG E)(hF:∀ v h nx,mG (F v h nx)):mG (fun K=>E (fun v h nx=>F v h nx K)):=by
 intro K hl;obtain⟨v,h,nx,h1,h2⟩:=hE _ hl;obtain⟨e,h',nx',h3,h4⟩:=hF v h nx K h1;exact⟨e,h',nx',h3,fun K' hk=>h2 _ (h4 K' hk)⟩
theorem aAU {b:Bool}{E:KS→Prop}(h:mG E):mG (fun K=>dQ b (E K)):=by
 intro K hl;obtain⟨hb,hl⟩:=aE.1 hl;obtain⟨x,y,z,h1,h2⟩:=h K hl;exact⟨x,y,z,h1,fun K' hk=>aI hb (h2 K' hk)⟩
theorem GX (hC:eT C)(hY:eT Y){tn:Nat}{ops:List Oper}:∀ (l:List Oper) (env:List (Nat × Value)) (h:Heap) (nx:Nat),mG (z7 A T C Y tn ops l env h nx)
 |[],env,h,nx=>oQ
 |o::r,env,h,nx=>by
  show mG (fun K=>z7 A T C Y tn ops (o::r) env h nx K);simp only [LO]
  exact zE (F:=fun e K=>rL A T C Y e h nx o.op fun v h' nx'=>fB tn e o.dst v fun env'=>z7 A T C Y tn ops r env' h' nx' K) (G:=fun e K=>fB tn e o.dst undef fun env'=>z7 A T C Y tn ops r env' h nx K)
   (fun e=>CM (F:=fun v h' nx' K=>fB tn e o.dst v fun env'=>z7 A T C Y tn ops r env' h' nx' K) (FY hC hY) fun v h' nx'=>o6 (F:=fun env' K=>z7 A T C Y tn ops r env' h' nx' K) fun e'=>GX hC hY r e' h' nx')
   (fun e=>o6 (F:=fun env' K=>z7 A T C Y tn ops r env' h nx K) fun e'=>GX hC hY r e' h nx)
def sX {α:Type}(E:(α→Nat→Prop)→Prop):Prop:=∀ K,E K→∃ v n,K v n∧∀ K':α→Nat→Prop,K' v n→E K'
theorem YA {E:(Value→Prop)→Prop}{n:Nat}(hE:xM E):sX (fun K=>E (fun v=>K v n)):=by
 intro K hl;obtain⟨v,h1,h2⟩:=hE _ hl;exact⟨v,n,h1,fun K' hk=>h2 _ hk⟩
theorem FK {x:Option Value}{F:Value→(Value→Nat→Prop)→Prop}(hF:∀ v,sX (F v)):sX (fun K=>on x (fun v=>F v K)):=by
 cases x with
 |none=>exact fun K hl=>hl.elim
 |some v=>exact hF v
theorem UN (hC:eT C){hJ:Heap}{nx:Nat}{env:List (Nat × Value)}{op:Op}:sX (jL A T C hJ nx env op):=by
 have hlook:∀ hh op',sX (fun K=>j6 A T env hh op' (fun v=>K v nx)):=fun _ _=>YA LB;show sX (fun K=>jL A T C hJ nx env op K);cases op
 case load t x=>simp only [jL];exact hlook hJ _
 case lookup t m k ok=>exact FK fun x=>FK fun y=>YA EG
 case slice t x lo hi mx =>
  simp only [jL];refine FK fun v=>?_;intro K hl;split at hl
  ·obtain⟨v,h',nx',h1,h2⟩:=HK _ hl;exact⟨v,nx',h1,fun K' hk=>h2 _ hk⟩
  exact hl.elim
 case call c =>
  obtain⟨cal,args,ats⟩:=c;cases cal with
  |invoke r m=>exact fun K hl=>hl.elim
  |builtin b=>simp only [jL];exact hlook [] _
  |value f =>
   simp only [jL];refine FK fun fv=>?_;intro K hl;split at hl
   ·split at hl
    ·split at hl
     ·obtain⟨v,h',nx',h1,h2⟩:=hC _ _ _ _ _ hl;split at h1
      ·rename_i hb;exact⟨v,nx,h1,fun K' hk=>h2 _ (by rw [hb];exact hk)⟩
      exact h1.elim
     exact hl.elim
    exact hl.elim
   exact hl.elim
 all_goals (simp only [jL];exact hlook [] _)
theorem I6 {α β:Type}{E:(α→Prop)→Prop}{F:α→(β→Prop)→Prop}(hE:xM E)(hF:∀ v,xM (F v)):xM (fun K=>E (fun v=>F v K)):=by
 intro K hl;obtain⟨v,h1,h2⟩:=hE _ hl;obtain⟨e,h3,h4⟩:=hF v K h1;exact⟨e,h3,fun K' hk=>h2 _ (h4 K' hk)⟩
theorem zM {α:Type}:sX (fun _:α→Nat→Prop=>False):=fun _ hl=>hl.elim
theorem aBB {α:Type}{v:α}{n:Nat}:sX (fun K:α→Nat→Prop=>K v n):=fun _ hl=>⟨v,n,hl,fun _ h=>h⟩
theorem aAC {α β:Type}{E:(α→Nat→Prop)→Prop}{F:α→Nat→(β→Nat→Prop)→Prop}(hE:sX E)(hF:∀ v n,sX (F v n)):sX (fun K=>E (fun v n=>F v n K)):=by
 intro K hl;obtain⟨v,n,h1,h2⟩:=hE _ hl;obtain⟨e,m,h3,h4⟩:=hF v n K h1;exact⟨e,m,h3,fun K' hk=>h2 _ (h4 K' hk)⟩
theorem VO {α:Type}{ops:List Oper}{env:List (Nat × Value)}{g:Option (Nat × Bool)}{F G:List (Nat × Value)→(α→Nat→Prop)→Prop}(hF:∀ e,sX (F e))(hG:∀ e,sX (G e)):sX (fun K=>gM A ops env g (fun e=>F e K) (fun e=>G e K)):=by
 rcases AP (A:=A) (ops:=ops) (env:=env) (g:=g) with ⟨e,h⟩|⟨e,h⟩|h
 ·simp only [h];exact hF e
 ·simp only [h];exact hG e
 simp only [h];exact zM
theorem Q7 {α:Type}{tn:Nat}{env:List (Nat × Value)}{dst:Option Nat}{v:Value}{F:List (Nat × Value)→(α→Nat→Prop)→Prop}(hF:∀ e,sX (F e)):sX (fun K=>fB tn env dst v (fun e=>F e K)):=by
 rcases IA (tn:=tn) (env:=env) (dst:=dst) (v:=v) with ⟨e,h⟩|h
 ·simp only [h];exact hF e
 simp only [h];exact zM
theorem DF (hC:eT C){tn:Nat}{ops:List Oper}{hJ:Heap}:∀ (l:List Nat) (env:List (Nat × Value)) (nx:Nat),sX (qJ A T C tn ops hJ l env nx)
 |[],env,nx=>aBB
 |i::r,env,nx=>by
  show sX (fun K=>qJ A T C tn ops hJ (i::r) env nx K);simp only [yV];cases gD ops i with
  |none=>exact zM
  |some o =>
   exact VO (F:=fun e K=>jL A T C hJ nx e o.op fun v nx'=>fB tn e o.dst v fun env=>qJ A T C tn ops hJ r env nx' K) (G:=fun e K=>fB tn e o.dst undef fun env=>qJ A T C tn ops hJ r env nx K)
    (fun e=>aAC (F:=fun v n K=>fB tn e o.dst v fun env=>qJ A T C tn ops hJ r env n K) (UN hC) fun v n=>Q7 (F:=fun env K=>qJ A T C tn ops hJ r env n K) fun e'=>DF hC r e' n)
    (fun e=>Q7 (F:=fun env K=>qJ A T C tn ops hJ r env nx K) fun e'=>DF hC r e' nx)
theorem T3 {E:(List (Nat × Value)→Nat→Prop)→Prop}{F:List (Nat × Value)→Nat→KS→Prop}(hE:sX E)(hF:∀ e n,mG (F e n)):mG (fun K=>E (fun e n=>F e n K)):=by
 intro K hl;obtain⟨e0,n0,h1,h2⟩:=hE _ hl;obtain⟨e,h,nx,h3,h4⟩:=hF e0 n0 K h1;exact⟨e,h,nx,h3,fun K' hk=>h2 _ (h4 K' hk)⟩
theorem DQ {tn:Nat}{ops:List Oper}:∀ (l:List Nat) (env:List (Nat × Value)) (h:Heap) (nx:Nat),mG (mO T tn ops l env h nx)
 |[],env,h,nx=>oQ
 |i::r,env,h,nx=>by
  intro K hl;simp only [oI] at hl ⊢;split at hl
  ·split at hl
   ·exact o6 (F:=fun e K=>mO T tn ops r e _ _ K) (fun e=>DQ r e _ _) K hl
   exact hl.elim
  exact hl.elim
theorem CJ (hC:eT C)(hY:eT Y){tn:Nat}{ops:List Oper}{hJ:Heap}:∀ (l:List (Nat × Bool)) (env:List (Nat × Value)) (h:Heap) (nx:Nat),mG (lC A T C Y tn ops hJ l env h nx)
 |[],env,h,nx=>oQ
 |(i,chk)::r,env,h,nx=>by
  show mG (fun K=>lC A T C Y tn ops hJ ((i,chk)::r) env h nx K);simp only [zJ];cases gD ops i with
  |none=>exact yQ
  |some o =>
   exact zE (F:=fun e K=>dQ (zZ e hJ chk o.op) (rL A T C Y e h nx o.op fun v h' nx'=>fB tn e o.dst v fun env'=>lC A T C Y tn ops hJ r env' h' nx' K)) (G:=fun e K=>fB tn e o.dst undef fun env'=>lC A T C Y tn ops hJ r env' h nx K)
    (fun e=>aAU (CM (F:=fun v h' nx' K=>fB tn e o.dst v fun env'=>lC A T C Y tn ops hJ r env' h' nx' K) (FY hC hY) fun v h' nx'=>o6 (F:=fun env' K=>lC A T C Y tn ops hJ r env' h' nx' K) fun e'=>CJ hC hY r e' h' nx'))
    (fun e=>o6 (F:=fun env' K=>lC A T C Y tn ops hJ r env' h nx K) fun e'=>CJ hC hY r e' h nx)
theorem SU (hC:eT C)(hY:eT Y){tn:Nat}{ops:List Oper}{p:fS}{env:List (Nat × Value)}{h:Heap}{nx:Nat}:mG (qD A T C Y tn ops p env h nx):=by
 show mG (fun K=>qD A T C Y tn ops p env h nx K);unfold qD;exact T3 (F:=fun e n K=>mO T tn ops p.allocs e h n fun env2 h2 nx2=>lC A T C Y tn ops (KB T ops env p h) p.tail env2 h2 nx2 K) (DF hC p.head env nx) fun e n =>
  VM (F:=fun env2 h2 nx2 K=>lC A T C Y tn ops (KB T ops env p h) p.tail env2 h2 nx2 K) (DQ p.allocs e h n) fun e2 h2 nx2=>CJ hC hY p.tail e2 h2 nx2
end Go.Aw
end

noncomputable section
namespace Go.Aw
open Go.RowKit
def kV (ρ:Nat→Nat):Nat→Loc:=fun k=>.lay (ρ k) 0 0
def iM (ρ:Nat→Nat):Value→Value:=tr (kV ρ)
def bY (ρ:Nat→Nat):Value→Value:=cC (kV ρ)
def zR (n:Nat):Value→Prop:=fN (kV id) n
def E4 (n:Nat):Value→Prop:=jD (kV id) n
def bZ (ρ:Nat→Nat)(n:Nat):bV→bV→Prop
 |.cells wr0 g0 sz0 cs0,.cells wr g sz cs=>wr0=wr∧g0=g∧sz0=sz∧cs=cs0.map (bY ρ)∧∀ v∈cs0,E4 n v
 |.map es0,.map es=>es=es0.map (fun e=>(e.1,bY ρ e.2))∧∀ e∈es0,E4 n e.2
 |.zero,.zero=>True
 |_,_=>False
structure lQ (b:Nat) (ρ:Nat→Nat) (e0:List (Nat × Value)) (h0:Heap) (n0:Nat) (e:List (Nat × Value)) (h:Heap) (nx:Nat):Prop where
 env:∀ t v,look e0 t=some v→look e t=some (iM ρ v)∧zR n0 v
 heap:∀ k o,look h0 k=some o→k<n0∧∃ o',look h (ρ k)=some o'∧bZ ρ n0 o o'
 inj:∀ k k' o o',look h0 k=some o→look h0 k'=some o'→ρ k=ρ k'→k=k'
 fix:∀ k,k<b→ρ k=k
 le:b≤n0
section
variable {ι:Nat→Loc}{ρ:Nat→Nat}{n m:Nat}
theorem E9 (v:Value):eN ι (eN (kV ρ) v)=eN (fun k=>ι (ρ k)) v:=by
 cases v with
 |pointer a =>
  cases a with
  |none=>rfl
  |some a =>
   simp only [eN,kV,Nat.zero_add]
 |slice a n c =>
  cases a with
  |none=>rfl
  |some a =>
   simp only [eN,kV,Nat.zero_add,Nat.add_zero]
 |map a =>
  cases a with
  |none=>rfl
  |some a=>simp only [eN,kV]
 |_=>rfl
theorem aDj {f:Fn}(h:TX ι n (nO (kV ρ) f)):nO ι (nO (kV ρ) f)=nO (fun k=>ι (ρ k)) f:=by
 cases f with
 |yield l =>
  have h:=h.2;simp only [nO,kV];cases hl:ι (ρ l) with
  |nil p=>rw [hl] at h;cases h
  |lay b o e=>rfl
 |_=>rfl
theorem jZ {v:Value}(h:jD ι n (cC (kV ρ) v)):cC ι (cC (kV ρ) v)=cC (fun k=>ι (ρ k)) v:=by
 cases v with
 |func f a c =>
  have h1:=aDj (ι:=ι) (n:=n) (f:=f) h.1;simp only [cC,h1,Array.map_map];congr 2;funext x;exact E9 x
 |pointer a=>have:=E9 (ι:=ι) (ρ:=ρ) (.pointer a);cases a <;> exact this
 |slice a n c=>have:=E9 (ι:=ι) (ρ:=ρ) (.slice a n c);cases a <;> exact this
 |map a=>have:=E9 (ι:=ι) (ρ:=ρ) (.map a);cases a <;> exact this
 |_=>rfl
theorem wO {v:Value}(h:lZ ι n (eM (kV ρ) v)):eM ι (eM (kV ρ) v)=eM (fun k=>ι (ρ k)) v:=by
 cases v with
 |agg cs =>
  simp only [eM,Array.map_map];congr 1;apply Array.map_congr_left;intro x hx;exact jZ (n:=n) (h (cC (kV ρ) x) (by simp only [Array.toList_map,List.mem_map];exact⟨x,by simpa using hx,rfl⟩))
 |pointer a=>have:=jZ (ι:=ι) (ρ:=ρ) (n:=n) (v:=.pointer a);cases a <;> exact this h
 |slice a l c=>have:=jZ (ι:=ι) (ρ:=ρ) (n:=n) (v:=.slice a l c);cases a <;> exact this h
 |map a=>have:=jZ (ι:=ι) (ρ:=ρ) (n:=n) (v:=.map a);cases a <;> exact this h
 |func f a c=>exact jZ (ι:=ι) (ρ:=ρ) (n:=n) (v:=.func f a c) h
 |_=>rfl
theorem G7 {v:Value}(h:fN ι n (iM ρ v)):tr ι (iM ρ v)=tr (fun k=>ι (ρ k)) v:=by
 unfold iM at h ⊢;cases v with
 |tuple cs =>
  simp only [tr,Array.map_map];congr 1;apply Array.map_congr_left;intro x hx;exact wO (n:=n) (h (eM (kV ρ) x) (by simp only [Array.toList_map,List.mem_map];exact⟨x,by simpa using hx,rfl⟩))
 |pointer a=>have:=wO (ι:=ι) (ρ:=ρ) (n:=n) (v:=.pointer a);cases a <;> exact this h
 |slice a l c=>have:=wO (ι:=ι) (ρ:=ρ) (n:=n) (v:=.slice a l c);cases a <;> exact this h
 |map a=>have:=wO (ι:=ι) (ρ:=ρ) (n:=n) (v:=.map a);cases a <;> exact this h
 |func f a c=>exact wO (ι:=ι) (ρ:=ρ) (n:=n) (v:=.func f a c) h
 |agg c=>exact wO (ι:=ι) (ρ:=ρ) (n:=n) (v:=.agg c) h
 |_=>rfl
theorem FQ {v:Value}(h:pU ι n (eN (kV ρ) v))(hm:pU (kV id) m v):pU (fun k=>ι (ρ k)) m v:=by
 cases v with
 |pointer a =>
  cases a with
  |none=>trivial
  |some a=>exact⟨hm.1,h.2⟩
 |slice a l c =>
  cases a with
  |none=>trivial
  |some a=>exact⟨hm.1,fun hf=>h.2 hf⟩
 |map a =>
  cases a with
  |none=>trivial
  |some a=>exact⟨hm.1,h.2⟩
 |agg c=>exact hm.elim
 |tuple c=>exact hm.elim
 |_=>trivial
theorem qA {v:Value}(h:jD ι n (cC (kV ρ) v))(hm:jD (kV id) m v):jD (fun k=>ι (ρ k)) m v:=by
 cases v with
 |func f a c =>
  refine⟨?_,fun x hx=>?_⟩
  ·have h1:=h.1;have h2:=hm.1;cases f with
   |yield l=>exact⟨h2.1,h1.2⟩
   |_=>trivial
  refine FQ (n:=n) (h.2 _ ?_) (hm.2 x hx);simp only [Array.toList_map,List.mem_map];exact⟨x,hx,rfl⟩
 |pointer a=>have:=FQ (ι:=ι) (ρ:=ρ) (n:=n) (m:=m) (v:=.pointer a);cases a <;> exact this h hm
 |slice a l c=>have:=FQ (ι:=ι) (ρ:=ρ) (n:=n) (m:=m) (v:=.slice a l c);cases a <;> exact this h hm
 |map a=>have:=FQ (ι:=ι) (ρ:=ρ) (n:=n) (m:=m) (v:=.map a);cases a <;> exact this h hm
 |agg c=>exact hm.elim
 |tuple c=>exact hm.elim
 |_=>trivial
theorem xG {v:Value}(h:lZ ι n (eM (kV ρ) v))(hm:lZ (kV id) m v):lZ (fun k=>ι (ρ k)) m v:=by
 cases v with
 |agg cs =>
  intro x hx;refine qA (n:=n) (h _ ?_) (hm x hx);simp only [Array.toList_map,List.mem_map];exact⟨x,hx,rfl⟩
 |pointer a=>have:=qA (ι:=ι) (ρ:=ρ) (n:=n) (m:=m) (v:=.pointer a);cases a <;> exact this h hm
 |slice a l c=>have:=qA (ι:=ι) (ρ:=ρ) (n:=n) (m:=m) (v:=.slice a l c);cases a <;> exact this h hm
 |map a=>have:=qA (ι:=ι) (ρ:=ρ) (n:=n) (m:=m) (v:=.map a);cases a <;> exact this h hm
 |func f a c=>exact qA (ι:=ι) (ρ:=ρ) (n:=n) (m:=m) (v:=.func f a c) h hm
 |tuple c=>exact hm.elim
 |_=>trivial
theorem FR {v:Value}(h:fN ι n (iM ρ v))(hm:zR m v):fN (fun k=>ι (ρ k)) m v:=by
 unfold iM at h;unfold zR at hm;cases v with
 |tuple cs =>
  intro x hx;refine xG (n:=n) (h _ ?_) (hm x hx);simp only [Array.toList_map,List.mem_map];exact⟨x,hx,rfl⟩
 |pointer a=>have:=xG (ι:=ι) (ρ:=ρ) (n:=n) (m:=m) (v:=.pointer a);cases a <;> exact this h hm
 |slice a l c=>have:=xG (ι:=ι) (ρ:=ρ) (n:=n) (m:=m) (v:=.slice a l c);cases a <;> exact this h hm
 |map a=>have:=xG (ι:=ι) (ρ:=ρ) (n:=n) (m:=m) (v:=.map a);cases a <;> exact this h hm
 |func f a c=>exact xG (ι:=ι) (ρ:=ρ) (n:=n) (m:=m) (v:=.func f a c) h hm
 |agg c=>exact xG (ι:=ι) (ρ:=ρ) (n:=n) (m:=m) (v:=.agg c) h hm
 |_=>trivial
theorem aL5 {v:Value}(h:gS (cC (kV ρ) v)=true):gS v=true:=by
 cases v with
 |pointer a=>cases a with
  |none=>rfl
  |some a=>simp [cC,eN,kV,gS] at h
 |slice a n c=>cases a with
  |none=>rfl
  |some a=>simp [cC,eN,kV,gS] at h
 |map a=>cases a with
  |none=>rfl
  |some a=>simp [cC,eN,kV,gS] at h
 |func f a c =>
  cases f with
  |func f=>simpa [cC,nO,gS] using h
  |yield l=>simp [cC,nO,kV,gS] at h
  |_=>simp [cC,nO,gS] at h
 |_=>exact h
theorem QH {l:List Value}(h:dP (l.map (bY ρ))=true):dP l=true :=
 wW fun v hv=>aL5 (aW h (List.mem_map_of_mem hv))
theorem aFo {B:Nat}{w:World}{o0 o:bV}{l:Loc}(h:lT ι B w o l)(hs:Z6 ι n o)(hr:bZ ρ m o0 o):lT (fun k=>ι (ρ k)) B w o0 l:=by
 cases o0 with
 |cells wr0 g0 sz0 cs0 =>
  cases o with
  |cells wr g sz cs =>
   obtain⟨rfl,rfl,rfl,rfl,hn⟩:=hr;cases l with
   |nil p =>
    have h1:cs0.map (bY ρ)=[]∧(sz0=0∨wr0=true→p.isSome=true):=(by cases wr0 <;> exact h);have h2:cs0=[]:=(by simpa using h1.1);cases wr0 <;> exact⟨h2,h1.2⟩
   |lay b off e =>
    cases wr0 with
    |true =>
     obtain⟨h1,h2,arr,t,h3,h4,h5⟩:=h;refine⟨h1,fun hg=>QH (h2 hg),arr,t,h3,by simpa using h4,fun i v hv=>?_⟩;rw [← jZ (n:=n) (hs _ (List.mem_map_of_mem (List.mem_of_getElem? hv)))];exact h5 i _ (by rw [List.getElem?_map,hv];rfl)
    |false =>
     obtain⟨h1,h2,h5⟩:=h;refine⟨h1,fun hg=>QH (h2 hg),fun i v hv=>?_⟩;rw [← jZ (n:=n) (hs _ (List.mem_map_of_mem (List.mem_of_getElem? hv)))];exact h5 i _ (by rw [List.getElem?_map,hv];rfl)
  |_=>exact hr.elim
 |map es0 =>
  cases o with
  |map es =>
   obtain⟨rfl,hn⟩:=hr;cases l with
   |nil p=>exact h.elim
   |lay b off e =>
    obtain⟨h1,ents,clock,h2,h3,h4⟩:=h;refine⟨h1,ents,clock,h2,h3.trans ?_,fun x hx=>h4 (x.1,bY ρ x.2) (List.mem_map_of_mem hx)⟩;rw [List.map_map];apply List.map_congr_left;intro x hx;simp only [Function.comp_apply,bY];rw [jZ (n:=n) (hs (x.1,bY ρ x.2) (List.mem_map_of_mem hx))]
  |_=>exact hr.elim
 |zero =>
  cases o with
  |zero=>cases l <;> exact h
  |_=>exact hr.elim
 |_=>exact hr.elim
theorem aGI {o0 o:bV}(h:Z6 ι n o)(hr:bZ ρ m o0 o):Z6 (fun k=>ι (ρ k)) m o0:=by
 cases o0 with
 |cells wr0 g0 sz0 cs0 =>
  cases o with
  |cells wr g sz cs =>
   obtain⟨rfl,rfl,rfl,rfl,hn⟩:=hr;exact fun v hv=>qA (n:=n) (h _ (List.mem_map_of_mem hv)) (hn v hv)
  |_=>exact hr.elim
 |map es0 =>
  cases o with
  |map es =>
   obtain⟨rfl,hn⟩:=hr;exact fun x hx=>qA (n:=n) (h (x.1,bY ρ x.2) (List.mem_map_of_mem hx)) (hn x hx)
  |_=>exact hr.elim
 |zero=>trivial
 |_=>exact hr.elim
theorem bZ.alone {o0 o:bV}(hr:bZ ρ m o0 o)(h:o0.alone=true):o.alone=true:=by
 cases o0 <;> cases o <;> first|exact hr.elim|(obtain⟨rfl,_⟩:=hr;exact h)|exact h
variable {b:Nat}{e0 e:List (Nat × Value)}{h0 h:Heap}{n0 nx:Nat}
theorem lQ.aLY (r:lQ b ρ e0 h0 n0 e h nx){B:Nat}{w:World}(H:aU ι B h nx w):aU (fun k=>ι (ρ k)) B h0 n0 w:=by
 refine⟨fun k o hk=>?_,fun k k' o o' h1 h2 hne ha q hq=>?_,fun k o hk=>(r.heap k o hk).1,H.size,fun k o hk=>?_⟩
 ·obtain⟨_,o',h1,h2⟩:=r.heap k o hk;exact aFo (H.obj _ _ h1) (H.sc _ _ h1) h2
 ·obtain⟨_,p,k1,k2⟩:=r.heap k o h1;obtain⟨_,p',k3,k4⟩:=r.heap k' o' h2;exact H.sep _ _ p p' k1 k3 (fun e=>hne (r.inj k k' o o' h1 h2 e)) (k2.alone ha) q hq
 obtain⟨_,o',h1,h2⟩:=r.heap k o hk;exact aGI (H.sc _ _ h1) h2
theorem lQ.aNu (r:lQ b ρ e0 h0 n0 e h nx){a:Act}(H:dJ ι nx e a):dJ (fun k=>ι (ρ k)) n0 e0 a:=by
 intro t v hv;obtain⟨h1,h2⟩:=r.env t v hv;obtain⟨h3,h4⟩:=H t _ h1;exact⟨by rw [← G7 h4];exact h3,FR h4 h2⟩
end
def rM (A:Ar)(T:dD)(C:VC)(Y:VY)(tn:Nat)(ops:List Oper)(o:Oper)(e:List (Nat × Value))(h:Heap)(nx:Nat)(K:KS):Prop :=
 gM A ops e o.guard (fun e=>rL A T C Y e h nx o.op fun v h' nx'=>fB tn e o.dst v fun e'=>K e' h' nx') (fun e=>fB tn e o.dst undef fun e'=>K e' h nx)
def allM (l:List Nat):List Nat→Bool
 |[]=>true
 |j::r=>match qN j l with|true=>allM l r|false=>false
theorem QR {l m:List Nat}:allM l m=true↔∀ j∈m,j∈l:=by
 induction m with
 |nil=>simp [allM]
 |cons x r ih =>
  simp only [allM];split
  ·rename_i h;rw [ih];constructor
   ·intro h2 j hj;rcases List.mem_cons.1 hj with rfl|hj
    ·exact dU.1 h
    exact h2 j hj
   exact fun h2 j hj=>h2 j (.tail _ hj)
  rename_i h;constructor
  ·intro h2;cases h2
  intro h2;rw [dU.2 (h2 x (.head _))] at h;cases h
def fL (all:List Oper)(done:List Nat):List Oper→Nat→List Nat
 |[],_=>[]
 |o::r,i=>match qN i done with
  |true=>fL all done r (i+1)
  |false=>(match allM done (mS o) with|true=>i::fL all done r (i+1)|false=>fL all done r (i+1))
theorem VE {all:List Oper}{done:List Nat}:∀ {l:List Oper} {i k:Nat},k∈fL all done l i↔∃ j o,k=i+j∧gD l j=some o∧k∉done∧∀ x∈mS o,x∈done:=by
 intro l
 induction l with
 |nil =>
  intro i k;constructor
  ·intro h;cases h
  rintro ⟨j,o,_,h,_⟩;rw [eR] at h;simp at h
 |cons p r ih =>
  intro i k;have shift:(∃ j o,k=i+1+j∧gD r j=some o∧k∉done∧∀ x∈mS o,x∈done)→∃ j o,k=i+j∧gD (p::r) j=some o∧k∉done∧∀ x∈mS o,x∈done:=by
   rintro ⟨j,o,h1,h2,h3⟩;refine⟨j+1,o,by omega,?_,h3⟩;rw [eR] at h2 ⊢;simpa using h2
  have back:(∃ j o,k=i+j∧gD (p::r) j=some o∧k∉done∧∀ x∈mS o,x∈done)→(k=i∧i∉done∧∀ x∈mS p,x∈done)∨∃ j o,k=i+1+j∧gD r j=some o∧k∉done∧∀ x∈mS o,x∈done:=by
   rintro ⟨j,o,h1,h2,h3⟩;cases j with
   |zero =>
    rw [eR] at h2;simp at h2;subst h2;exact .inl ⟨by omega,by rw [show i=k by omega];exact h3.1,h3.2⟩
   |succ j =>
    refine .inr ⟨j,o,by omega,?_,h3⟩;rw [eR] at h2 ⊢;simpa using h2
  simp only [fL];split
  ·rename_i hm;rw [ih];refine⟨shift,fun h=>?_⟩;rcases back h with ⟨_,hn,_⟩|h
   ·exact absurd (dU.1 hm) hn
   exact h
  rename_i hm;have hn:i∉done:=fun h=>(by rw [dU.2 h] at hm;cases hm);split
  ·rename_i ha;rw [List.mem_cons,ih];constructor
   ·rintro (rfl|h)
    ·exact⟨0,p,rfl,by rw [eR];rfl,hn,QR.1 ha⟩
    exact shift h
   intro h;rcases back h with ⟨h,_⟩|h
   ·exact .inl h
   exact .inr h
  rename_i ha;rw [ih];refine⟨shift,fun h=>?_⟩;rcases back h with ⟨_,_,h⟩|h
  ·rw [QR.2 h] at ha;cases ha
  exact h
def NS (F:Nat→Prop):List Nat→Prop
 |[]=>True
 |[i]=>F i
 |i::r=>F i∧NS F r
theorem A2 {F:Nat→Prop}:∀ {l:List Nat},NS F l↔∀ i∈l,F i
 |[]=>by simp [NS]
 |[i]=>by simp [NS]
 |i::j::r=>by
  rw [show NS F (i::j::r)=(F i∧NS F (j::r)) from rfl,A2];simp
def I7 (A:Ar)(T:dD)(C:VC)(Y:VY)(tn:Nat)(ops:List Oper)(K:KS):Nat→List Nat→KS
 |0,_=>K
 |n+1,done=>fun e h nx=>match fL ops done ops 0 with
  |[]=>K e h nx
  |i::r=>NS (fun j=>match gD ops j with|some o=>rM A T C Y tn ops o e h nx (I7 A T C Y tn ops K n (j::done))|none=>False) (i::r)
section
variable {P:Program}{T:dD}{C:VC}{Y:VY}{ops:Array Oper}
variable {B:Nat}{w0:World}{ιb:Nat→Loc}{nxb tn:Nat}{ds:List Deferred}{K:KS}
theorem aCP (hT:c7 P T)(hC:bF P C)(hY:fE P Y)(r:Option Nat){Q:Exit→Act→World→Prop}{i:Nat}{o:Oper}(ho:gD ops.toList i=some o){ι:Nat→Loc}{e:List (Nat × Value)}{h:Heap}{nx:Nat}{a:Act}{w:World}
  (hl:rM aC T C Y tn ops.toList o e h nx K) (I:Inv B w0 ιb nxb tn ds ι e h nx a w) {next:Act→World→Prop}
  (hQ:∀ ι e h nx a w,K e h nx→Inv B w0 ιb nxb tn ds ι e h nx a w→next a w):wpOpIn (Fr r) 0 P ops Q i next a w:=by
 have hoo:ops[i]? = some o:=(by rw [eR] at ho;simpa using ho);unfold wpOpIn;simp only [hoo];unfold rM at hl;obtain⟨env1,he1,hcase⟩:=wR I.env hl;rcases hcase with ⟨hw,hl⟩|⟨hw,hl⟩
 ·rw [if_pos hw];refine (UD hT hC hY he1 I.heap hl).upon (DS hl) rfl r _ _ fun v h' nx' ι' w' k1 k2 k3 k4 k5 k6=>?_;obtain⟨env2,k7,k8,k9,k10⟩:=qB (he1.names k6 k5) I.size k1 k2;exact hQ ι' env2 h' nx' _ w' k7 (I.step k8 k3 k4 k5 k6 k9 k10)
 rw [hw];refine⟨fun _ _=>trivial,?_⟩;obtain⟨env2,k7,k8,k9,k10⟩:=qB he1 I.size hl (v:=undef) (cG rfl);rw [jH (show gT undef=true from rfl)] at k8 k9 k10;exact hQ ι env2 h nx _ w k7 (I.step k8 I.heap (iS.refl _ _) (fun _ _=>rfl) (Nat.le_refl _) k9 k10)
theorem yM {listed:Array Bool}(hs:listed.size=ops.size){done:List Nat}(hd:∀ i,yW listed i↔i∈done){i:Nat}:i∈Region.ready .any ops listed↔i∈fL ops.toList done ops.toList 0:=by
 rw [oT hs,VE];constructor
 ·rintro ⟨h1,h2,h3⟩;have ho:gD ops.toList i=some ops[i]:=(by rw [eR];simp [h1]);refine⟨i,ops[i],by omega,ho,fun h=>h2 ((hd i).2 h),fun x hx=>(hd x).1 (h3 x ?_)⟩;unfold cT;rw [ho];exact hx
 rintro ⟨j,o,h1,h2,h3,h4⟩;have hij:i=j:=(by omega);subst hij;have hlt:i<ops.size:=by
  rw [eR] at h2;have:=(List.getElem?_eq_some_iff.1 h2).1;simpa using this
 refine⟨hlt,fun h=>h3 ((hd i).1 h),fun x hx=>(hd x).2 (h4 x ?_)⟩;unfold cT at hx;rw [h2] at hx;exact hx
theorem aHj (hT:c7 P T)(hC:bF P C)(hY:fE P Y)(r:Option Nat){Q:Exit→Act→World→Prop}
  (hQ:∀ ι e h nx a w,K e h nx→Inv B w0 ιb nxb tn ds ι e h nx a w→Q .normal a w):∀ (n:Nat) (listed:Array Bool) (done:List Nat) (ι:Nat→Loc) (e:List (Nat × Value)) (h:Heap) (nx:Nat) (a:Act) (w:World),
  listed.size=ops.size→(∀ i,yW listed i↔i∈done)→left ops.size listed≤n→I7 aC T C Y tn ops.toList K n done e h nx→Inv B w0 ιb nxb tn ds ι e h nx a w→wpAnyIn (Fr r) 0 P .any ops Q n listed a w:=by
 intro n
 induction n with
 |zero =>
  intro listed done ι e h nx a w hs hd hl hv I;refine⟨?_,hQ ι e h nx a w hv I⟩;refine List.eq_nil_iff_forall_not_mem.2 fun i hi=>?_;obtain⟨h1,h2,_⟩:=(oT hs).1 hi;have:=AZ h1 hs h2;omega
 |succ n ih =>
  intro listed done ι e h nx a w hs hd hl hv I;simp only [I7] at hv;split at hv
  ·rename_i hr;have hno:∀ i,i∉Region.ready .any ops listed:=fun i hi=>by
    have:=(yM hs hd).1 hi;rw [hr] at this;cases this
   exact⟨fun _=>hQ ι e h nx a w hv I,fun i hi=>absurd hi (hno i)⟩
  rename_i i0 r0 hr;rw [A2] at hv;refine⟨fun hn=>?_,fun i hi=>?_⟩
  ·exfalso;have:i0∈Region.ready .any ops listed:=(yM hs hd).2 (by rw [hr];exact .head _);rw [hn] at this;cases this
  obtain⟨h1,h2,_⟩:=(oT hs).1 hi;have hv':=hv i (by rw [← hr];exact (yM hs hd).1 hi);split at hv'
  case h_2=>exact hv'.elim
  rename_i o ho;refine aCP hT hC hY r ho hv' I fun ι e h nx a w hk J=>?_;have hset:=yW.set (listed:=listed) (i:=i) (by omega);refine ih _ (i::done) ι e h nx a w (by simp [hs]) (fun j=>?_) (by have:=AZ h1 hs h2;omega) hk J;rw [hset];unfold IK;rw [hd j,List.mem_cons]
theorem RW (hT:c7 P T)(hC:bF P C)(hY:fE P Y)(hm:P.follows .mixedOrders=true){ι:Nat→Loc}{env:List (Nat × Value)}{h:Heap}{nx:Nat}{a:Act}{w:World}(I:Inv B w0 ιb nxb tn ds ι env h nx a w)
  (hl:I7 aC T C Y tn ops.toList K ops.size [] env h nx) (r:Option Nat) {id:Nat} {Q:Exit→Act→World→Prop} (hQ:∀ ι env h nx a w,K env h nx→Inv B w0 ιb nxb tn ds ι env h nx a w→Q .normal a w) :
  (Code.region id ops true).wpIn (Fr r) 0 P Q a w:=by
 refine wpIn_region_any hm ?_;have H:=I.heap.drawn (w.drawn+1);have hb:iS B w { w with drawn:=w.drawn+1 }:=⟨rfl,rfl,rfl,Nat.le_refl _,fun _ _=>rfl,Nat.le_succ _⟩;have hno:∀ i,¬ yW (Array.replicate ops.size false) i:=by
  intro i;unfold yW;by_cases h:i<ops.size <;> simp [h]
 refine aHj hT hC hY r hQ ops.size _ [] ι env h nx a _ (by simp) (fun i=>⟨fun h=>absurd h (hno i),fun h=>by cases h⟩) ?_ hl ⟨I.env,H,I.below.trans hb,I.old,I.le,I.size,I.defers⟩;unfold left;exact Nat.le_trans (List.length_filter_le _ _) (by simp)
end
def I4 (F:KS→KS)(n:Nat):KS:=@Nat.rec (fun _=>KS) (fun _ _ _=>False) (fun _ ih e h nx=>F ih e h nx) n
inductive LM where
 |fuel (n:Nat)
 |inv (b:Nat)
def LM.low:LM→Nat→Prop
 |.fuel _,_=>True
 |.inv b,n=>n≤b
def sT (b:Nat)(I:KS):KS:=fun e h nx=>∃ e0 h0 n0 ρ,I e0 h0 n0∧lQ b ρ e0 h0 n0 e h nx
def aDe (M:LM)(F:KS→KS):KS:=fun e h nx =>
 match M with
 |.fuel n=>I4 F n e h nx
 |.inv b=>∃ I:Nat→KS,(∃ n,sT b (I n) e h nx)∧∀ n e h nx,I n e h nx→F (fun e h nx=>∃ m,m<n∧sT b (I m) e h nx) e h nx
def CI (A:Ar)(T:dD)(C:VC)(Y:VY)(tn:Nat)(ops:List Oper)(K:KS):Nat→List Nat→KS
 |0,_=>K
 |n+1,done=>fun e h nx=>match fL ops done ops 0 with
  |[]=>K e h nx
  |j::_=>(match gD ops j with|some o=>rM A T C Y tn ops o e h nx (CI A T C Y tn ops K n (j::done))|none=>False)
theorem aBz {A:Ar}{T:dD}{C:VC}{Y:VY}(hC:eT C)(hY:eT Y){tn:Nat}{ops:List Oper}{o:Oper}{e:List (Nat × Value)}{h:Heap}{nx:Nat}:mG (rM A T C Y tn ops o e h nx):=by
 show mG (fun K=>rM A T C Y tn ops o e h nx K);unfold rM
 exact zE (F:=fun e K=>rL A T C Y e h nx o.op fun v h' nx'=>fB tn e o.dst v fun e'=>K e' h' nx') (G:=fun e K=>fB tn e o.dst undef fun e'=>K e' h nx)
  (fun e=>CM (F:=fun v h' nx' K=>fB tn e o.dst v fun e'=>K e' h' nx') (FY hC hY) fun v h' nx'=>o6 (F:=fun e' K=>K e' h' nx') fun e'=>oQ)
  (fun e=>o6 (F:=fun e' K=>K e' h nx) fun e'=>oQ)
theorem yP {A:Ar}{T:dD}{C:VC}{Y:VY}(hC:eT C)(hY:eT Y){tn:Nat}{ops:List Oper}:∀ n done e h nx,mG (fun K=>CI A T C Y tn ops K n done e h nx)
 |0,_,e,h,nx=>oQ
 |n+1,done,e,h,nx=>by
  intro K hl;simp only [CI] at hl ⊢;split at hl
  ·exact⟨e,h,nx,hl,fun K' q=>q⟩
  split at hl
  case h_2=>exact hl.elim
  rename_i o ho;obtain⟨e1,h1,n1,q1,q2⟩:=aBz hC hY _ hl;obtain⟨e2,h2,n2,q3,q4⟩:=yP hC hY n _ e1 h1 n1 K q1;exact⟨e2,h2,n2,q3,fun K' q=>q2 _ (q4 K' q)⟩
def SW (A:Ar)(T:dD)(C:VC)(Y:VY)(tn:Nat)(M:LM)(ops:Array Oper):List (Nat × Value)→Heap→Nat→KS→Prop:=fun e h nx K =>
 match M with
 |.fuel _=>CI A T C Y tn ops.toList (fun _ _ _=>∃ e0 h0 n0,I7 A T C Y tn ops.toList (sT nx fun e' h' n'=>e'=e0∧h'=h0∧n'=n0) ops.size [] e h nx∧K e0 h0 n0) ops.size [] e h nx
 |.inv b=>∃ I:KS,I7 A T C Y tn ops.toList (sT b I) ops.size [] e h nx∧∀ e h nx,I e h nx→K e h nx
abbrev VR:=Operand→Array Tmp→Code→Code→KS→(Nat→KS)→KS→KS
def jC (A:Ar)(T:dD)(C:VC)(Y:VY)(tn:Nat)(PL:Nat→Option fS)(M:LM)(R:VR)(c:Code):KS→(Nat→KS)→KS→KS :=
 @Code.rec (fun _=>KS→(Nat→KS)→KS→KS) (fun kn _ _=>kn)
  (fun id ops draw kn _ _ e h nx=>match draw with
   |false=>z7 A T C Y tn ops.toList ops.toList e h nx kn
   |true=>(match PL id with|some p=>qD A T C Y tn ops.toList p e h nx kn|none=>SW A T C Y tn M ops e h nx kn))
  (fun _ _ iha ihb kn kx kr=>iha (ihb kn kx kr) kx kr)
  (fun c _ _ iht ihf kn kx kr e h nx=>match dK e c with
   |some (.bool b)=>br b (fun _=>iht kn kx kr e h nx) (fun _=>ihf kn kx kr e h nx)
   |_=>False)
  (fun id _ ih kn kx kr=>ih kn (fun j=>match Nat.beq j id with|true=>kn|false=>kx j) kr)
  (fun _ ih _ kx kr=>aDe M (fun k=>ih k kx kr))
  (fun g ps as bd _ _ kn kx kr=>R g ps as bd kn kx kr)
  (fun id _ kx _=>kx id)
  (fun _ ih kn kx kr=>ih kn kx kr)
  (fun _ kn _ _=>kn)
  (fun _ _ _ _ _ _ _=>False)
  (fun _ _ kr=>kr)
  (fun _ _ _ _ _ _ _=>False) c
section
variable {A:Ar}{T:dD}{C:VC}{Y:VY}{tn:Nat}{PL:Nat→Option fS}{M:LM}{R:VR}{kn kr:KS}{kx:Nat→KS}{e:List (Nat × Value)}{h:Heap}{nx:Nat}
theorem iH {id:Nat}{ops:Array Oper}{draw:Bool}:jC A T C Y tn PL M R (.region id ops draw) kn kx kr e h nx=match draw with
 |false=>z7 A T C Y tn ops.toList ops.toList e h nx kn
 |true=>(match PL id with|some p=>qD A T C Y tn ops.toList p e h nx kn|none=>SW A T C Y tn M ops e h nx kn):=rfl
theorem kU {c:Operand}{t f:Code}:jC A T C Y tn PL M R (.cond c t f) kn kx kr e h nx=match dK e c with
 |some (.bool b)=>br b (fun _=>jC A T C Y tn PL M R t kn kx kr e h nx) (fun _=>jC A T C Y tn PL M R f kn kx kr e h nx)
 |_=>False:=rfl
theorem Q5 {id:Nat}{b:Code}:jC A T C Y tn PL M R (.block id b) kn kx kr e h nx=jC A T C Y tn PL M R b kn (fun j=>match Nat.beq j id with|true=>kn|false=>kx j) kr e h nx:=rfl
theorem tO {b:Code}:jC A T C Y tn PL M R (.loop b) kn kx kr e h nx=aDe M (fun k=>jC A T C Y tn PL M R b k kx kr) e h nx:=rfl
end
def dC (PL:Nat→Option fS):Code→Bool
 |.region id ops true=>(match PL id with|some p=>UW ops p|none=>true)
 |.seq a b=>dC PL a&&dC PL b
 |.cond _ a b=>dC PL a&&dC PL b
 |.block _ b=>dC PL b
 |.loop b=>dC PL b
 |.scope b=>dC PL b
 |_=>true
def CG (b:Nat):Deferred:={ target:=.collected b,args:=#[] }
def Marks (B0 B:Nat)(w:World)(ds:List Deferred):Prop:=∃ bs:List Nat,ds=bs.map CG∧bs.Nodup∧∀ b∈bs,B0≤b∧b<B∧w.heap[b]? = some (.deferred (some []))
def tA (B0:Nat)(w0:World)(ι0:Nat→Loc)(nx0 tn:Nat)(ι:Nat→Loc)(env:List (Nat × Value))(h:Heap)(nx:Nat)(a:Act)(w:World):Prop :=
 ∃ B w1 ι1 nx1 ds,B0≤B∧iS B0 w0 w1∧(∀ k,k<nx0→ι1 k=ι0 k)∧nx0≤nx1∧Marks B0 B w1 ds∧Inv B w1 ι1 nx1 tn ds ι env h nx a w
section
variable {P:Program}{T:dD}{C:VC}{Y:VY}{B0:Nat}{w0:World}{ι0:Nat→Loc}{nx0 tn:Nat}{PL:Nat→Option fS}{M:LM}{R:VR}
structure Ends (B0:Nat) (w0:World) (ι0:Nat→Loc) (nx0 tn:Nat) (kn:KS) (kx:Nat→KS) (kr:KS) (Q:Exit→Act→World→Prop):Prop where
 n:∀ ι e h nx a w,kn e h nx→tA B0 w0 ι0 nx0 tn ι e h nx a w→Q .normal a w
 x:∀ id ι e h nx a w,kx id e h nx→tA B0 w0 ι0 nx0 tn ι e h nx a w→Q (.exit id) a w
 r:∀ ι e h nx a w,kr e h nx→tA B0 w0 ι0 nx0 tn ι e h nx a w→Q .ret a w
def FJ (P:Program)(r:Option Nat)(tn:Nat)(R:VR):Prop:=∀ g ps as bd kn kx kr e h nx,R g ps as bd kn kx kr e h nx→∀ B0 w0 ι0 nx0 Q,Ends B0 w0 ι0 nx0 tn kn kx kr Q→∀ ι a w,tA B0 w0 ι0 nx0 tn ι e h nx a w →
 (Code.rangeFunc g ps as bd).wpIn (Fr r) 0 P Q a w
theorem lG {b:Frame}{a:Act}{k:List Item}{cs:List Frame}{w:World}{c:Code}:step P (lone (b.atR a (.code (.scope c)::k)) cs w)=.next (lone (b.atR a (.code c::.inScope c::k)) cs w) :=
 step_lone_go (by simp [stepG,stepG.exec,Frame.atR])
theorem KY {b:Frame}{a:Act}{k:List Item}{cs:List Frame}{w:World}{c:Code}:step P (lone (b.atR a (.inScope c::k)) cs w)=.next (lone (b.atR a k) cs w) :=
 step_lone_go (by simp [stepG,stepG.exec,Frame.atR])
theorem xV {F:Fence}{n:Nat}{c:Code}{Q:Exit→Act→World→Prop}{a:Act}{w:World}(h:c.wpIn F n P (fun e a w=>(∀ l,e≠.goto l)∧Q e a w) a w):(Code.scope c).wpIn F n P Q a w:=by
 intro b k cs hro hb hr;have h0:(lone (b.atR a (.code (.scope c)::k)) cs w).fenced P F:=fenced_calm hb hr rfl;obtain⟨e,a₁,w₁,⟨hg,hq⟩,harr⟩:=h b (.inScope c::k) cs hro hb hr;cases e with
 |normal=>exact⟨.normal,a₁,w₁,hq,.head h0 lG (StepsIn.trans harr (.one (fenced_calm hb hr rfl) KY))⟩
 |exit id =>
  have hx:exitTo id (.inScope c::k)=exitTo id k:=by simp [exitTo]
  exact⟨.exit id,a₁,w₁,hq,fun k' hk=>.head h0 lG (harr.1 k' (by rw [hx];exact hk)),
   fun hr' hk=>let ⟨k₁,h1,h2⟩:=harr.2 hr' (by rw [hx];exact hk);⟨k₁,h1,.head h0 lG h2⟩⟩
 |goto l=>exact absurd rfl (hg l)
 |ret=>exact⟨_,a₁,w₁,hq,.of_steps (.one h0 lG) harr⟩
 |panic ch=>exact⟨_,a₁,w₁,hq,.of_steps (.one h0 lG) harr⟩
 |outgrown=>exact⟨_,a₁,w₁,hq,.of_steps (.one h0 lG) harr⟩
theorem tA.aIn {ι:Nat→Loc}{e:List (Nat × Value)}{h:Heap}{nx:Nat}{a:Act}{w:World}{b:Nat}{I:KS}(J:tA B0 w0 ι0 nx0 tn ι e h nx a w)(hb:nx0≤b)(hi:sT b I e h nx):∃ ι' e' h' nx',I e' h' nx'∧tA B0 w0 ι0 nx0 tn ι' e' h' nx' a w:=by
 obtain⟨e',h',nx',ρ,hI,r⟩:=hi;obtain⟨B,w1,ι1,nx1,ds,h1,h2,h3,h4,h5,J⟩:=J;refine⟨fun k=>ι (ρ k),e',h',nx',hI,B,w1,ι0,nx0,ds,h1,h2,fun _ _=>rfl,Nat.le_refl _,h5,r.aNu J.env,r.aLY J.heap,J.below,fun k hk=>?_,Nat.le_trans hb r.le,J.size,J.defers⟩;rw [r.fix k (Nat.lt_of_lt_of_le hk hb)];exact (J.old k (Nat.lt_of_lt_of_le hk h4)).trans (h3 k hk)
theorem least {p:Nat→Prop}(h:∃ n,p n):∃ m,p m∧∀ k,p k→m≤k:=by
 obtain⟨n,hn⟩:=h
 induction n using Nat.strongRecOn with
 |_ n ih =>
  by_cases hk:∃ k,p k∧k<n
  ·obtain⟨k,h1,h2⟩:=hk;exact ih k h2 h1
  exact⟨n,hn,fun k h1=>Nat.le_of_not_lt fun h2=>hk ⟨k,h1,h2⟩⟩
theorem BJ {r:Option Nat}{c:Code}{Q:Exit→Act→World→Prop}{a:Act}{w:World}{I:Nat→Act→World→Prop}{n:Nat}(h₀:I n a w)
  (round:∀ n a w,I n a w→c.wpIn (Fr r) 0 P (Exit.then (fun a' w'=>∃ m,m<n∧I m a' w') Q) a w):(Code.loop c).wpIn (Fr r) 0 P Q a w:=by
 classical
 refine wpIn_loop (fun a w=>∃ n,I n a w) (fun a w=>if h:∃ n,I n a w then Classical.choose (least h) else 0) ⟨n,h₀⟩ fun a w h=>?_;have hs:=Classical.choose_spec (least h);refine Code.wpIn_mono (fun e a' w' hq=>?_) (round _ a w hs.1);cases e <;> try exact hq
 obtain⟨m,hm,hI⟩:=hq;refine⟨⟨m,hI⟩,?_⟩;have h':∃ n,I n a' w':=⟨m,hI⟩;simp only [dif_pos h',dif_pos h];exact Nat.lt_of_le_of_lt ((Classical.choose_spec (least h')).2 m hI) hm
end
section
variable {P:Program}{T:dD}{C:VC}{Y:VY}{tn:Nat}{PL:Nat→Option fS}{M:LM}{R:VR}
def aA7 (R:VR):Prop:=∀ g ps as bd (kn kn':KS) (kx kx':Nat→KS) (kr kr':KS) e h nx,(∀ e h nx,kn e h nx→kn' e h nx)→(∀ id e h nx,kx id e h nx→kx' id e h nx)→(∀ e h nx,kr e h nx→kr' e h nx)→R g ps as bd kn kx kr e h nx→R g ps as bd kn' kx' kr' e h nx
theorem HT (hT:c7 P T)(hC:bF P C)(hY:fE P Y)(hD:eT C)(hDY:eT Y)(hm:P.follows .mixedOrders=true)(r:Option Nat)(hR:FJ P r tn R)(hRm:aA7 R) :
  ∀ (c:Code),dC PL c=true→∀ (kn:KS) (kx:Nat→KS) (kr:KS) e h nx,jC aC T C Y tn PL M R c kn kx kr e h nx→∀ B0 w0 ι0 nx0 Q,M.low nx0→Ends B0 w0 ι0 nx0 tn kn kx kr Q→∀ ι a w,tA B0 w0 ι0 nx0 tn ι e h nx a w →
    c.wpIn (Fr r) 0 P Q a w:=by
 intro c
 induction c with
 |skip=>exact fun _ kn kx kr e h nx hl B0 w0 ι0 nx0 Q hM E ι a w I=>wpIn_skip (E.n ι e h nx a w hl I)
 |region id ops draw =>
  intro hp kn kx kr e h nx hl B0 w0 ι0 nx0 Q hM E ι a w I;obtain⟨B,w1,ι1,nx1,ds,h1,h2,h3,h4,h5,J⟩:=I;simp only [iH,kU,tO] at hl;cases draw with
  |false =>
   refine wpIn_region_list (OX hT hC hY r ops.toList ι e h nx a w hl J fun ι' e' h' nx' a' w' hk J'=>?_);exact E.n ι' e' h' nx' a' w' hk ⟨B,w1,ι1,nx1,ds,h1,h2,h3,h4,h5,J'⟩
  |true =>
   simp only [dC] at hp;simp only at hl;cases hpl:PL id with
   |none =>
    rw [hpl] at hl;simp only [SW] at hl;cases M with
    |fuel n =>
     obtain⟨ea,ha,na,⟨e0,h0,n0,hi,hK⟩,hr⟩:=yP hD hDY _ _ _ _ _ _ hl;refine RW hT hC hY hm J hi r fun ι' e' h' nx' a' w' hk J'=>?_;obtain⟨ι2,e2,h2',nx2,⟨rfl,rfl,rfl⟩,k2⟩:=tA.aIn ⟨B,w1,ι1,nx1,ds,h1,h2,h3,h4,h5,J'⟩ (Nat.le_trans h4 J.le) hk;exact E.n ι2 _ _ _ a' w' hK k2
    |inv b =>
     obtain⟨I,hi,hI⟩:=hl;refine RW hT hC hY hm J hi r fun ι' e' h' nx' a' w' hk J'=>?_;obtain⟨ι2,e2,h2',nx2,k1,k2⟩:=tA.aIn ⟨B,w1,ι1,nx1,ds,h1,h2,h3,h4,h5,J'⟩ hM hk;exact E.n ι2 e2 h2' nx2 a' w' (hI _ _ _ k1) k2
   |some p =>
    rw [hpl] at hl hp;exact T8 hT hC hY hD hm (SO hp) J hl r fun ι' e' h' nx' a' w' hk J'=>E.n ι' e' h' nx' a' w' hk ⟨B,w1,ι1,nx1,ds,h1,h2,h3,h4,h5,J'⟩
 |seq a b iha ihb =>
  intro hp kn kx kr e h nx hl B0 w0 ι0 nx0 Q hM E ι ac w I;simp only [dC,Bool.and_eq_true] at hp;refine wpIn_seq (iha hp.1 _ kx kr e h nx hl B0 w0 ι0 nx0 _ hM ⟨fun ι e h nx a w hk I=>?_,fun id ι e h nx a w hk I=>?_,fun ι e h nx a w hk I=>?_⟩ ι ac w I)
  ·exact ihb hp.2 kn kx kr e h nx hk B0 w0 ι0 nx0 Q hM E ι a w I
  ·exact E.x id ι e h nx a w hk I
  exact E.r ι e h nx a w hk I
 |cond c t f iht ihf =>
  intro hp kn kx kr e h nx hl B0 w0 ι0 nx0 Q hM E ι a w I;simp only [dC,Bool.and_eq_true] at hp;simp only [iH,kU,tO] at hl;split at hl
  case h_2=>exact hl.elim
  rename_i b hb;have hc:a.eval c=.bool b:=by
   obtain⟨B,w1,ι1,nx1,ds,h1,h2,h3,h4,h5,J⟩:=I;rw [(J.env.dK hb).1,sV]
  rcases oY hl with ⟨rfl,hl⟩|⟨rfl,hl⟩
  ·exact wpIn_cond_true hc (iht hp.1 kn kx kr e h nx hl B0 w0 ι0 nx0 Q hM E ι a w I)
  exact wpIn_cond_false hc (ihf hp.2 kn kx kr e h nx hl B0 w0 ι0 nx0 Q hM E ι a w I)
 |block id b ih =>
  intro hp kn kx kr e h nx hl B0 w0 ι0 nx0 Q hM E ι a w I;refine wpIn_block (ih hp _ _ kr e h nx hl B0 w0 ι0 nx0 (Exit.inBlock id Q) hM ⟨E.n,fun j ι e h nx a w hk I=>?_,E.r⟩ ι a w I);cases hb:Nat.beq j id with
  |true =>
   rw [hb] at hk;simp only [Exit.inBlock,if_pos (beq_true hb)];exact E.n ι e h nx a w hk I
  |false =>
   rw [hb] at hk;simp only [Exit.inBlock,if_neg (beq_false hb)];exact E.x j ι e h nx a w hk I
 |loop b ih =>
  intro hp kn kx kr e h nx hl B0 w0 ι0 nx0 Q hM E ι a w I;simp only [iH,kU,tO] at hl;cases M with
  |fuel n0 =>
   refine BJ (I:=fun n a w=>∃ ι e h nx,I4 (fun k=>jC aC T C Y tn PL (.fuel n0) R b k kx kr) n e h nx∧tA B0 w0 ι0 nx0 tn ι e h nx a w) (n:=n0) ⟨ι,e,h,nx,hl,I⟩ fun m a w hi=>?_;obtain⟨ι,e,h,nx,h1,I⟩:=hi;cases m with
   |zero=>exact h1.elim
   |succ m =>
    refine ih hp (I4 (fun k=>jC aC T C Y tn PL (.fuel n0) R b k kx kr) m) kx kr e h nx h1 B0 w0 ι0 nx0 (Exit.then (fun a' w'=>∃ m',m'<m+1∧∃ ι e h nx,I4 (fun k=>jC aC T C Y tn PL (.fuel n0) R b k kx kr) m' e h nx∧tA B0 w0 ι0 nx0 tn ι e h nx a' w') Q) hM ⟨fun ι e h nx a w hk I=>?_,fun id ι e h nx a w hk I=>E.x id ι e h nx a w hk I,fun ι e h nx a w hk I=>E.r ι e h nx a w hk I⟩ ι a w I;exact⟨m,Nat.lt_succ_self m,ι,e,h,nx,hk,I⟩
  |inv bs =>
   obtain⟨J,⟨n,h0⟩,hJ⟩:=hl;obtain⟨ι',e',h',nx',h0',I'⟩:=I.aIn hM h0;refine BJ (I:=fun n a w=>∃ ι e h nx,J n e h nx∧tA B0 w0 ι0 nx0 tn ι e h nx a w) (n:=n) ⟨ι',e',h',nx',h0',I'⟩ fun n a w hi=>?_;obtain⟨ι,e,h,nx,h1,I⟩:=hi;refine ih hp _ kx kr e h nx (hJ n e h nx h1) B0 w0 ι0 nx0 (Exit.then (fun a' w'=>∃ m,m<n∧∃ ι e h nx,J m e h nx∧tA B0 w0 ι0 nx0 tn ι e h nx a' w') Q) hM ⟨fun ι e h nx a w hk I=>?_,fun id ι e h nx a w hk I=>E.x id ι e h nx a w hk I,fun ι e h nx a w hk I=>E.r ι e h nx a w hk I⟩ ι a w I;obtain⟨m,hm,hk⟩:=hk;obtain⟨ι',e',h',nx',hk',I'⟩:=I.aIn hM hk;exact⟨m,hm,ι',e',h',nx',hk',I'⟩
 |rangeFunc g ps as bd _ _=>exact fun _ kn kx kr e h nx hl B0 w0 ι0 nx0 Q hM E ι a w I=>hR g ps as bd kn kx kr e h nx hl B0 w0 ι0 nx0 Q E ι a w I
 |exit id=>exact fun _ kn kx kr e h nx hl B0 w0 ι0 nx0 Q hM E ι a w I=>wpIn_exit (E.x id ι e h nx a w hl I)
 |ret=>exact fun _ kn kx kr e h nx hl B0 w0 ι0 nx0 Q hM E ι a w I=>wpIn_ret (E.r ι e h nx a w hl I)
 |label l=>exact fun _ kn kx kr e h nx hl B0 w0 ι0 nx0 Q hM E ι a w I=>wpIn_label (E.n ι e h nx a w hl I)
 |scope b ih =>
  intro hp kn kx kr e h nx hl B0 w0 ι0 nx0 Q hM E ι a w I;refine xV (ih hp kn kx kr e h nx hl B0 w0 ι0 nx0 _ hM ⟨fun ι e h nx a w hk I=>⟨fun l he=>(by cases he),E.n ι e h nx a w hk I⟩,fun id ι e h nx a w hk I=>⟨fun l he=>(by cases he),E.x id ι e h nx a w hk I⟩,fun ι e h nx a w hk I=>⟨fun l he=>(by cases he),E.r ι e h nx a w hk I⟩⟩ ι a w I)
 |goto l=>exact fun _ _ _ _ _ _ _ hl=>hl.elim
 |refuse s=>exact fun _ _ _ _ _ _ _ hl=>hl.elim
end
def gJ (T:dD)(e:List (Nat × Value))(h:Heap)(l:List ResultVar):(List Value→Prop)→Prop :=
 @List.rec ResultVar (fun _=>(List Value→Prop)→Prop) (fun K=>K [])
  (fun x _ ih K=>match x with
   |.tmp t=>on (look e t) fun v=>ih fun l=>K (v::l)
   |.cell a t=>on (look e a) fun p=>wF T h t p fun v=>ih fun l=>K (v::l)) l
theorem oE {T:dD}{e:List (Nat × Value)}{h:Heap}{t:Nat}{r:List ResultVar}{K:List Value→Prop}:gJ T e h (.tmp t::r) K=on (look e t) fun v=>gJ T e h r fun l=>K (v::l):=rfl
theorem mT {T:dD}{e:List (Nat × Value)}{h:Heap}{a:Nat}{t:TypeId}{r:List ResultVar}{K:List Value→Prop}:gJ T e h (.cell a t::r) K=on (look e a) fun p=>wF T h t p fun v=>gJ T e h r fun l=>K (v::l):=rfl
def MM:List Value→Bool
 |[]=>true
 |.tuple _::_=>false
 |_::r=>MM r
def EM (T:dD)(fn:Func)(K:KE):KS:=fun e h nx=>gJ T e h fn.results.toList fun l =>
 match l with
 |[v]=>K v h nx
 |l=>match MM l with|true=>K (.tuple l.toArray) h nx|false=>False
def DM (tmps:Array Value):ResultVar→Sem Value
 |.tmp t=>pure (tmps.getD t undef)
 |.cell b t=>do loadVar t (← asAddr (tmps.getD b undef))
theorem WZ (fn:Func)(tmps:Array Value):results fn tmps=(do let vs ← fn.results.mapM (DM tmps);pure (if h:vs.size=1 then vs[0] else .tuple vs)):=by
 unfold results;congr 1
section
variable {P:Program}{T:dD}
theorem v9 (hT:c7 P T){ι:Nat→Loc}{B nx:Nat}{e:List (Nat × Value)}{h:Heap}{a:Act}(he:dJ ι nx e a){w:World}(H:aU ι B h nx w):∀ (l:List ResultVar) (K:List Value→Prop),gJ T e h l K →
  ∃ vs,K vs∧vs.length=l.length∧(∀ v∈vs,fN ι nx v)∧∀ w',aU ι B h nx w'→(l.mapM (DM a.tmps)).run P w'=.ok (vs.map (tr ι)) w'
 |[],K,hl=>⟨[],hl,rfl,by simp,fun w' _=>by simp⟩
 |.tmp t::r,K,hl=>by
  simp only [oE,mT] at hl;obtain⟨v,hv,hl⟩:=dI hl;obtain⟨vs,h1,h2,h3,h4⟩:=v9 hT he H r _ hl;obtain⟨e1,e2⟩:=he t v hv;refine⟨v::vs,h1,by simp [h2],fun u hu=>?_,fun w' H'=>?_⟩
  ·rcases List.mem_cons.1 hu with rfl|hu
   ·exact e2
   exact h3 u hu
  have:=h4 w' H';have h6:(DM a.tmps (.tmp t)).run P w'=.ok (tr ι v) w':=(by simp [DM,e1]);simp only [List.mapM_cons,Sem.run_bind,Sem.run_pure,Result.andThen_ok,this,h6,List.map_cons]
 |.cell b t::r,K,hl=>by
  simp only [oE,mT] at hl;obtain⟨p,hp,hl⟩:=dI hl;obtain⟨v,hk,hv,hrun⟩:=TH (P:=P) hT hl H;obtain⟨vs,h1,h2,h3,h4⟩:=v9 hT he H r _ hk;obtain⟨e1,e2⟩:=he b p hp;refine⟨v::vs,h1,by simp [h2],fun u hu=>?_,fun w' H'=>?_⟩
  ·rcases List.mem_cons.1 hu with rfl|hu
   ·exact m6 hv
   exact h3 u hu
  have:=h4 w' H';have e3:a.tmps.getD b undef=tr ι p:=(by simp [e1]);have h5:=hrun w' H';have hptr:∃ ad,tr ι p=.pointer (some ad):=by
   unfold wF at hl;split at hl
   ·rename_i k o;simp only [fV];split at hl
    ·rename_i ti wr g sz cs ht hlk;have hsc:k<nx∧(ι k).iZ=true:=e2;cases hι:ι k with
     |nil q=>rw [hι] at hsc;cases hsc.2
     |lay b o e=>exact⟨_,rfl⟩
    exact hl.elim
   exact hl.elim
  obtain⟨ad,had⟩:=hptr;rw [had] at h5;simp only [Instr.loadAt,Instr.sureAddr,Sem.run_bind,Sem.run_pure,Result.andThen_ok] at h5;have h6:(DM a.tmps (.cell b t)).run P w'=.ok (tr ι v) w':=by
   simp only [DM,e3,had,asAddr,Sem.run_bind,Sem.run_pure,Result.andThen_ok,h5]
  simp only [List.mapM_cons,Sem.run_bind,Sem.run_pure,Result.andThen_ok,h6,this,List.map_cons]
theorem aI0 (hT:c7 P T){fn:Func}{K:KE}{ι:Nat→Loc}{B nx:Nat}{e:List (Nat × Value)}{h:Heap}{a:Act}(he:dJ ι nx e a){w:World}(H:aU ι B h nx w)(hl:EM T fn K e h nx) :
  ∃ v,K v h nx∧fN ι nx v∧∀ w',aU ι B h nx w'→(results fn a.tmps).run P w'=.ok (tr ι v) w':=by
 unfold EM at hl;obtain⟨vs,h1,h2,h3,h4⟩:=v9 hT he H _ _ hl;have hres:∀ w',aU ι B h nx w'→(results fn a.tmps).run P w'=.ok (if h:(vs.map (tr ι)).toArray.size=1 then (vs.map (tr ι)).toArray[0] else .tuple (vs.map (tr ι)).toArray) w':=by
  intro w' H';have:=h4 w' H';rw [WZ,Array.mapM_eq_mapM_toList];simp only [Sem.run_bind,Sem.run_map,this,Result.andThen_ok,Sem.run_pure]
 split at h1
 ·rename_i v;exact⟨v,h1,h3 v (by simp),fun w' H'=>by rw [hres w' H'];simp⟩
 rename_i hne;split at h1
 case h_2=>exact h1.elim
 rename_i hnt;have hA:∀ v∈vs,lZ ι nx v:=by
  clear h4 hres hne h2 hl h1
  induction vs with
  |nil=>simp
  |cons x r ih =>
   intro v hv;have hx:(∀ c,x≠.tuple c)∧MM r=true:=by
    cases x <;> first|exact⟨fun c e=>(by cases e),hnt⟩|(simp [MM] at hnt)
   rcases List.mem_cons.1 hv with rfl|hv
   ·exact JJ hx.1 (h3 v (by simp))
   exact ih (fun u hu=>h3 u (by simp [hu])) hx.2 v hv
 refine⟨_,h1,fun v hv=>hA v (by simpa using hv),fun w' H'=>?_⟩;rw [hres w' H'];have hlen:vs.length≠1:=by
  intro e;obtain⟨v,rfl⟩:=List.length_eq_one_iff.1 e;exact hne v rfl
 rw [dif_neg (by simpa using hlen)];simp only [tr];congr 2;apply Array.ext';simp only [List.map_toArray];apply List.map_congr_left;intro v hv;exact wX (hA v hv)
end
def iT (h:Heap)(nx:Nat):Heap:=eP (rem (rem h (nx+1)) nx)
def wD (C:VC)(f tn:Nat):VR:=fun g ps as bd kn kx kr e h nx =>
 on (dK e g) fun gv=>match gv with
  |.func (.func q) first cap=>(match first.toList,mE cap.toList with
   |[],true=>C q (.func (.yield (nx+1)) #[] #[]::cap.toList)
    (bT (bT h nx .deferred) (nx+1) (.loop { state:=.ready,pending:=none,fn:=f,env:=e,tn:=tn,params:=ps.toList,assign:=as,body:=bd,defers:=nx })) (nx+2) fun _ h' nx' =>
    (match look h' (nx+1),look h' nx with
    |some (.loop l),some .deferred=>(match l.state,l.pending with
     |.busy,_=>False
     |_,none=>kn e (iT h' nx) nx'
     |_,some (.exit id)=>kx id e (iT h' nx) nx'
     |_,some .ret=>kr e (iT h' nx) nx'
     |_,_=>False)
    |_,_=>False)
   |_,_=>False)
  |_=>False
def wV:VR:=fun _ _ _ _ _ _ _ _ _ _=>False
def uM (tn:Nat):List (Nat × Value)→List Nat→List Value→Option (List (Nat × Value))
 |e,[],[]=>some e
 |e,t::ts,v::vs=>match Nat.blt t tn with|true=>uM tn (put e t v) ts vs|false=>none
 |_,_,_=>none
def yY (q:Nat)(K:KE)(j:Option Code):KS:=fun _ h nx =>
 match look h q with
 |some (.loop l)=>K (.bool j.isNone) (y7 h q (.loop { l with state:=if j.isNone then .ready else .done,pending:=j })) nx
 |_=>False
def tK (A:Ar)(T:dD)(C:VC)(Y:VY)(PL:Nat→Nat→Option fS)(M:LM):VY:=fun q args h nx K =>
 match look h q with
 |some (.loop l)=>(match uM l.tn l.env l.params args,dC (PL l.fn) l.assign&&dC (PL l.fn) l.body with
  |some e0,true=>jC A T C Y l.tn (PL l.fn) M wV l.assign (fun e1 h1 nx1 =>
   match look h1 q with
   |some (.loop l1)=>(match l1.state with
    |.ready=>jC A T C Y l.tn (PL l.fn) M wV l.body (yY q K none) (fun id=>yY q K (some (.exit id))) (yY q K (some .ret)) e1 (y7 h1 q (.loop { l1 with state:=.busy })) nx1
    |_=>False)
   |_=>False) (fun _ _ _ _=>False) (fun _ _ _=>False) e0 h nx
  |_,_=>False)
 |_=>False
def sP:Nat→List Value→List (Nat × Value)
 |_,[]=>[]
 |i,v::r=>(i,v)::sP (i+1) r
def prune (n:Nat):Heap→Heap
 |[]=>[]
 |(k,o)::r=>match Nat.blt k n with|true=>(k,o)::prune n r|false=>prune n r
structure EP where
 A:Ar
 T:dD
 FT:Nat→Option Func
 PL:Nat→Nat→Option fS
 PR:Nat→Bool
 X:Nat→Option (List Value→Heap→Nat→KE→Prop)
 M:Nat
def tT (c:EP)(M:Option Nat)(C:VC)(Y:VY):VC:=fun f args h nx K =>
 match c.X f with
 |some x=>x args h nx K
 |none=>match c.FT f with
  |none=>False
  |some fn=>(match fn.body,Nat.ble args.length fn.ntmps with
   |some b,true =>
    let fin:KS:=EM c.T fn fun v h' nx'=>K v h' nx'
    jC c.A c.T C Y fn.ntmps (c.PL f) (match M with|some n=>.fuel n|none=>.inv nx) (wD C f fn.ntmps) b fin (fun _ _ _ _=>False) fin (sP 0 args) h nx
   |_,_=>False)
def app:Heap→Heap→Heap
 |[],l=>l
 |x::r,l=>x::app r l
theorem iQ (h l:Heap)(k:Nat):look (app h l) k=match look h k with|some o=>some o|none=>look l k:=by
 induction h with
 |nil=>rfl
 |cons x r ih =>
  obtain⟨j,o⟩:=x;simp only [app,aB];cases Nat.beq j k with
  |true=>rfl
  |false=>exact ih
def qM (n:Nat)(g:Heap):Heap→Heap
 |[]=>[]
 |(k,o)::r=>match Nat.ble n k,look g k with
  |true,some (.cells true _ _ _)=>(k,o)::qM n g r
  |true,some (.map _)=>(k,o)::qM n g r
  |_,_=>qM n g r
def frK (h:Heap)(nx:Nat)(K:KE):KE:=fun v h' nx'=>match gT v with
 |true=>K v h nx
 |false=>K v (app (qM nx h' h') h) nx'
def frC (PR:Nat→Bool)(C:VC):VC:=fun f args h nx K=>match PR f with
 |true=>C f args (eP h) nx (frK h nx K)
 |false=>C f args h nx K
def uZ (c:EP):Nat→Bool→VC
 |0,_=>fun _ _ _ _ _=>False
 |d+1,false=>frC c.PR (tT c (some c.M) (uZ c d false) (uZ c d true))
 |d+1,true=>tK c.A c.T (uZ c d false) (uZ c d true) c.PL (.fuel c.M)
section
variable {P:Program}{T:dD}
theorem aU.down {ι:Nat→Loc}{B B0 nx:Nat}{h:Heap}{w:World}(H:aU ι B h nx w)(hB:B0≤B):aU ι B0 h nx w:=by
 refine⟨fun k o hk=>?_,H.sep,H.low,Nat.le_trans hB H.size,H.sc⟩;have ho:=H.obj k o hk;cases hι:ι k with
 |nil p=>rw [hι] at ho;cases o <;> first|exact ho|exact ho.elim
 |lay b off e =>
  rw [hι] at ho;cases o with
  |cells wr g sz cs =>
   cases wr with
   |true=>exact⟨Nat.le_trans hB ho.1,ho.2⟩
   |false=>exact ho
  |map es=>exact⟨Nat.le_trans hB ho.1,ho.2⟩
  |loop l=>exact⟨Nat.le_trans hB ho.1,ho.2⟩
  |deferred=>exact⟨Nat.le_trans hB ho.1,ho.2⟩
  |zero=>exact ho
theorem aU.taken {ι:Nat→Loc}{B nx:Nat}{h:Heap}{w:World}(H:aU ι B h nx w){b:Nat}(hb:b<B){ds:Option (List Deferred)}(hd:w.heap[b]? = some (.deferred ds))(o:Obj) :
  aU ι B h nx { w with heap:=w.heap.setIfInBounds b o }:=by
 have hother:∀ c,c≠b→(w.heap.setIfInBounds b o)[c]? = w.heap[c]? := fun c hc=>(by rw [Array.getElem?_setIfInBounds_ne (fun e=>hc e.symm)]);refine⟨fun k q hk=>?_,H.sep,H.low,by simpa using H.size,H.sc⟩;have hq:=H.obj k q hk;by_cases hkb:(ι k).FB=some b
 ·-- only what is read,and that is empty
  cases hι:ι k with
  |nil p=>rw [hι] at hkb;cases hkb
  |lay c off e =>
   have hcb:c=b:=(by rw [hι] at hkb;simpa [Loc.FB] using hkb);subst hcb;rw [hι] at hq;cases q with
   |cells wr g sz cs =>
    cases wr with
    |true=>have:=hq.1;omega
    |false =>
     refine⟨by simpa using hq.1,hq.2.1,fun i v hv=>?_⟩;have:=hq.2.2 i v hv;simp [World.cell?,hd] at this
   |map es=>have:=hq.1;omega
   |loop l=>have:=hq.1;omega
   |deferred=>have:=hq.1;omega
   |zero=>exact hq.elim
 exact hq.CF (fun c hc=>hother c (fun e=>hkb (e▸hc))) (by simp)
theorem A9 {ι:Nat→Loc}{B B0 nx:Nat}{h:Heap}{fn:Func}{tmps:Array Value}{Rr:Ending→World→Prop}:∀ (bs:List Nat) (w:World),bs.Nodup→(∀ b∈bs,B0≤b∧b<B∧w.heap[b]? = some (.deferred (some [])))→aU ι B h nx w →
  (∀ w',aU ι B h nx w'→iS B0 w w'→∃ u,(results fn tmps).run P w'=.ok u w'∧Rr (.returned u) w')→LeavesInM Fence.wide 0 P fn tmps Rr (bs.map CG) .returning w
 |[],w,_,_,H,hR=>hR w H (iS.refl _ _)
 |b::bs,w,hn,hb,H,hR=>by
  rw [List.nodup_cons] at hn;obtain⟨h1,h2,h3⟩:=hb b (by simp);have hlt:=(Array.getElem?_eq_some_iff.1 h3).1;have hbel:iS B0 w { w with heap:=w.heap.setIfInBounds b (.deferred none) }:=⟨rfl,rfl,rfl,by simp,fun c hc=>by
   simp [Array.getElem?_setIfInBounds_ne (show b≠c by omega)],Nat.le_refl _⟩
  refine⟨by simp,.inl ⟨b,{ w with heap:=w.heap.setIfInBounds b (.deferred none) },rfl,?_,?_⟩⟩
  ·simp [Instr.takeDeferred,getObj,setObj,Sem.run,h3]
  refine A9 bs _ hn.2 (fun c hc=>?_) (H.taken h2 h3 _) (fun w' H' hb'=>hR w' H' (hbel.trans hb'));obtain⟨k1,k2,k3⟩:=hb c (by simp [hc]);have hne:b≠c:=fun e=>hn.1 (e▸hc);exact⟨k1,k2,by simp [Array.getElem?_setIfInBounds_ne hne,k3]⟩
end
section
variable {P:Program}{T:dD}{C:VC}{Y:VY}
theorem zT:∀ (l:List Value) (i t:Nat) (v:Value),look (sP i l) t=some v→i≤t∧l[t - i]? = some v
 |[],i,t,v,h=>by cases h
 |x::r,i,t,v,h=>by
  simp only [sP,aB] at h;split at h
  ·rename_i hb;have:=beq_true hb;subst this;injection h with h;subst h;exact⟨Nat.le_refl _,by simp⟩
  obtain⟨h1,h2⟩:=zT r (i+1) t v h;refine⟨by omega,?_⟩;rw [show t - i=(t - (i+1))+1 by omega];simpa using h2
theorem T7 {ι:Nat→Loc}{n:Nat}{args:List Value}(hs:∀ v∈args,fN ι n v){k:Nat}{ds:List Deferred}:dJ ι n (sP 0 args) { tmps:=(args.map (tr ι)).toArray++Array.replicate k undef,defers:=ds }:=by
 intro t v h;obtain⟨_,h2⟩:=zT args 0 t v h;rw [Nat.sub_zero] at h2;have hlt:=(List.getElem?_eq_some_iff.1 h2).1;refine⟨?_,hs v (List.mem_of_getElem? h2)⟩;rw [Array.getElem?_append_left (by simpa using hlt)];simp [h2]
theorem aGk (hT:c7 P T)(hC:bF P C)(hY:fE P Y)(hD:eT C)(hDY:eT Y)(hm:P.follows .mixedOrders=true){f:FuncId}{fn:Func}{b:Code}(hf:P.funcs[f]? = some fn)(hb:fn.body=some b){nx:Nat}{PL:Nat→Option fS}(hp:dC PL b=true)
  {M:LM} (hM:M.low nx) {R:VR} (hR:FJ P none fn.ntmps R) (hRm:aA7 R) {args:List Value} (ha:args.length≤fn.ntmps) {h:Heap} {K K':KE} (hK:∀ v h' nx',K' v h' nx'→∃ h'',K v h'' nx'∧∀ k o,look h'' k=some o→look h' k=some o)
  (hl:jC aC T C Y fn.ntmps PL M R b (EM T fn K') (fun _ _ _ _=>False) (EM T fn K') (sP 0 args) h nx) {ι:Nat→Loc} {B:Nat} {w:World} (H:aU ι B h nx w) (hs:∀ v∈args,fN ι nx v) :
  CallsIn Fence.wide 0 P f (args.map (tr ι)).toArray w (Ret B w ι nx K):=by
 refine callsIn_of_wp_marks hf hb trivial ?_ rfl;have hend:∀ ι' e h' nx' a w',EM T fn K' e h' nx'→tA B w ι nx fn.ntmps ι' e h' nx' a w'→LeavesInM Fence.wide 0 P fn a.tmps (Ret B w ι nx K) a.defers .returning w':=by
  intro ι' e h' nx' a w' hv I;obtain⟨B1,w1,ι1,nx1,ds,h1,h2,h3,h4,⟨bs,rfl,hnd,hbs⟩,J⟩:=I;rw [J.defers];obtain⟨v,k1,k2,k3⟩:=aI0 hT J.env J.heap hv;obtain⟨h'',k4,k5⟩:=hK v h' nx' k1;refine A9 (B:=B1) (B0:=B) bs w' hnd (fun x hx=>?_) J.heap (fun w2 H2 hb2=>⟨_,k3 w2 H2,v,h'',nx',ι',k4,k2,(H2.down h1).sub k5,?_,fun k hk=>(J.old k (Nat.lt_of_lt_of_le hk h4)).trans (h3 k hk),Nat.le_trans h4 J.le,rfl⟩)
  ·obtain⟨q1,q2,q3⟩:=hbs x hx;exact⟨q1,q2,by rw [J.below.block x q2];exact q3⟩
  exact (h2.trans (J.below.mono h1)).trans hb2
 refine HT hT hC hY hD hDY hm none hR hRm b hp _ _ _ _ h nx hl B w ι nx _ hM ⟨?_,?_,?_⟩ ι _ w ?_
 ·exact fun ι' e h' nx' a w' hv I=>hend ι' e h' nx' a w' hv I
 ·exact fun id ι' e h' nx' a w' hv I=>hv.elim
 ·exact fun ι' e h' nx' a w' hv I=>hend ι' e h' nx' a w' hv I
 refine⟨B,w,ι,nx,[],Nat.le_refl _,iS.refl _ _,fun _ _=>rfl,Nat.le_refl _,⟨[],rfl,by simp,by simp⟩,T7 hs,H,iS.refl _ _,fun _ _=>rfl,Nat.le_refl _,?_,rfl⟩;simp;omega
end
section
variable {P:Program}{T:dD}{C:VC}{Y:VY}
theorem pX {w:World}{l:Nat}{r:Loop}(h:w.heap[l]? = some (.loop r)):(Instr.getLoop l).run P w=.ok r w:=by
 simp [Instr.getLoop,getObj,Sem.run,h]
theorem uT {w:World}{l:Nat}{r:Loop}(h:w.heap[l]? = some (.loop r))(o:Obj):(setObj l o).run P w=.ok () { w with heap:=w.heap.setIfInBounds l o }:=by
 simp [setObj,Sem.run,h]
theorem aBe (hC:bF P C){f tn:Nat}:FJ P none tn (wD C f tn):=by
 intro g ps as bd kn kx kr e h nx hl B0 w0 ι0 nx0 Q E ι a w I;obtain⟨B,w1,ι1,nx1,ds,h1,h2,h3,h4,⟨bs,hds,hnd,hbs⟩,J⟩:=I;unfold wD at hl;obtain⟨gv,hgv,hl⟩:=dI hl;obtain⟨e1,e2⟩:=J.env.dK hgv;split at hl
 case h_2=>exact hl.elim
 rename_i q first cap;split at hl
 case h_2=>exact hl.elim
 rename_i hfirst hcap;obtain⟨first⟩:=first;simp only at hfirst;subst hfirst;refine wpIn_rangeFunc fun fnid _=>?_
 -- the records
 have H:=J.heap;have hA:=H.new (.deferred (some [])) .deferred ⟨H.size,(MapKept.heap_alloc w _).1⟩ trivial;generalize hι2:ins ι nx (.lay w.heap.size 0 0)=ι2 at hA;generalize hwA:w.alloc (.deferred (some []))=wA at hA;have hbA:iS w.heap.size w wA:=(by rw [← hwA];exact dS w _);have hi2:∀ k,k<nx→ι2 k=ι k:=fun k hk=>(by rw [← hι2];exact cW _ _ hk);have hmark:ι2 nx=.lay w.heap.size 0 0:=(by rw [← hι2];exact bI _ _ _);let rec_:Loop:={ state:=.ready,pending:=none,fn:=fnid,tmps:=a.tmps,params:=ps,assign:=as,body:=bd,defers:=w.heap.size };let la:ZO:={ state:=.ready,pending:=none,fn:=f,env:=e,tn:=tn,params:=ps.toList,assign:=as,body:=bd,defers:=nx };have hi3':∀ k,k<nx→ins ι2 (nx+1) (.lay wA.heap.size 0 0) k=ι k:=fun k hk=>(by rw [cW _ _ (by omega)];exact hi2 k hk);have hB:=hA.new (.loop rec_) (.loop la) (by
  refine⟨hA.size,rec_,(MapKept.heap_alloc wA _).1,rfl,rfl,trivial,J.size,fun t v hv=>?_,rfl,rfl,rfl,?_⟩
  ·obtain⟨k1,k2⟩:=J.env t v hv;rw [D8 hi3' k2];exact k1
  show (ins ι2 (nx+1) (.lay wA.heap.size 0 0) nx).FB=some w.heap.size;rw [cW _ _ (by omega),hmark];rfl) ⟨fun t v hv=>oW (by omega) hi3' (J.env t v hv).2,by show nx<nx+1+1;omega⟩
 generalize hι3:ins ι2 (nx+1) (.lay wA.heap.size 0 0)=ι3 at hB hi3';generalize hwB:wA.alloc (.loop rec_)=wB at hB;have hbB:iS wA.heap.size wA wB:=(by rw [← hwB];exact dS wA _);have hl3:ι3 (nx+1)=.lay wA.heap.size 0 0:=(by rw [← hι3];exact bI _ _ _);have hm3:ι3 nx=.lay w.heap.size 0 0:=(by rw [← hι3,cW _ _ (by omega)];exact hmark);have hwA1:w.heap.size<wA.heap.size:=by rw [← hwA];exact (Array.getElem?_eq_some_iff.1 (MapKept.heap_alloc w _).1).1
 -- the call
 obtain⟨⟨fn,hfn,hbody,hname⟩,hcalls⟩:=hC q _ _ _ _ hl ι3 B wB hB (by
  intro v hv;rcases List.mem_cons.1 hv with rfl|hv
  ·simp [fN,lZ,jD,TX,hl3,Loc.iZ]
  obtain⟨p,rfl⟩:=jQ hcap v hv;exact oW (by omega) hi3' (show fN ι nx (.pointer (some p)) from e2.2 _ hv))
 have hcapm:cap.map (eN ι)=(cap.toList.map (tr ι3)).toArray:=by
  apply Array.ext';simp only [Array.toList_map];apply List.map_congr_left;intro v hv;obtain⟨p,rfl⟩:=jQ hcap v hv;exact (D8 hi3' (show fN ι nx (.pointer (some p)) from e2.2 _ hv)).symm
 have hy:tr ι3 (.func (.yield (nx+1)) #[] #[])=.func (.yield wA.heap.size) #[] #[]:=(by simp [tr,eM,cC,nO,hl3]);obtain⟨bdy,hb'⟩:=Option.isSome_iff_exists.1 hbody;have hname' : fn.name ≠ "runtime.NumGoroutine" := (by simpa using hname);refine⟨wA.heap.size,[CG w.heap.size],wB,{ target:=.fn (.func q) (cap.map (eN ι)),args:=#[.func (.yield wA.heap.size) #[] #[]] },wB,q,((Value.func (.yield (nx+1)) #[] #[]::cap.toList).map (tr ι3)).toArray,wB,?_,?_,fun _ _=>trivial,?_,fun hdep=>absurd hdep (by simp [Fr,Fence.wide]),?_⟩
 ·have hr:(Fr none).round=none:=rfl;rw [hr];subst hwB;subst hwA;simp [Instr.enterLoop,CG,rec_]
 ·have he1:a.eval g=.func (.func q) #[] (cap.map (eN ι)):=e1;have hc:∀ v,a.eval (.const v)=v:=fun _=>rfl;simp [resolve,rangeCall,he1,hc,Deferred.ofValue]
 ·simp [invoke,callFunc,hfn,hname',hb',hcapm,hy]
 refine CallsIn.mono (F:=Fence.wide) hcalls fun en w3 hret=>?_;cases en with
 |panicked c=>exact hret.elim
 |outgrown=>exact hret.elim
 |returned u =>
  obtain⟨v,h',nx',ι',k1,k2,k3,k4,k5,k6,rfl⟩:=hret;split at k1
  case h_2=>exact k1.elim
  rename_i l' hl1 hl2;have hι'l:ι' (nx+1)=.lay wA.heap.size 0 0:=(k5 _ (by omega)).trans hl3;have hι'm:ι' nx=.lay w.heap.size 0 0:=(k5 _ (by omega)).trans hm3;have ho:=k3.obj _ _ hl1;rw [hι'l] at ho;obtain⟨o1,r',o2,o3,o4,_⟩:=ho;have hd:=k3.obj _ _ hl2;rw [hι'm] at hd;have hnb:l'.state≠.busy:=by
   intro hs;simp [hs] at k1
  have hend:(Instr.endLoop wA.heap.size).run P w3=.ok l'.pending { w3 with heap:=w3.heap.setIfInBounds wA.heap.size (.loop { r' with state:=.exhausted }) }:=by
   have hne:r'.state≠.busy:=(by rw [o3];exact hnb);have hbeq:(r'.state == .busy)=false:=(by simpa using hne);simp [Instr.endLoop,pX o2,uT o2,hbeq,o4];exact fun h=>absurd h hne
  -- pT it
  generalize hw4:({ w3 with heap:=w3.heap.setIfInBounds wA.heap.size (.loop { r' with state:=.exhausted }) }:World)=w4 at hend;have hoth:∀ c,c≠wA.heap.size→w4.heap[c]? = w3.heap[c]? := fun c hc=>(by rw [← hw4];simp [Array.getElem?_setIfInBounds_ne (fun e=>hc e.symm)]);have hsz4:w4.heap.size=w3.heap.size:=(by rw [← hw4];simp);have hb4:iS B w3 w4:=⟨by rw [← hw4],by rw [← hw4],by rw [← hw4],by omega,fun c hc=>hoth c (by omega),by rw [← hw4];exact Nat.le_refl _⟩;have hR:aU ι' B (rem (rem h' (nx+1)) nx) nx' w4:=by
   refine ((k3.rem (nx+1)).rem nx).CF (fun k o b hk hkb=>hoth b fun e=>?_) (by omega);rw [dW] at hk;split at hk
   ·cases hk
   rw [dW] at hk;split at hk
   ·cases hk
   rename_i hne;exact k3.sep (nx+1) k _ o hl1 hk (fun e=>hne e.symm) rfl wA.heap.size (by rw [hι'l];rfl) (by rw [hkb,e])
  have hBw:iS B w w4:=((hbA.mono H.size).trans (hbB.mono hA.size)).trans (k4.trans hb4);have hi':∀ k,k<nx→ι' k=ι k:=fun k hk=>(k5 k (by omega)).trans (hi3' k hk);have I':tA B0 w0 ι0 nx0 tn ι' e (iT h' nx) nx' { a with defers:=[CG w.heap.size]++a.defers } w4:=by
   refine⟨w4.heap.size,w4,ι',nx',CG w.heap.size::ds,?_,?_,fun k hk=>?_,?_,⟨w.heap.size::bs,by rw [hds];rfl,?_,fun b hb=>?_⟩,J.env.names (by omega) hi',hR.shut,iS.refl _ _,fun _ _=>rfl,Nat.le_refl _,J.size,by rw [← J.defers];rfl⟩
   ·exact Nat.le_trans h1 hR.size
   ·exact h2.trans ((J.below.mono h1).trans (hBw.mono h1))
   ·have q1:k<nx1:=Nat.lt_of_lt_of_le hk h4;exact (hi' k (Nat.lt_of_lt_of_le q1 J.le)).trans ((J.old k q1).trans (h3 k hk))
   ·have:=J.le;omega
   ·rw [List.nodup_cons];refine⟨fun hm=>?_,hnd⟩;have:=(hbs _ hm).2.1;have:=H.size;omega
   ·rcases List.mem_cons.1 hb with rfl|hb
    ·have:=H.size;have hsz:=hBw.size;have hk:=k4.size;have hk2:=hbB.size;refine⟨by omega,by omega,?_⟩;rw [hoth _ (by omega)];exact hd.2
    obtain⟨q1,q2,q3⟩:=hbs b hb;have:=hR.size;refine⟨q1,by omega,?_⟩;rw [hBw.block b q2,J.below.block b q2];exact q3
  refine⟨_,w4,hend,?_⟩;split at k1
  ·exact k1.elim
  ·rename_i hp _;rw [hp];exact E.n _ _ _ _ _ _ k1 I'
  ·rename_i hp _;rw [hp];exact wpIn_exit (E.x _ _ _ _ _ _ _ k1 I')
  ·rename_i hp _;rw [hp];exact wpIn_ret (E.r _ _ _ _ _ _ k1 I')
  exact k1.elim
end
section
variable {P:Program}{T:dD}{C:VC}{Y:VY}
theorem RH {ι:Nat→Loc}{B nx:Nat}{h:Heap}{w:World}(H:aU ι B h nx w){l:Nat}{la:ZO}(hl:look h l=some (.loop la)){b o e:Nat}(hι:ι l=.lay b o e) :
  ∃ r:Loop,w.heap[b]? = some (.loop r)∧r.state=la.state∧r.pending=la.pending∧B≤b∧∀ st pd,aU ι B (y7 h l (.loop { la with state:=st,pending:=pd })) nx { w with heap:=w.heap.setIfInBounds b (.loop { r with state:=st,pending:=pd }) } ∧
    iS B w { w with heap:=w.heap.setIfInBounds b (.loop { r with state:=st,pending:=pd }) }:=by
 have ho:=H.obj l _ hl;rw [hι] at ho;obtain⟨h0,r,h1,h2,h3,h4,h5,h6,h7,h8,h9,h10⟩:=ho;have hlt:=(Array.getElem?_eq_some_iff.1 h1).1;refine⟨r,h1,h2,h3,h0,fun st pd=>⟨?_,⟨rfl,rfl,rfl,by simp,fun c hc=>by simp [Array.getElem?_setIfInBounds_ne (show b≠c by omega)],Nat.le_refl _⟩⟩⟩;refine H.set hl rfl ?_ (show Z6 ι nx (.loop { la with state:=st,pending:=pd }) from ⟨(H.sc l _ hl).1,(H.sc l _ hl).2⟩) rfl (fun c hc=>?_) (by simp)
 ·rw [hι];exact⟨h0,{ r with state:=st,pending:=pd },by simp [Array.getElem?_setIfInBounds_self_of_lt hlt],rfl,rfl,trivial,h5,h6,h7,h8,h9,h10⟩
 have:b≠c:=fun e=>hc (by rw [hι,e];rfl);simp [Array.getElem?_setIfInBounds_ne this]
theorem MI {ι:Nat→Loc}{n tn:Nat}:∀ (ps:List Nat) (args:List Value) (e e0:List (Nat × Value)) (tm:Array Value) (ds:List Deferred),uM tn e ps args=some e0→dJ ι n e { tmps:=tm,defers:=ds }→tm.size=tn→(∀ v∈args,fN ι n v) →
  ps.length=args.length∧dJ ι n e0 { tmps:=(ps.zip (args.map (tr ι))).foldl (fun tmps q=>tmps.setIfInBounds q.1 q.2) tm,defers:=ds }∧((ps.zip (args.map (tr ι))).foldl (fun tmps q=>tmps.setIfInBounds q.1 q.2) tm).size=tn
 |[],[],e,e0,tm,ds,h,he,hs,_=>by simp [uM] at h;subst h;exact⟨rfl,he,hs⟩
 |[],_::_,_,_,_,_,h,_,_,_=>by simp [uM] at h
 |_::_,[],_,_,_,_,h,_,_,_=>by simp [uM] at h
 |t::ts,v::vs,e,e0,tm,ds,h,he,hs,ha=>by
  simp only [uM] at h;split at h
  ·rename_i ht;have ht:=rH ht;have:=he.y7 (d:=t) (v:=v) (by show t<tm.size;omega) (ha v (by simp));obtain⟨h1,h2,h3⟩:=MI ts vs (put e t v) e0 (tm.setIfInBounds t (tr ι v)) ds h this (by simp [hs]) (fun u hu=>ha u (by simp [hu]));exact⟨by simp [h1],h2,h3⟩
  ·cases h
theorem OZ {ι0 ι:Nat→Loc}{B0 nx0 nx tn:Nat}{w0:World}{e:List (Nat × Value)}{h:Heap}{a:Act}{w:World}(I:tA B0 w0 ι0 nx0 tn ι e h nx a w){q:Nat}{K:KE}{j:Option Code}{b o ex:Nat}(hq:q<nx0)(hι:ι0 q=.lay b o ex)(hl:yY q K j e h nx) :
  ∃ v w',(Instr.endRound b j).run P w=.ok v w'∧Ret B0 w0 ι0 nx0 K (.returned v) w':=by
 obtain⟨B,w1,ι1,nx1,ds,h1,h2,h3,h4,h5,J⟩:=I;unfold yY at hl;split at hl
 case h_2=>exact hl.elim
 rename_i la hk;have hold:∀ k,k<nx0→ι k=ι0 k:=fun k hk=>(J.old k (Nat.lt_of_lt_of_le hk h4)).trans (h3 k hk);obtain⟨r,k1,k2,k3,k4,k5⟩:=RH J.heap hk ((hold q hq).trans hι);obtain⟨k6,k7⟩:=k5 (if j.isNone then .ready else .done) j;refine⟨.bool j.isNone,_,?_,.bool j.isNone,_,nx,ι,hl,by simp [fN,lZ,jD,pU],k6.down h1,?_,hold,Nat.le_trans h4 J.le,rfl⟩
 ·simp only [Instr.endRound,Sem.run_bind,pX k1,Result.andThen_ok,uT k1,Sem.run_pure]
 exact h2.trans ((J.below.trans k7).mono h1)
theorem G9 {r:Option Nat}{tn:Nat}:FJ P r tn wV:=fun g ps as bd kn kx kr e h nx hl=>hl.elim
theorem AI:aA7 wV:=fun g ps as bd kn kn' kx kx' kr kr' e h nx _ _ _ hl=>hl.elim
theorem aBS (hT:c7 P T)(hC:bF P C)(hY:fE P Y)(hD:eT C)(hDY:eT Y)(hm:P.follows .mixedOrders=true){PL:Nat→Nat→Option fS}{M:Nat}:fE P (tK aC T C Y PL (.fuel M)):=by
 intro q args h nx K hl ι B w H hs b o ex hι;unfold tK at hl;split at hl
 case h_2=>exact hl.elim
 rename_i la hk;split at hl
 case h_2=>exact hl.elim
 rename_i e0 hz hpl;simp only [Bool.and_eq_true] at hpl;have hq:q<nx:=H.low q _ hk;have ho:=H.obj q _ hk;rw [hι] at ho;obtain⟨g0,r,g1,g2,g3,g4,g5,g6,g7,g8,g9,g10⟩:=ho;have henv:dJ ι nx la.env { tmps:=r.tmps,defers:=[] }:=fun t v hv=>⟨g6 t v hv,(H.sc q _ hk).1 t v hv⟩;obtain⟨z1,z2,z3⟩:=MI la.params args la.env e0 r.tmps [] hz henv g5 hs;have hsz:(args.map (tr ι)).toArray.size=r.params.size:=by
  rw [← Array.length_toList (xs:=r.params),g7];simp [z1]
 refine⟨r.fn,(la.params.zip (args.map (tr ι))).foldl (fun tmps q=>tmps.setIfInBounds q.1 q.2) r.tmps,r.assign,r.body,?_,?_⟩
 ·have hf:(r.params.zip (args.map (tr ι)).toArray).foldl (fun tmps x=>match x with|(t,a)=>tmps.setIfInBounds t a) r.tmps=(la.params.zip (args.map (tr ι))).foldl (fun tmps q=>tmps.setIfInBounds q.1 q.2) r.tmps:=by
   rw [← Array.foldl_toList,← g7];simp
  simp only [Instr.yield,Sem.run_bind,pX g1,Result.andThen_ok,hsz,ne_eq,not_true_eq_false,if_false,Sem.run_ite,Sem.run_pure];rw [← hf]
 refine roundIn_of_wpIn trivial ?_;rw [g8];have hbase:tA B w ι nx la.tn ι e0 h nx { tmps:=(la.params.zip (args.map (tr ι))).foldl (fun tmps q=>tmps.setIfInBounds q.1 q.2) r.tmps,defers:=[] } w :=
  ⟨B,w,ι,nx,[],Nat.le_refl _,iS.refl _ _,fun _ _=>rfl,Nat.le_refl _,⟨[],rfl,by simp,by simp⟩,z2,H,iS.refl _ _,fun _ _=>rfl,Nat.le_refl _,z3,rfl⟩
 refine HT hT hC hY hD hDY hm (some b) G9 AI la.assign hpl.1 _ _ _ e0 h nx hl B w ι nx _ trivial ⟨?_,fun id ι e h nx a w hk _=>hk.elim,fun ι e h nx a w hk _=>hk.elim⟩ ι _ w hbase;intro ι1 e1 h1 nx1 a1 w1 hk1 I1;obtain⟨B1,wb,ιb,nxb,ds,i1,i2,i3,i4,i5,J⟩:=I1;split at hk1
 case h_2=>exact hk1.elim
 rename_i l1 hl1;split at hk1
 case h_2=>exact hk1.elim
 rename_i hst;have hold:∀ k,k<nx→ι1 k=ι k:=fun k hk=>(J.old k (Nat.lt_of_lt_of_le hk i4)).trans (i3 k hk);obtain⟨r1,k1,k2,k3,k4,k5⟩:=RH J.heap hl1 ((hold q hq).trans hι);obtain⟨k6,k7⟩:=k5 .busy r1.pending;rw [show ({ l1 with state:=.busy,pending:=r1.pending }:ZO)={ l1 with state:=.busy } by rw [k3]] at k6;refine⟨{ w1 with heap:=w1.heap.setIfInBounds b (.loop { r1 with state:=.busy }) },?_,?_⟩
 ·have hr:r1.state=.ready:=k2.trans hst;simp [Instr.beginRound,pX k1,uT k1,hr]
 rw [g9];have I2:tA B w ι nx la.tn ι1 e1 (y7 h1 q (.loop { l1 with state:=.busy })) nx1 a1 { w1 with heap:=w1.heap.setIfInBounds b (.loop { r1 with state:=.busy }) } :=
  ⟨B1,wb,ιb,nxb,ds,i1,i2,i3,i4,i5,J.step J.env k6 k7 (fun _ _=>rfl) (Nat.le_refl _) J.size rfl⟩
 refine HT hT hC hY hD hDY hm (some b) G9 AI la.body hpl.2 _ _ _ e1 _ nx1 hk1 B w ι nx _ trivial ⟨?_,?_,?_⟩ ι1 a1 _ I2
 ·exact fun ι e h nx a w hk I=>OZ I hq hι hk
 ·exact fun id ι e h nx a w hk I=>OZ I hq hι hk
 exact fun ι e h nx a w hk I=>OZ I hq hι hk
end
theorem IF {E:KS→Prop}{F:List (Nat × Value)→Heap→Nat→KE→Prop}(hE:mG E)(hF:∀ v h nx,fY (F v h nx)):fY (fun K=>E (fun v h nx=>F v h nx K)):=by
 intro K hl;obtain⟨v,h,nx,h1,h2⟩:=hE _ hl;obtain⟨e,h',nx',h3,h4⟩:=hF v h nx K h1;exact⟨e,h',nx',h3,fun K' hk=>h2 _ (h4 K' hk)⟩
theorem T9 {E:KE→Prop}{F:Value→Heap→Nat→KE→Prop}(hE:fY E)(hF:∀ v h nx,fY (F v h nx)):fY (fun K=>E (fun v h nx=>F v h nx K)):=by
 intro K hl;obtain⟨v,h,nx,h1,h2⟩:=hE _ hl;obtain⟨e,h',nx',h3,h4⟩:=hF v h nx K h1;exact⟨e,h',nx',h3,fun K' hk=>h2 _ (h4 K' hk)⟩
theorem W6 {α:Type}{E:(α→Prop)→Prop}{F:α→KE→Prop}(hE:xM E)(hF:∀ v,fY (F v)):fY (fun K=>E (fun v=>F v K)):=by
 intro K hl;obtain⟨v,h1,h2⟩:=hE _ hl;obtain⟨e,h',nx',h3,h4⟩:=hF v K h1;exact⟨e,h',nx',h3,fun K' hk=>h2 _ (h4 K' hk)⟩
def BX (f:KE→KS):Prop:=∀ e h nx,fY (fun K=>f K e h nx)
variable {A:Ar}{T:dD}{C:VC}{Y:VY}
def aKf (R:VR):Prop:=∀ g ps as bd (kn:KE→KS) (kx:Nat→KE→KS) (kr:KE→KS),BX kn→(∀ i,BX (kx i))→BX kr→BX (fun K=>R g ps as bd (kn K) (fun i=>kx i K) (kr K))
theorem K1 {F:KE→KS→KS}(hF:∀ k:KE→KS,BX k→BX (fun K=>F K (k K))):∀ m,BX (fun K=>I4 (F K) m)
 |0=>fun _ _ _=>fZ
 |m+1=>hF (fun K=>I4 (F K) m) (K1 hF m)
theorem CK (hC:eT C)(hY:eT Y){tn:Nat}{PL:Nat→Option fS}{n:Nat}{R:VR}(hR:aKf R):∀ (c:Code) (kn:KE→KS) (kx:Nat→KE→KS) (kr:KE→KS),BX kn→(∀ i,BX (kx i))→BX kr →
  BX (fun K=>jC A T C Y tn PL (.fuel n) R c (kn K) (fun i=>kx i K) (kr K)):=by
 intro c
 induction c with
 |skip=>exact fun kn kx kr h1 _ _=>h1
 |region id ops draw =>
  intro kn kx kr h1 _ _ e h nx;simp only [iH,kU];cases draw with
  |false=>exact IF (F:=fun e h nx K=>kn K e h nx) (GX hC hY _ _ _ _) h1
  |true =>
   simp only;cases PL id with
   |none =>
    intro K hl;obtain⟨ea,ha,na,⟨e0,h0,n0,hi,hk⟩,hr⟩:=yP hC hY _ _ _ _ _ _ hl;obtain⟨v,h',nx',q1,q2⟩:=h1 e0 h0 n0 K hk;exact⟨v,h',nx',q1,fun K' hk'=>hr _ ⟨e0,h0,n0,hi,q2 K' hk'⟩⟩
   |some p=>exact IF (F:=fun e h nx K=>kn K e h nx) (SU hC hY) h1
 |seq a b iha ihb=>exact fun kn kx kr h1 h2 h3=>iha (fun K=>jC A T C Y tn PL (.fuel n) R b (kn K) (fun i=>kx i K) (kr K)) kx kr (ihb kn kx kr h1 h2 h3) h2 h3
 |cond c t f iht ihf =>
  intro kn kx kr h1 h2 h3 e h nx;simp only [iH,kU];intro K hl;split at hl
  ·rename_i b hb;exact B4 (iht kn kx kr h1 h2 h3 e h nx) (ihf kn kx kr h1 h2 h3 e h nx) K hl
  exact hl.elim
 |block id b ih =>
  intro kn kx kr h1 h2 h3;have:=ih kn (fun j=>match Nat.beq j id with|true=>kn|false=>kx j) kr h1 (fun j=>by
   cases hb:Nat.beq j id with
   |true=>simp only;exact h1
   |false=>simp only;exact h2 j) h3
  intro e h nx;have h5:=this e h nx;have heq:(fun K=>jC A T C Y tn PL (.fuel n) R (.block id b) (kn K) (fun i=>kx i K) (kr K) e h nx)=(fun K=>jC A T C Y tn PL (.fuel n) R b (kn K) (fun i=>(match Nat.beq i id with|true=>kn|false=>kx i) K) (kr K) e h nx):=by
   funext K;simp only [Q5];congr 1;funext j;cases Nat.beq j id <;> rfl
  show fY (fun K=>jC A T C Y tn PL (.fuel n) R (.block id b) (kn K) (fun i=>kx i K) (kr K) e h nx);rw [heq];exact h5
 |loop b ih =>
  intro kn kx kr h1 h2 h3 e h nx;simp only [tO,aDe];exact K1 (F:=fun K k=>jC A T C Y tn PL (.fuel n) R b k (fun i=>kx i K) (kr K)) (fun k hk=>ih k kx kr hk h2 h3) n e h nx
 |rangeFunc g ps as bd _ _=>exact fun kn kx kr h1 h2 h3=>hR g ps as bd kn kx kr h1 h2 h3
 |exit id=>exact fun kn kx kr _ h2 _=>h2 id
 |ret=>exact fun kn kx kr _ _ h3=>h3
 |label l=>exact fun kn kx kr h1 _ _=>h1
 |scope b ih=>exact fun kn kx kr h1 h2 h3=>ih kn kx kr h1 h2 h3
 |goto l=>exact fun _ _ _ _ _ _ _ _ _=>fZ
 |refuse s=>exact fun _ _ _ _ _ _ _ _ _=>fZ
theorem WD (hC:eT C){f tn:Nat}:aKf (wD C f tn):=by
 intro g ps as bd kn kx kr h1 h2 h3 e h nx;simp only [wD];refine jY fun gv=>?_;intro K hl;split at hl
 case h_2=>exact hl.elim
 split at hl
 case h_2=>exact hl.elim
 rename_i q first cap _ _ hfirst hcap
 refine T9 (E:=C q _ _ _) (F:=fun v h' nx' K=>(match look h' (nx+1),look h' nx with
  |some (.loop l),some .deferred=>(match l.state,l.pending with
   |.busy,_=>False
   |_,none=>kn K e (iT h' nx) nx'
   |_,some (.exit id)=>kx id K e (iT h' nx) nx'
   |_,some .ret=>kr K e (iT h' nx) nx'
   |_,_=>False)
  |_,_=>False)) (hC _ _ _ _) (fun v h' nx'=>?_) K hl
 intro K hl;split at hl
 case h_2=>exact hl.elim
 split at hl
 ·exact hl.elim
 ·exact h1 _ _ _ K hl
 ·exact h2 _ _ _ _ K hl
 ·exact h3 _ _ _ K hl
 exact hl.elim
theorem SG (hC:eT C){f tn:Nat}:aA7 (wD C f tn):=by
 intro g ps as bd kn kn' kx kx' kr kr' e h nx h1 h2 h3 hl;unfold wD at hl ⊢;obtain⟨gv,hgv,hl⟩:=dI hl;rw [hgv];simp only [on];split at hl
 case h_2=>exact hl.elim
 split at hl
 case h_2=>exact hl.elim
 obtain⟨v,h',nx',k1,k2⟩:=hC _ _ _ _ _ hl;refine k2 _ ?_;split at k1
 case h_2=>exact k1.elim
 split at k1
 ·exact k1.elim
 ·exact h1 _ _ _ k1
 ·exact h2 _ _ _ _ k1
 ·exact h3 _ _ _ k1
 exact k1.elim
end Go.Aw
end

noncomputable section
namespace Go.Aw
open Go.RowKit
section
variable {A:Ar}{T:dD}{C:VC}{Y:VY}
theorem sZ {e:List (Nat × Value)}{h:Heap}:∀ (l:List ResultVar),xM (gJ T e h l)
 |[]=>BG
 |.tmp t::r=>by
  show xM (fun K=>gJ T e h (.tmp t::r) K);simp only [oE,mT];exact kB (F:=fun v K=>gJ T e h r fun l=>K (v::l)) fun v=>I6 (F:=fun l K=>K (v::l)) (sZ r) fun l=>BG
 |.cell a t::r=>by
  show xM (fun K=>gJ T e h (.cell a t::r) K);simp only [oE,mT];exact kB (F:=fun p K=>wF T h t p fun v=>gJ T e h r fun l=>K (v::l)) fun p=>I6 (F:=fun v K=>gJ T e h r fun l=>K (v::l)) LZ fun v =>
   I6 (F:=fun l K=>K (v::l)) (sZ r) fun l=>BG
theorem aCo {fn:Func}{g:Value→Heap→Nat→Value × Heap × Nat}:BX (fun K=>EM T fn (fun v h nx=>K (g v h nx).1 (g v h nx).2.1 (g v h nx).2.2)):=by
 intro e h nx;unfold EM
 refine W6 (F:=fun l K=>match l with
  |[v]=>K (g v h nx).1 (g v h nx).2.1 (g v h nx).2.2
  |l=>match MM l with|true=>K (g (.tuple l.toArray) h nx).1 (g (.tuple l.toArray) h nx).2.1 (g (.tuple l.toArray) h nx).2.2|false=>False) (sZ _) fun l=>?_
 intro K hl;split at hl
 ·exact c9 K hl
 split at hl
 ·exact c9 K hl
 exact hl.elim
theorem GW {q:Nat}{j:Option Code}:BX (fun K=>yY q K j):=by
 intro e h nx;simp only [yY];cases look h q with
 |none=>exact fZ
 |some o=>cases o <;> first|exact c9|exact fZ
theorem DV:aKf wV:=fun _ _ _ _ _ _ _ _ _ _ _ _ _=>fZ
theorem UP (hC:eT C)(hY:eT Y){PL:Nat→Nat→Option fS}{n:Nat}:eT (tK A T C Y PL (.fuel n)):=by
 intro q args h nx;show fY (fun K=>tK A T C Y PL (.fuel n) q args h nx K);unfold tK;intro K hl;split at hl
 case h_2=>exact hl.elim
 rename_i la hk;split at hl
 case h_2=>exact hl.elim
 rename_i e0 hz hpl;refine CK hC hY DV la.assign (fun K e1 h1 nx1 =>
  match look h1 q with
  |some (.loop l1)=>(match l1.state with
   |.ready=>jC A T C Y la.tn (PL la.fn) (.fuel n) wV la.body (yY q K none) (fun id=>yY q K (some (.exit id))) (yY q K (some .ret)) e1 (y7 h1 q (.loop { l1 with state:=.busy })) nx1
   |_=>False)
  |_=>False) (fun _ _ _ _ _=>False) (fun _ _ _ _=>False) ?_ (fun _ _ _ _=>fZ) (fun _ _ _=>fZ) e0 h nx K hl
 intro e1 h1 nx1 K hl;dsimp only at hl ⊢;split at hl
 case h_2=>exact hl.elim
 split at hl
 case h_2=>exact hl.elim
 exact CK hC hY DV la.body (fun K=>yY q K none) (fun id K=>yY q K (some (.exit id))) (fun K=>yY q K (some .ret)) GW (fun _=>GW) GW e1 _ nx1 K hl
theorem aAz {c:EP}{n:Nat}(hC:eT C)(hY:eT Y)(hX:∀ f x,c.X f=some x→∀ args h nx,fY (x args h nx)):eT (tT c (some n) C Y):=by
 intro f args h nx;show fY (fun K=>tT c (some n) C Y f args h nx K);unfold tT;intro K hl;split at hl
 ·rename_i x hx;exact hX f x hx args h nx K hl
 split at hl
 ·exact hl.elim
 rename_i fn hfn;split at hl
 case h_2=>exact hl.elim
 rename_i b hb hle;have hv:BX (fun K=>EM c.T fn (fun v h' nx'=>K v h' nx')) :=
  aCo (g:=fun v h' nx'=>(v,h',nx'))
 exact CK hC hY (WD hC) b (fun K=>EM c.T fn (fun v h' nx'=>K v h' nx')) (fun _ _ _ _ _=>False) (fun K=>EM c.T fn (fun v h' nx'=>K v h' nx')) hv (fun _ _ _ _=>fZ) hv _ h nx K hl
end
def cO (P:Program)(f:Nat)(x:List Value→Heap→Nat→KE→Prop):Prop:=(∀ args h nx K,x args h nx K→∀ ι B w,aU ι B h nx w→(∀ v∈args,fN ι nx v) →
 (∃ fn, P.funcs[f]? = some fn ∧ fn.body.isSome = true ∧ (fn.name == "runtime.NumGoroutine") = false) ∧ CallsIn Fence.wide 0 P f (args.map (tr ι)).toArray w (Ret B w ι nx K)) ∧ ∀ args h nx, fY (x args h nx)
structure qH (P:Program) (c:EP):Prop where
 ar:c.A=aC
 tab:c7 P c.T
 mixed:P.follows .mixedOrders=true
 funcs : ∀ f fn, c.FT f = some fn → P.funcs[f]? = some fn ∧ (fn.name == "runtime.NumGoroutine") = false ∧ ∀ b, fn.body = some b → dC (c.PL f) b = true
 xs:∀ f x,c.X f=some x→cO P f x
section
variable {P:Program}{c:EP}{C:VC}{Y:VY}
theorem vI (hc:qH P c)(hC:bF P C)(hY:fE P Y)(hD:eT C)(hDY:eT Y)(M:Option Nat):bF P (tT c M C Y):=by
 intro f args h nx K hl ι B w H hs;unfold tT at hl;split at hl
 ·rename_i x hx;exact (hc.xs f x hx).1 args h nx K hl ι B w H hs
 split at hl
 ·exact hl.elim
 rename_i fn hfn;split at hl
 case h_2=>exact hl.elim
 rename_i b hb hle;obtain⟨h1,h2,h3⟩:=hc.funcs f fn hfn;refine⟨⟨fn,h1,by rw [hb];rfl,h2⟩,?_⟩;rw [hc.ar] at hl;refine aGk (K':=K) hc.tab hC hY hD hDY hc.mixed h1 hb (h3 b hb) (by cases M with|none=>exact Nat.le_refl _|some n=>trivial) (aBe hC) (SG hD) (Nat.le_of_ble_eq_true hle) (fun v h' nx' hk=>⟨_,hk,fun k o hlk=>hlk⟩) hl H hs
theorem wE {n:Nat}{g:Heap}:∀ {h:Heap} {k:Nat} {o:bV},look (qM n g h) k=some o→look h k=some o∧n≤k∧((∃ a b c,look g k=some (.cells true a b c))∨∃ es,look g k=some (.map es))
 |[],k,o,hk=>by cases hk
 |(j,q)::r,k,o,hk=>by
  have drop:look (qM n g r) k=some o→((∃ a b c,look g j=some (.cells true a b c))→n≤j→False)→((∃ es,look g j=some (.map es))→n≤j→False)→look ((j,q)::r) k=some o∧n≤k∧((∃ a b c,look g k=some (.cells true a b c))∨∃ es,look g k=some (.map es)):=by
   intro h1 h2 h3;obtain⟨i1,i2,i3⟩:=wE h1;refine⟨?_,i2,i3⟩;rw [aB];split
   ·rename_i hb;have:=beq_true hb;subst this;rcases i3 with i3|i3
    ·exact (h2 i3 i2).elim
    exact (h3 i3 i2).elim
   exact i1
  have CF:look ((j,q)::qM n g r) k=some o→n≤j→((∃ a b c,look g j=some (.cells true a b c))∨∃ es,look g j=some (.map es))→look ((j,q)::r) k=some o∧n≤k∧((∃ a b c,look g k=some (.cells true a b c))∨∃ es,look g k=some (.map es)):=by
   intro h1 h2 h3;rw [aB] at h1 ⊢;split at h1
   ·rename_i hb;have:=beq_true hb;subst this;exact⟨h1,h2,h3⟩
   exact wE h1
  unfold qM at hk;split at hk
  ·rename_i a b c hn hg;exact CF hk (Nat.le_of_ble_eq_true hn) (.inl ⟨_,_,_,hg⟩)
  ·rename_i es hn hg;exact CF hk (Nat.le_of_ble_eq_true hn) (.inr ⟨_,hg⟩)
  rename_i n1 n2;exact drop hk (fun ⟨a,b,c,h1⟩ h2=>n1 _ _ _ (Nat.ble_eq_true_of_le h2) h1) (fun ⟨es,h1⟩ h2=>n2 _ (Nat.ble_eq_true_of_le h2) h1)
theorem aJV {PR:Nat→Bool}(hC:bF P C):bF P (frC PR C):=by
 intro f args h nx K hl ι B w H hs;unfold frC at hl;split at hl
 case h_2=>exact hC f args h nx K hl ι B w H hs
 obtain⟨c1,c2⟩:=hC f args (eP h) nx _ hl ι w.heap.size w H.shut hs;refine⟨c1,CallsIn.mono c2 fun e w' hr=>?_⟩;cases e with
 |returned u =>
  obtain⟨v,h',nx',ι',q1,q2,q3,q4,q5,q6,q7⟩:=hr;have H':aU ι B h nx w':=H.ext q4;unfold frK at q1;split at q1
  ·rename_i hg;exact⟨v,h,nx,ι,q1,cG hg,H',q4.mono H.size,fun _ _=>rfl,Nat.le_refl _,by rw [q7,jH hg,jH hg]⟩
  refine⟨v,_,nx',ι',q1,q2,?_,q4.mono H.size,q5,q6,q7⟩;have Q:=q3.down H.size;have hcase:∀ k o,look (app (qM nx h' h') h) k=some o→(look h k=some o∧k<nx)∨(look h' k=some o∧nx≤k∧∀ b,(ι' k).FB=some b→w.heap.size≤b):=by
   intro k o hk;rw [iQ] at hk;split at hk
   ·rename_i o1 ho;injection hk with hk;subst hk;obtain⟨a1,a2,a3⟩:=wE ho;refine .inr ⟨a1,a2,fun b hb=>?_⟩;have hob:=q3.obj k _ a1;cases hl:ι' k with
    |nil p=>rw [hl] at hb;cases hb
    |lay b2 off e =>
     rw [hl] at hb hob;have e1:b2=b:=(by simpa [Loc.FB] using hb);subst e1;rcases a3 with ⟨a,b',c,a3⟩|⟨es,a3⟩
     ·rw [a1] at a3;injection a3 with a3;subst a3;exact hob.1
     rw [a1] at a3;injection a3 with a3;subst a3;exact hob.1
   exact .inl ⟨hk,H.low k _ hk⟩
  refine⟨fun k o hk=>?_,fun k k' o o' hk hk' hne ha b hb=>?_,fun k o hk=>?_,H'.size,fun k o hk=>?_⟩
  ·rcases hcase k o hk with ⟨h2,h3⟩|⟨h2,h3,_⟩
   ·rw [q5 k h3];exact (H'.obj k o h2).names (H'.sc k o h2) q5
   exact Q.obj k o h2
  ·rcases hcase k o hk with ⟨h2,h3⟩|⟨h2,h3,h4⟩ <;> rcases hcase k' o' hk' with ⟨h2',h3'⟩|⟨h2',h3',h4'⟩
   ·rw [q5 k h3] at hb;rw [q5 k' h3'];exact H'.sep k k' o o' h2 h2' hne ha b hb
   ·rw [q5 k h3] at hb;intro hb';have:=h4' b hb';have:=(H.obj k o h2).lt hb;omega
   ·rw [q5 k' h3'];intro hb';have:=h4 b hb;have:=(H.obj k' o' h2').lt hb';omega
   exact Q.sep k k' o o' h2 h2' hne ha b hb
  ·rcases hcase k o hk with ⟨h2,h3⟩|⟨h2,h3,h4⟩
   ·omega
   exact Q.low k o h2
  ·rcases hcase k o hk with ⟨h2,h3⟩|⟨h2,h3,h4⟩
   ·exact (H'.sc k o h2).mono q6 q5
   exact Q.sc k o h2
 |_=>exact hr.elim
theorem aHw {PR:Nat→Bool}(hC:eT C):eT (frC PR C):=by
 intro f args h nx K hl;unfold frC at hl ⊢;cases hp:PR f with
 |false=>simp only [hp] at hl ⊢;exact hC f args h nx K hl
 |true =>
 simp only [hp] at hl ⊢;obtain⟨v,h',nx',q1,q2⟩:=hC _ _ _ _ _ hl;unfold frK at q1;split at q1
 ·rename_i hg;refine⟨v,h,nx,q1,fun K' hk=>q2 _ ?_⟩;unfold frK;rw [hg];exact hk
 rename_i hg;refine⟨v,_,nx',q1,fun K' hk=>q2 _ ?_⟩;unfold frK;rw [hg];exact hk
theorem kL (hc:qH P c):∀ d,bF P (uZ c d false)∧fE P (uZ c d true)∧eT (uZ c d false)∧eT (uZ c d true)
 |0=>⟨fun _ _ _ _ _ hl=>hl.elim,fun _ _ _ _ _ hl=>hl.elim,fun _ _ _ _ _ hl=>hl.elim,fun _ _ _ _ _ hl=>hl.elim⟩
 |d+1=>by
  obtain⟨h1,h2,h3,h4⟩:=kL hc d;refine⟨aJV (vI hc h1 h2 h3 h4 _),?_,aHw (aAz h3 h4 (fun f x hx=>(hc.xs f x hx).2)),UP h3 h4⟩;show fE P (tK c.A c.T (uZ c d false) (uZ c d true) c.PL (.fuel c.M));rw [hc.ar];exact aBS hc.tab h1 h2 h3 h4 hc.mixed
end
def XY:Value→Value→Bool
 |.int k a,.int k' b=>kEq k k'&&decide (a=b)
 |.bool a,.bool b=>a == b
 |.pointer none,.pointer none=>true
 |.slice none n c,.slice none m d=>Nat.beq n m&&Nat.beq c d
 |.map none,.map none=>true
 |.nilFunc,.nilFunc=>true
 |.nilIface,.nilIface=>true
 |.string a,.string b=>(match a.data.toList,b.data.toList with|[],[]=>true|_,_=>false)
 |_,_=>false
def FV:List Value→List Value→Bool
 |[],[]=>true
 |x::r,y::s=>XY x y&&FV r s
 |_,_=>false
def aCr:Value→Value→Bool
 |.agg xs,.agg ys=>FV xs.toList ys.toList
 |x,y=>XY x y
theorem Q8 {x y:Value}(h:XY x y=true):x=y:=by
 unfold XY at h;split at h
 ·simp only [Bool.and_eq_true,decide_eq_true_eq] at h;rw [rK h.1,h.2]
 ·simpa using h
 ·rfl
 ·simp only [Bool.and_eq_true] at h;rw [beq_true h.1,beq_true h.2]
 ·rfl
 ·rfl
 ·rfl
 ·rename_i a b;split at h
  ·rename_i h1 h2;obtain⟨⟨a⟩⟩:=a;obtain⟨⟨b⟩⟩:=b;simp at h1 h2;rw [h1,h2]
  ·cases h
 ·cases h
theorem IG:∀ {x y:List Value},FV x y=true→x=y
 |[],[],_=>rfl
 |[],_::_,h=>by cases h
 |_::_,[],h=>by cases h
 |x::r,y::s,h=>by
  simp only [FV,Bool.and_eq_true] at h;rw [Q8 h.1,IG h.2]
theorem aDI {x y:Value}(h:aCr x y=true):x=y:=by
 unfold aCr at h;split at h
 ·congr 1;apply Array.ext';exact IG h
 exact Q8 h
def tyB (P:Program)(t:TypeId)(i:TU):Bool :=
 (match P.info? t with|some x=>Nat.beq x.size i.size&&Nat.beq x.bytes i.bytes&&(match x.zero with|some z=>aCr z i.zv|none=>false)|none=>false) &&
 (match P.underlying t with|some d=>KOK d i.kind|none=>false) &&
 Nat.beq i.zv.cells.size i.size&&gA i.zv&&!P.stoodInHeld t&&!P.eqGuardType P.depth t&&Nat.blt 0 i.size
def aGK (P:Program):dD→Bool
 |[]=>true
 |(t,i)::r=>tyB P t i&&aGK P r
theorem aL7 {P:Program}{t:TypeId}{i:TU}(h:tyB P t i=true):n9 P t i:=by
 unfold tyB at h;simp only [Bool.and_eq_true,Bool.not_eq_true'] at h;obtain⟨⟨⟨⟨⟨⟨h1,h2⟩,h3⟩,h4⟩,h5⟩,h6⟩,h7⟩:=h;split at h1
 case h_2=>cases h1
 rename_i x hx;simp only [Bool.and_eq_true] at h1;obtain⟨⟨h8,h9⟩,h10⟩:=h1;split at h10
 case h_2=>cases h10
 rename_i z hz;split at h2
 case h_2=>cases h2
 rename_i d hd;exact⟨⟨x,hx,beq_true h8,beq_true h9,by rw [hz,aDI h10]⟩,⟨d,hd,h2⟩,beq_true h3,h4,h5,h6,rH h7⟩
theorem M1 {P:Program}:∀ {T:dD},aGK P T=true→c7 P T
 |[],_,t,i,h=>by cases h
 |(u,j)::r,hb,t,i,h=>by
  simp only [aGK,Bool.and_eq_true] at hb;simp only [aB] at h;split at h
  ·rename_i hu;have:=beq_true hu;subst this;injection h with h;subst h;exact aL7 hb.1
  exact M1 hb.2 t i h
end Go.Aw
end
