/-
  Parts of a proof. No condition.
-/
import Derived.Test.YticajjhjehljpaaGreatQAc
import Derived.RangeFuncLeaves
set_option linter.unusedSimpArgs false
set_option linter.unusedVariables false
noncomputable section
namespace Go.Aw
open Go.RowKit
variable {A:Ar}{T:cQ}{C:VC}{Y:VY}
theorem DT (hC:dS C)(hY:dS Y){env:List (Nat × Value)}{h:Heap}{nx:Nat}{op:Op}:fE (pD A T C Y env h nx op):=by
 have hlook:fE (fun K=>jC A T env h op (fun v=>K v h nx)):=UW JY;show fE (fun K=>pD A T C Y env h nx op K);cases op
 case store t x y=>exact jA fun p=>jA fun v=>UR
 case alloc t=>exact TT
 case box t x=>exact jA fun v=>aDr
 case buildSlice t n ps =>
  simp only [pD];intro K hl;split at hl
  ·exact DJ K hl
  exact hl.elim
 case slice t x lo hi mx =>
  simp only [pD];refine jA fun v=>?_;intro K hl;split at hl
  ·exact FX K hl
  exact hl.elim
 case makeSlice t l c =>
  simp only [pD];exact jA fun x=>jA fun y=>FA
 case makeMap t r =>
  cases r with
  |none=>exact cO
  |some r=>exact hlook
 case lookup t m k ok=>exact jA fun x=>jA fun y=>UW B7
 case mapUpdate t m k u=>exact jA fun x=>jA fun y=>jA fun v=>EN
 case call c =>
  obtain⟨cal,args,ats⟩:=c;cases cal with
  |invoke r m=>exact fH
  |builtin b =>
   cases b
   case append =>
    simp only [pD];intro K hl;split at hl
    ·exact RA K hl
    exact hl.elim
   case clear =>
    simp only [pD];intro K hl;split at hl
    ·exact S3 K hl
    exact hl.elim
   all_goals exact hlook
  |value f =>
   simp only [pD];refine jA fun fv=>?_;intro K hl;split at hl
   ·split at hl
    ·split at hl
     ·exact hC _ _ _ _ K hl
     exact hl.elim
    ·split at hl
     ·exact hY _ _ _ _ K hl
     exact hl.elim
    exact hl.elim
   exact hl.elim
 all_goals exact hlook
theorem yL {ops:List Oper}{env:List (Nat × Value)}{g:Option (Nat × Bool)}:(∃ e,∀ Yk N,fC A ops env g Yk N=Yk e)∨(∃ e,∀ Yk N,fC A ops env g Yk N=N e)∨(∀ Yk N,fC A ops env g Yk N=False):=by
 unfold fC;cases g with
 |none=>exact .inl ⟨env,fun _ _=>rfl⟩
 |some gw =>
  obtain⟨j,want⟩:=gw;simp only;cases eL ops j with
  |none=>exact .inr (.inr fun _ _=>rfl)
  |some o =>
   simp only;cases o.dst with
   |none=>exact .inr (.inr fun _ _=>rfl)
   |some t =>
    simp only;cases look env t with
    |none=>exact .inr (.inr fun _ _=>rfl)
    |some v =>
     cases v with
     |tuple vs=>exact .inr (.inl ⟨env,fun _ _=>rfl⟩)
     |bool b =>
      simp only;cases A.eqB b want with
      |true=>exact .inl ⟨_,fun _ _=>rfl⟩
      |false=>exact .inr (.inl ⟨_,fun _ _=>rfl⟩)
     |_=>exact .inr (.inr fun _ _=>rfl)
theorem E9 {tn:Nat}{env:List (Nat × Value)}{dst:Option Nat}{v:Value}:(∃ e,∀ K,dZ tn env dst v K=K e)∨(∀ K,dZ tn env dst v K=False):=by
 unfold dZ;cases dst with
 |none=>exact .inl ⟨env,fun _=>rfl⟩
 |some d =>
  simp only;cases Nat.blt d tn with
  |true=>exact .inl ⟨_,fun _=>rfl⟩
  |false=>exact .inr fun _=>rfl
theorem nB {e:List (Nat × Value)}{h:Heap}{nx:Nat}:lL (fun K=>K e h nx):=fun K hl=>⟨e,h,nx,hl,fun K' h=>h⟩
theorem xK:lL (fun _=>False):=fun K hl=>hl.elim
theorem xO {ops:List Oper}{env:List (Nat × Value)}{g:Option (Nat × Bool)}{F G:List (Nat × Value)→KS→Prop}(hF:∀ e,lL (F e))(hG:∀ e,lL (G e)):lL (fun K=>fC A ops env g (fun e=>F e K) (fun e=>G e K)):=by
 rcases yL (A:=A) (ops:=ops) (env:=env) (g:=g) with ⟨e,h⟩|⟨e,h⟩|h
 ·simp only [h];exact hF e
 ·simp only [h];exact hG e
 simp only [h];exact xK
theorem oI {tn:Nat}{env:List (Nat × Value)}{dst:Option Nat}{v:Value}{F:List (Nat × Value)→KS→Prop}(hF:∀ e,lL (F e)):lL (fun K=>dZ tn env dst v (fun e=>F e K)):=by
 rcases E9 (tn:=tn) (env:=env) (dst:=dst) (v:=v) with ⟨e,h⟩|h
 ·simp only [h];exact hF e
 simp only [h];exact xK
theorem A9 {E:KE→Prop}{F:Value→Heap→Nat→KS→Prop}(hE:fE E)(hF:∀ v h nx,lL (F v h nx)):lL (fun K=>E (fun v h nx=>F v h nx K)):=by
 intro K hl;obtain⟨v,h,nx,h1,h2⟩:=hE _ hl;obtain⟨e,h',nx',h3,h4⟩:=hF v h nx K h1;exact⟨e,h',nx',h3,fun K' hk=>h2 _ (h4 K' hk)⟩
theorem RZ {E:KS→Prop}{F:List (Nat × Value)→Heap→Nat→KS→Prop}(hE:lL E)(hF:∀ v h nx,lL (F v h nx)):lL (fun K=>E (fun v h nx=>F v h nx K)):=by
 intro K hl;obtain⟨v,h,nx,h1,h2⟩:=hE _ hl;obtain⟨e,h',nx',h3,h4⟩:=hF v h nx K h1;exact⟨e,h',nx',h3,fun K' hk=>h2 _ (h4 K' hk)⟩
theorem YP {b:Bool}{E:KS→Prop}(h:lL E):lL (fun K=>dT b (E K)):=by
 intro K hl;obtain⟨hb,hl⟩:=aD.1 hl;obtain⟨x,y,z,h1,h2⟩:=h K hl;exact⟨x,y,z,h1,fun K' hk=>aJ hb (h2 K' hk)⟩
theorem F9 (hC:dS C)(hY:dS Y){tn:Nat}{ops:List Oper}:∀ (l:List Oper) (env:List (Nat × Value)) (h:Heap) (nx:Nat),lL (yQ A T C Y tn ops l env h nx)
 |[],env,h,nx=>nB
 |o::r,env,h,nx=>by
  show lL (fun K=>yQ A T C Y tn ops (o::r) env h nx K);simp only [KX]
  exact xO (F:=fun e K=>pD A T C Y e h nx o.op fun v h' nx'=>dZ tn e o.dst v fun env'=>yQ A T C Y tn ops r env' h' nx' K) (G:=fun e K=>dZ tn e o.dst undef fun env'=>yQ A T C Y tn ops r env' h nx K)
   (fun e=>A9 (F:=fun v h' nx' K=>dZ tn e o.dst v fun env'=>yQ A T C Y tn ops r env' h' nx' K) (DT hC hY) fun v h' nx'=>oI (F:=fun env' K=>yQ A T C Y tn ops r env' h' nx' K) fun e'=>F9 hC hY r e' h' nx')
   (fun e=>oI (F:=fun env' K=>yQ A T C Y tn ops r env' h nx K) fun e'=>F9 hC hY r e' h nx)
def qS {α:Type}(E:(α→Nat→Prop)→Prop):Prop:=∀ K,E K→∃ v n,K v n∧∀ K':α→Nat→Prop,K' v n→E K'
theorem XD {E:(Value→Prop)→Prop}{n:Nat}(hE:vG E):qS (fun K=>E (fun v=>K v n)):=by
 intro K hl;obtain⟨v,h1,h2⟩:=hE _ hl;exact⟨v,n,h1,fun K' hk=>h2 _ hk⟩
theorem EL {x:Option Value}{F:Value→(Value→Nat→Prop)→Prop}(hF:∀ v,qS (F v)):qS (fun K=>on x (fun v=>F v K)):=by
 cases x with
 |none=>exact fun K hl=>hl.elim
 |some v=>exact hF v
theorem UG (hC:dS C){hJ:Heap}{nx:Nat}{env:List (Nat × Value)}{op:Op}:qS (iA A T C hJ nx env op):=by
 have hlook:∀ hh op',qS (fun K=>jC A T env hh op' (fun v=>K v nx)):=fun _ _=>XD JY;show qS (fun K=>iA A T C hJ nx env op K);cases op
 case load t x=>simp only [iA];exact hlook hJ _
 case lookup t m k ok=>exact EL fun x=>EL fun y=>XD B7
 case slice t x lo hi mx =>
  simp only [iA];refine EL fun v=>?_;intro K hl;split at hl
  ·obtain⟨v,h',nx',h1,h2⟩:=FX _ hl;exact⟨v,nx',h1,fun K' hk=>h2 _ hk⟩
  exact hl.elim
 case call c =>
  obtain⟨cal,args,ats⟩:=c;cases cal with
  |invoke r m=>exact fun K hl=>hl.elim
  |builtin b=>simp only [iA];exact hlook [] _
  |value f =>
   simp only [iA];refine EL fun fv=>?_;intro K hl;split at hl
   ·split at hl
    ·split at hl
     ·obtain⟨v,h',nx',h1,h2⟩:=hC _ _ _ _ _ hl;split at h1
      ·rename_i hb;exact⟨v,nx,h1,fun K' hk=>h2 _ (by rw [hb];exact hk)⟩
      exact h1.elim
     exact hl.elim
    exact hl.elim
   exact hl.elim
 all_goals (simp only [iA];exact hlook [] _)
theorem FV {α β:Type}{E:(α→Prop)→Prop}{F:α→(β→Prop)→Prop}(hE:vG E)(hF:∀ v,vG (F v)):vG (fun K=>E (fun v=>F v K)):=by
 intro K hl;obtain⟨v,h1,h2⟩:=hE _ hl;obtain⟨e,h3,h4⟩:=hF v K h1;exact⟨e,h3,fun K' hk=>h2 _ (h4 K' hk)⟩
theorem xN {α:Type}:qS (fun _:α→Nat→Prop=>False):=fun _ hl=>hl.elim
theorem ZR {α:Type}{v:α}{n:Nat}:qS (fun K:α→Nat→Prop=>K v n):=fun _ hl=>⟨v,n,hl,fun _ h=>h⟩
theorem aAn {α β:Type}{E:(α→Nat→Prop)→Prop}{F:α→Nat→(β→Nat→Prop)→Prop}(hE:qS E)(hF:∀ v n,qS (F v n)):qS (fun K=>E (fun v n=>F v n K)):=by
 intro K hl;obtain⟨v,n,h1,h2⟩:=hE _ hl;obtain⟨e,m,h3,h4⟩:=hF v n K h1;exact⟨e,m,h3,fun K' hk=>h2 _ (h4 K' hk)⟩
theorem TS {α:Type}{ops:List Oper}{env:List (Nat × Value)}{g:Option (Nat × Bool)}{F G:List (Nat × Value)→(α→Nat→Prop)→Prop}(hF:∀ e,qS (F e))(hG:∀ e,qS (G e)):qS (fun K=>fC A ops env g (fun e=>F e K) (fun e=>G e K)):=by
 rcases yL (A:=A) (ops:=ops) (env:=env) (g:=g) with ⟨e,h⟩|⟨e,h⟩|h
 ·simp only [h];exact hF e
 ·simp only [h];exact hG e
 simp only [h];exact xN
theorem RO {α:Type}{tn:Nat}{env:List (Nat × Value)}{dst:Option Nat}{v:Value}{F:List (Nat × Value)→(α→Nat→Prop)→Prop}(hF:∀ e,qS (F e)):qS (fun K=>dZ tn env dst v (fun e=>F e K)):=by
 rcases E9 (tn:=tn) (env:=env) (dst:=dst) (v:=v) with ⟨e,h⟩|h
 ·simp only [h];exact hF e
 simp only [h];exact xN
theorem AY (hC:dS C){tn:Nat}{ops:List Oper}{hJ:Heap}:∀ (l:List Nat) (env:List (Nat × Value)) (nx:Nat),qS (oX A T C tn ops hJ l env nx)
 |[],env,nx=>ZR
 |i::r,env,nx=>by
  show qS (fun K=>oX A T C tn ops hJ (i::r) env nx K);simp only [xF];cases eL ops i with
  |none=>exact xN
  |some o =>
   exact TS (F:=fun e K=>iA A T C hJ nx e o.op fun v nx'=>dZ tn e o.dst v fun env=>oX A T C tn ops hJ r env nx' K) (G:=fun e K=>dZ tn e o.dst undef fun env=>oX A T C tn ops hJ r env nx K)
    (fun e=>aAn (F:=fun v n K=>dZ tn e o.dst v fun env=>oX A T C tn ops hJ r env n K) (UG hC) fun v n=>RO (F:=fun env K=>oX A T C tn ops hJ r env n K) fun e'=>AY hC r e' n)
    (fun e=>RO (F:=fun env K=>oX A T C tn ops hJ r env nx K) fun e'=>AY hC r e' nx)
theorem T1 {E:(List (Nat × Value)→Nat→Prop)→Prop}{F:List (Nat × Value)→Nat→KS→Prop}(hE:qS E)(hF:∀ e n,lL (F e n)):lL (fun K=>E (fun e n=>F e n K)):=by
 intro K hl;obtain⟨e0,n0,h1,h2⟩:=hE _ hl;obtain⟨e,h,nx,h3,h4⟩:=hF e0 n0 K h1;exact⟨e,h,nx,h3,fun K' hk=>h2 _ (h4 K' hk)⟩
theorem CR {tn:Nat}{ops:List Oper}:∀ (l:List Nat) (env:List (Nat × Value)) (h:Heap) (nx:Nat),lL (lO T tn ops l env h nx)
 |[],env,h,nx=>nB
 |i::r,env,h,nx=>by
  intro K hl;simp only [mV] at hl ⊢;split at hl
  ·split at hl
   ·exact oI (F:=fun e K=>lO T tn ops r e _ _ K) (fun e=>CR r e _ _) K hl
   exact hl.elim
  exact hl.elim
theorem BF (hC:dS C)(hY:dS Y){tn:Nat}{ops:List Oper}{hJ:Heap}:∀ (l:List (Nat × Bool)) (env:List (Nat × Value)) (h:Heap) (nx:Nat),lL (kD A T C Y tn ops hJ l env h nx)
 |[],env,h,nx=>nB
 |(i,chk)::r,env,h,nx=>by
  show lL (fun K=>kD A T C Y tn ops hJ ((i,chk)::r) env h nx K);simp only [xT];cases eL ops i with
  |none=>exact xK
  |some o =>
   exact xO (F:=fun e K=>dT (yA e hJ chk o.op) (pD A T C Y e h nx o.op fun v h' nx'=>dZ tn e o.dst v fun env'=>kD A T C Y tn ops hJ r env' h' nx' K)) (G:=fun e K=>dZ tn e o.dst undef fun env'=>kD A T C Y tn ops hJ r env' h nx K)
    (fun e=>YP (A9 (F:=fun v h' nx' K=>dZ tn e o.dst v fun env'=>kD A T C Y tn ops hJ r env' h' nx' K) (DT hC hY) fun v h' nx'=>oI (F:=fun env' K=>kD A T C Y tn ops hJ r env' h' nx' K) fun e'=>BF hC hY r e' h' nx'))
    (fun e=>oI (F:=fun env' K=>kD A T C Y tn ops hJ r env' h nx K) fun e'=>BF hC hY r e' h nx)
theorem RK (hC:dS C)(hY:dS Y){tn:Nat}{ops:List Oper}{p:fB}{env:List (Nat × Value)}{h:Heap}{nx:Nat}:lL (oV A T C Y tn ops p env h nx):=by
 show lL (fun K=>oV A T C Y tn ops p env h nx K);unfold oV;exact T1 (F:=fun e n K=>lO T tn ops p.allocs e h n fun env2 h2 nx2=>kD A T C Y tn ops (JH T ops env p h) p.tail env2 h2 nx2 K) (AY hC p.head env nx) fun e n =>
  RZ (F:=fun env2 h2 nx2 K=>kD A T C Y tn ops (JH T ops env p h) p.tail env2 h2 nx2 K) (CR p.allocs e h n) fun e2 h2 nx2=>BF hC hY p.tail e2 h2 nx2
end Go.Aw
end

noncomputable section
namespace Go.Aw
open Go.RowKit
def jR (ρ:Nat→Nat):Nat→Loc:=fun k=>.lay (ρ k) 0 0
def fL (ρ:Nat→Nat):Value→Value:=tr (jR ρ)
def bJ (ρ:Nat→Nat):Value→Value:=bO (jR ρ)
def x6 (n:Nat):Value→Prop:=eX (jR id) n
def CC (n:Nat):Value→Prop:=gP (jR id) n
def bT (ρ:Nat→Nat)(n:Nat):bH→bH→Prop
 |.cells wr0 g0 sz0 cs0,.cells wr g sz cs=>wr0=wr∧g0=g∧sz0=sz∧cs=cs0.map (bJ ρ)∧∀ v∈cs0,CC n v
 |.map es0,.map es=>es=es0.map (fun e=>(e.1,bJ ρ e.2))∧∀ e∈es0,CC n e.2
 |.zero,.zero=>True
 |_,_=>False
structure kV (b:Nat) (ρ:Nat→Nat) (e0:List (Nat × Value)) (h0:Heap) (n0:Nat) (e:List (Nat × Value)) (h:Heap) (nx:Nat):Prop where
 env:∀ t v,look e0 t=some v→look e t=some (fL ρ v)∧x6 n0 v
 heap:∀ k o,look h0 k=some o→k<n0∧∃ o',look h (ρ k)=some o'∧bT ρ n0 o o'
 inj:∀ k k' o o',look h0 k=some o→look h0 k'=some o'→ρ k=ρ k'→k=k'
 fix:∀ k,k<b→ρ k=k
 le:b≤n0
section
variable {ι:Nat→Loc}{ρ:Nat→Nat}{n m:Nat}
theorem D6 (v:Value):dY ι (dY (jR ρ) v)=dY (fun k=>ι (ρ k)) v:=by
 cases v with
 |pointer a =>
  cases a with
  |none=>rfl
  |some a =>
   simp only [dY,jR,Nat.zero_add]
 |slice a n c =>
  cases a with
  |none=>rfl
  |some a =>
   simp only [dY,jR,Nat.zero_add,Nat.add_zero]
 |map a =>
  cases a with
  |none=>rfl
  |some a=>simp only [dY,jR]
 |_=>rfl
theorem aB0 {f:Fn}(h:RU ι n (lM (jR ρ) f)):lM ι (lM (jR ρ) f)=lM (fun k=>ι (ρ k)) f:=by
 cases f with
 |yield l =>
  have h:=h.2;simp only [lM,jR];cases hl:ι (ρ l) with
  |nil p=>rw [hl] at h;cases h
  |lay b o e=>rfl
 |_=>rfl
theorem iS {v:Value}(h:gP ι n (bO (jR ρ) v)):bO ι (bO (jR ρ) v)=bO (fun k=>ι (ρ k)) v:=by
 cases v with
 |func f a c =>
  have h1:=aB0 (ι:=ι) (n:=n) (f:=f) h.1;simp only [bO,h1,Array.map_map];congr 2;funext x;exact D6 x
 |pointer a=>have:=D6 (ι:=ι) (ρ:=ρ) (.pointer a);cases a <;> exact this
 |slice a n c=>have:=D6 (ι:=ι) (ρ:=ρ) (.slice a n c);cases a <;> exact this
 |map a=>have:=D6 (ι:=ι) (ρ:=ρ) (.map a);cases a <;> exact this
 |_=>rfl
theorem uX {v:Value}(h:kU ι n (dW (jR ρ) v)):dW ι (dW (jR ρ) v)=dW (fun k=>ι (ρ k)) v:=by
 cases v with
 |agg cs =>
  simp only [dW,Array.map_map];congr 1;apply Array.map_congr_left;intro x hx;exact iS (n:=n) (h (bO (jR ρ) x) (by simp only [Array.toList_map,List.mem_map];exact⟨x,by simpa using hx,rfl⟩))
 |pointer a=>have:=iS (ι:=ι) (ρ:=ρ) (n:=n) (v:=.pointer a);cases a <;> exact this h
 |slice a l c=>have:=iS (ι:=ι) (ρ:=ρ) (n:=n) (v:=.slice a l c);cases a <;> exact this h
 |map a=>have:=iS (ι:=ι) (ρ:=ρ) (n:=n) (v:=.map a);cases a <;> exact this h
 |func f a c=>exact iS (ι:=ι) (ρ:=ρ) (n:=n) (v:=.func f a c) h
 |_=>rfl
theorem E3 {v:Value}(h:eX ι n (fL ρ v)):tr ι (fL ρ v)=tr (fun k=>ι (ρ k)) v:=by
 unfold fL at h ⊢;cases v with
 |tuple cs =>
  simp only [tr,Array.map_map];congr 1;apply Array.map_congr_left;intro x hx;exact uX (n:=n) (h (dW (jR ρ) x) (by simp only [Array.toList_map,List.mem_map];exact⟨x,by simpa using hx,rfl⟩))
 |pointer a=>have:=uX (ι:=ι) (ρ:=ρ) (n:=n) (v:=.pointer a);cases a <;> exact this h
 |slice a l c=>have:=uX (ι:=ι) (ρ:=ρ) (n:=n) (v:=.slice a l c);cases a <;> exact this h
 |map a=>have:=uX (ι:=ι) (ρ:=ρ) (n:=n) (v:=.map a);cases a <;> exact this h
 |func f a c=>exact uX (ι:=ι) (ρ:=ρ) (n:=n) (v:=.func f a c) h
 |agg c=>exact uX (ι:=ι) (ρ:=ρ) (n:=n) (v:=.agg c) h
 |_=>rfl
theorem EF {v:Value}(h:oL ι n (dY (jR ρ) v))(hm:oL (jR id) m v):oL (fun k=>ι (ρ k)) m v:=by
 cases v with
 |pointer a =>
  cases a with
  |none=>trivial
  |some a=>exact⟨hm.1,h.2⟩
 |slice a l c =>
  cases a with
  |none=>trivial
  |some a=>exact⟨hm.1,fun hf=>h.2 hf⟩
 |map a =>
  cases a with
  |none=>trivial
  |some a=>exact⟨hm.1,h.2⟩
 |agg c=>exact hm.elim
 |tuple c=>exact hm.elim
 |_=>trivial
theorem o9 {v:Value}(h:gP ι n (bO (jR ρ) v))(hm:gP (jR id) m v):gP (fun k=>ι (ρ k)) m v:=by
 cases v with
 |func f a c =>
  refine⟨?_,fun x hx=>?_⟩
  ·have h1:=h.1;have h2:=hm.1;cases f with
   |yield l=>exact⟨h2.1,h1.2⟩
   |_=>trivial
  refine EF (n:=n) (h.2 _ ?_) (hm.2 x hx);simp only [Array.toList_map,List.mem_map];exact⟨x,hx,rfl⟩
 |pointer a=>have:=EF (ι:=ι) (ρ:=ρ) (n:=n) (m:=m) (v:=.pointer a);cases a <;> exact this h hm
 |slice a l c=>have:=EF (ι:=ι) (ρ:=ρ) (n:=n) (m:=m) (v:=.slice a l c);cases a <;> exact this h hm
 |map a=>have:=EF (ι:=ι) (ρ:=ρ) (n:=n) (m:=m) (v:=.map a);cases a <;> exact this h hm
 |agg c=>exact hm.elim
 |tuple c=>exact hm.elim
 |_=>trivial
theorem vD {v:Value}(h:kU ι n (dW (jR ρ) v))(hm:kU (jR id) m v):kU (fun k=>ι (ρ k)) m v:=by
 cases v with
 |agg cs =>
  intro x hx;refine o9 (n:=n) (h _ ?_) (hm x hx);simp only [Array.toList_map,List.mem_map];exact⟨x,hx,rfl⟩
 |pointer a=>have:=o9 (ι:=ι) (ρ:=ρ) (n:=n) (m:=m) (v:=.pointer a);cases a <;> exact this h hm
 |slice a l c=>have:=o9 (ι:=ι) (ρ:=ρ) (n:=n) (m:=m) (v:=.slice a l c);cases a <;> exact this h hm
 |map a=>have:=o9 (ι:=ι) (ρ:=ρ) (n:=n) (m:=m) (v:=.map a);cases a <;> exact this h hm
 |func f a c=>exact o9 (ι:=ι) (ρ:=ρ) (n:=n) (m:=m) (v:=.func f a c) h hm
 |tuple c=>exact hm.elim
 |_=>trivial
theorem DM {v:Value}(h:eX ι n (fL ρ v))(hm:x6 m v):eX (fun k=>ι (ρ k)) m v:=by
 unfold fL at h;unfold x6 at hm;cases v with
 |tuple cs =>
  intro x hx;refine vD (n:=n) (h _ ?_) (hm x hx);simp only [Array.toList_map,List.mem_map];exact⟨x,hx,rfl⟩
 |pointer a=>have:=vD (ι:=ι) (ρ:=ρ) (n:=n) (m:=m) (v:=.pointer a);cases a <;> exact this h hm
 |slice a l c=>have:=vD (ι:=ι) (ρ:=ρ) (n:=n) (m:=m) (v:=.slice a l c);cases a <;> exact this h hm
 |map a=>have:=vD (ι:=ι) (ρ:=ρ) (n:=n) (m:=m) (v:=.map a);cases a <;> exact this h hm
 |func f a c=>exact vD (ι:=ι) (ρ:=ρ) (n:=n) (m:=m) (v:=.func f a c) h hm
 |agg c=>exact vD (ι:=ι) (ρ:=ρ) (n:=n) (m:=m) (v:=.agg c) h hm
 |_=>trivial
theorem aKb {v:Value}(h:gS (bO (jR ρ) v)=true):gS v=true:=by
 cases v with
 |pointer a=>cases a with
  |none=>rfl
  |some a=>simp [bO,dY,jR,gS] at h
 |slice a n c=>cases a with
  |none=>rfl
  |some a=>simp [bO,dY,jR,gS] at h
 |map a=>cases a with
  |none=>rfl
  |some a=>simp [bO,dY,jR,gS] at h
 |func f a c =>
  cases f with
  |func f=>simpa [bO,lM,gS] using h
  |yield l=>simp [bO,lM,jR,gS] at h
  |_=>simp [bO,lM,gS] at h
 |_=>exact h
theorem O5 {l:List Value}(h:dL (l.map (bJ ρ))=true):dL l=true :=
 vH fun v hv=>aKb (aT h (List.mem_map_of_mem hv))
theorem aBh {B:Nat}{w:World}{o0 o:bH}{l:Loc}(h:kI ι B w o l)(hs:XR ι n o)(hr:bT ρ m o0 o):kI (fun k=>ι (ρ k)) B w o0 l:=by
 cases o0 with
 |cells wr0 g0 sz0 cs0 =>
  cases o with
  |cells wr g sz cs =>
   obtain⟨rfl,rfl,rfl,rfl,hn⟩:=hr;cases l with
   |nil p =>
    have h1:cs0.map (bJ ρ)=[]∧(sz0=0∨wr0=true→p.isSome=true):=(by cases wr0 <;> exact h);have h2:cs0=[]:=(by simpa using h1.1);cases wr0 <;> exact⟨h2,h1.2⟩
   |lay b off e =>
    cases wr0 with
    |true =>
     obtain⟨h1,h2,arr,t,h3,h4,h5⟩:=h;refine⟨h1,fun hg=>O5 (h2 hg),arr,t,h3,by simpa using h4,fun i v hv=>?_⟩;rw [← iS (n:=n) (hs _ (List.mem_map_of_mem (List.mem_of_getElem? hv)))];exact h5 i _ (by rw [List.getElem?_map,hv];rfl)
    |false =>
     obtain⟨h1,h2,h5⟩:=h;refine⟨h1,fun hg=>O5 (h2 hg),fun i v hv=>?_⟩;rw [← iS (n:=n) (hs _ (List.mem_map_of_mem (List.mem_of_getElem? hv)))];exact h5 i _ (by rw [List.getElem?_map,hv];rfl)
  |_=>exact hr.elim
 |map es0 =>
  cases o with
  |map es =>
   obtain⟨rfl,hn⟩:=hr;cases l with
   |nil p=>exact h.elim
   |lay b off e =>
    obtain⟨h1,ents,clock,h2,h3,h4⟩:=h;refine⟨h1,ents,clock,h2,h3.trans ?_,fun x hx=>h4 (x.1,bJ ρ x.2) (List.mem_map_of_mem hx)⟩;rw [List.map_map];apply List.map_congr_left;intro x hx;simp only [Function.comp_apply,bJ];rw [iS (n:=n) (hs (x.1,bJ ρ x.2) (List.mem_map_of_mem hx))]
  |_=>exact hr.elim
 |zero =>
  cases o with
  |zero=>cases l <;> exact h
  |_=>exact hr.elim
 |_=>exact hr.elim
theorem aEc {o0 o:bH}(h:XR ι n o)(hr:bT ρ m o0 o):XR (fun k=>ι (ρ k)) m o0:=by
 cases o0 with
 |cells wr0 g0 sz0 cs0 =>
  cases o with
  |cells wr g sz cs =>
   obtain⟨rfl,rfl,rfl,rfl,hn⟩:=hr;exact fun v hv=>o9 (n:=n) (h _ (List.mem_map_of_mem hv)) (hn v hv)
  |_=>exact hr.elim
 |map es0 =>
  cases o with
  |map es =>
   obtain⟨rfl,hn⟩:=hr;exact fun x hx=>o9 (n:=n) (h (x.1,bJ ρ x.2) (List.mem_map_of_mem hx)) (hn x hx)
  |_=>exact hr.elim
 |zero=>trivial
 |_=>exact hr.elim
theorem bT.alone {o0 o:bH}(hr:bT ρ m o0 o)(h:o0.alone=true):o.alone=true:=by
 cases o0 <;> cases o <;> first|exact hr.elim|(obtain⟨rfl,_⟩:=hr;exact h)|exact h
variable {b:Nat}{e0 e:List (Nat × Value)}{h0 h:Heap}{n0 nx:Nat}
theorem kV.aJi (r:kV b ρ e0 h0 n0 e h nx){B:Nat}{w:World}(H:aQ ι B h nx w):aQ (fun k=>ι (ρ k)) B h0 n0 w:=by
 refine⟨fun k o hk=>?_,fun k k' o o' h1 h2 hne ha q hq=>?_,fun k o hk=>(r.heap k o hk).1,H.size,fun k o hk=>?_⟩
 ·obtain⟨_,o',h1,h2⟩:=r.heap k o hk;exact aBh (H.obj _ _ h1) (H.sc _ _ h1) h2
 ·obtain⟨_,p,k1,k2⟩:=r.heap k o h1;obtain⟨_,p',k3,k4⟩:=r.heap k' o' h2;exact H.sep _ _ p p' k1 k3 (fun e=>hne (r.inj k k' o o' h1 h2 e)) (k2.alone ha) q hq
 obtain⟨_,o',h1,h2⟩:=r.heap k o hk;exact aEc (H.sc _ _ h1) h2
theorem kV.aKT (r:kV b ρ e0 h0 n0 e h nx){a:Act}(H:c9 ι nx e a):c9 (fun k=>ι (ρ k)) n0 e0 a:=by
 intro t v hv;obtain⟨h1,h2⟩:=r.env t v hv;obtain⟨h3,h4⟩:=H t _ h1;exact⟨by rw [← E3 h4];exact h3,DM h4 h2⟩
end
def lZ (A:Ar)(T:cQ)(C:VC)(Y:VY)(tn:Nat)(ops:List Oper)(o:Oper)(e:List (Nat × Value))(h:Heap)(nx:Nat)(K:KS):Prop :=
 fC A ops e o.guard (fun e=>pD A T C Y e h nx o.op fun v h' nx'=>dZ tn e o.dst v fun e'=>K e' h' nx') (fun e=>dZ tn e o.dst undef fun e'=>K e' h nx)
def allM (l:List Nat):List Nat→Bool
 |[]=>true
 |j::r=>match memB j l with|true=>allM l r|false=>false
theorem O4 {l m:List Nat}:allM l m=true↔∀ j∈m,j∈l:=by
 induction m with
 |nil=>simp [allM]
 |cons x r ih =>
  simp only [allM];split
  ·rename_i h;rw [ih];constructor
   ·intro h2 j hj;rcases List.mem_cons.1 hj with rfl|hj
    ·exact dI.1 h
    exact h2 j hj
   exact fun h2 j hj=>h2 j (.tail _ hj)
  rename_i h;constructor
  ·intro h2;cases h2
  intro h2;rw [dI.2 (h2 x (.head _))] at h;cases h
def eG (all:List Oper)(done:List Nat):List Oper→Nat→List Nat
 |[],_=>[]
 |o::r,i=>match memB i done with
  |true=>eG all done r (i+1)
  |false=>(match allM done (gM o) with|true=>i::eG all done r (i+1)|false=>eG all done r (i+1))
theorem xJ {all:List Oper}{done:List Nat}:∀ {l:List Oper} {i k:Nat},k∈eG all done l i↔∃ j o,k=i+j∧eL l j=some o∧k∉done∧∀ x∈gM o,x∈done:=by
 intro l
 induction l with
 |nil =>
  intro i k;constructor
  ·intro h;cases h
  rintro ⟨j,o,_,h,_⟩;rw [dF] at h;simp at h
 |cons p r ih =>
  intro i k;have shift:(∃ j o,k=i+1+j∧eL r j=some o∧k∉done∧∀ x∈gM o,x∈done)→∃ j o,k=i+j∧eL (p::r) j=some o∧k∉done∧∀ x∈gM o,x∈done:=by
   rintro ⟨j,o,h1,h2,h3⟩;refine⟨j+1,o,by omega,?_,h3⟩;rw [dF] at h2 ⊢;simpa using h2
  have back:(∃ j o,k=i+j∧eL (p::r) j=some o∧k∉done∧∀ x∈gM o,x∈done)→(k=i∧i∉done∧∀ x∈gM p,x∈done)∨∃ j o,k=i+1+j∧eL r j=some o∧k∉done∧∀ x∈gM o,x∈done:=by
   rintro ⟨j,o,h1,h2,h3⟩;cases j with
   |zero =>
    rw [dF] at h2;simp at h2;subst h2;exact .inl ⟨by omega,by rw [show i=k by omega];exact h3.1,h3.2⟩
   |succ j =>
    refine .inr ⟨j,o,by omega,?_,h3⟩;rw [dF] at h2 ⊢;simpa using h2
  simp only [eG];split
  ·rename_i hm;rw [ih];refine⟨shift,fun h=>?_⟩;rcases back h with ⟨_,hn,_⟩|h
   ·exact absurd (dI.1 hm) hn
   exact h
  rename_i hm;have hn:i∉done:=fun h=>(by rw [dI.2 h] at hm;cases hm);split
  ·rename_i ha;rw [List.mem_cons,ih];constructor
   ·rintro (rfl|h)
    ·exact⟨0,p,rfl,by rw [dF];rfl,hn,O4.1 ha⟩
    exact shift h
   intro h;rcases back h with ⟨h,_⟩|h
   ·exact .inl h
   exact .inr h
  rename_i ha;rw [ih];refine⟨shift,fun h=>?_⟩;rcases back h with ⟨_,_,h⟩|h
  ·rw [O4.2 h] at ha;cases ha
  exact h
def ME (F:Nat→Prop):List Nat→Prop
 |[]=>True
 |[i]=>F i
 |i::r=>F i∧ME F r
theorem uE {F:Nat→Prop}:∀ {l:List Nat},ME F l↔∀ i∈l,F i
 |[]=>by simp [ME]
 |[i]=>by simp [ME]
 |i::j::r=>by
  rw [show ME F (i::j::r)=(F i∧ME F (j::r)) from rfl,uE];simp
def vany (A:Ar)(T:cQ)(C:VC)(Y:VY)(tn:Nat)(ops:List Oper)(K:KS):Nat→List Nat→KS
 |0,_=>K
 |n+1,done=>fun e h nx=>match eG ops done ops 0 with
  |[]=>K e h nx
  |i::r=>ME (fun j=>match eL ops j with|some o=>lZ A T C Y tn ops o e h nx (vany A T C Y tn ops K n (j::done))|none=>False) (i::r)
section
variable {P:Program}{T:cQ}{C:VC}{Y:VY}{ops:Array Oper}
variable {B:Nat}{w0:World}{ιb:Nat→Loc}{nxb tn:Nat}{ds:List Deferred}{K:KS}
theorem aB6 (hT:cL P T)(hC:bC P C)(hY:eO P Y)(r:Option Nat){Q:Exit→Act→World→Prop}{i:Nat}{o:Oper}(ho:eL ops.toList i=some o){ι:Nat→Loc}{e:List (Nat × Value)}{h:Heap}{nx:Nat}{a:Act}{w:World}
  (hl:lZ aF T C Y tn ops.toList o e h nx K) (I:Inv B w0 ιb nxb tn ds ι e h nx a w) {next:Act→World→Prop}
  (hQ:∀ ι e h nx a w,K e h nx→Inv B w0 ιb nxb tn ds ι e h nx a w→next a w):wpOpIn (Fr r) 0 P ops Q i next a w:=by
 have hoo:ops[i]? = some o:=(by rw [dF] at ho;simpa using ho);unfold wpOpIn;simp only [hoo];unfold lZ at hl;obtain⟨env1,he1,hcase⟩:=vB I.env hl;rcases hcase with ⟨hw,hl⟩|⟨hw,hl⟩
 ·rw [if_pos hw];refine (SB hT hC hY he1 I.heap hl).upon (CI hl) rfl r _ _ fun v h' nx' ι' w' k1 k2 k3 k4 k5 k6=>?_;obtain⟨env2,k7,k8,k9,k10⟩:=oU (he1.names k6 k5) I.size k1 k2;exact hQ ι' env2 h' nx' _ w' k7 (I.step k8 k3 k4 k5 k6 k9 k10)
 rw [hw];refine⟨fun _ _=>trivial,?_⟩;obtain⟨env2,k7,k8,k9,k10⟩:=oU he1 I.size hl (v:=undef) (bU rfl);rw [gU (show gT undef=true from rfl)] at k8 k9 k10;exact hQ ι env2 h nx _ w k7 (I.step k8 I.heap (gF.refl _ _) (fun _ _=>rfl) (Nat.le_refl _) k9 k10)
theorem w8 {listed:Array Bool}(hs:listed.size=ops.size){done:List Nat}(hd:∀ i,xE listed i↔i∈done){i:Nat}:i∈Region.ready .any ops listed↔i∈eG ops.toList done ops.toList 0:=by
 rw [nF hs,xJ];constructor
 ·rintro ⟨h1,h2,h3⟩;have ho:eL ops.toList i=some ops[i]:=(by rw [dF];simp [h1]);refine⟨i,ops[i],by omega,ho,fun h=>h2 ((hd i).2 h),fun x hx=>(hd x).1 (h3 x ?_)⟩;unfold cD;rw [ho];exact hx
 rintro ⟨j,o,h1,h2,h3,h4⟩;have hij:i=j:=(by omega);subst hij;have hlt:i<ops.size:=by
  rw [dF] at h2;have:=(List.getElem?_eq_some_iff.1 h2).1;simpa using this
 refine⟨hlt,fun h=>h3 ((hd i).1 h),fun x hx=>(hd x).2 (h4 x ?_)⟩;unfold cD at hx;rw [h2] at hx;exact hx
theorem aFE (hT:cL P T)(hC:bC P C)(hY:eO P Y)(r:Option Nat){Q:Exit→Act→World→Prop}
  (hQ:∀ ι e h nx a w,K e h nx→Inv B w0 ιb nxb tn ds ι e h nx a w→Q .normal a w):∀ (n:Nat) (listed:Array Bool) (done:List Nat) (ι:Nat→Loc) (e:List (Nat × Value)) (h:Heap) (nx:Nat) (a:Act) (w:World),
  listed.size=ops.size→(∀ i,xE listed i↔i∈done)→left ops.size listed≤n→vany aF T C Y tn ops.toList K n done e h nx→Inv B w0 ιb nxb tn ds ι e h nx a w→wpAnyIn (Fr r) 0 P .any ops Q n listed a w:=by
 intro n
 induction n with
 |zero =>
  intro listed done ι e h nx a w hs hd hl hv I;refine⟨?_,hQ ι e h nx a w hv I⟩;refine List.eq_nil_iff_forall_not_mem.2 fun i hi=>?_;obtain⟨h1,h2,_⟩:=(nF hs).1 hi;have:=y5 h1 hs h2;omega
 |succ n ih =>
  intro listed done ι e h nx a w hs hd hl hv I;simp only [vany] at hv;split at hv
  ·rename_i hr;have hno:∀ i,i∉Region.ready .any ops listed:=fun i hi=>by
    have:=(w8 hs hd).1 hi;rw [hr] at this;cases this
   exact⟨fun _=>hQ ι e h nx a w hv I,fun i hi=>absurd hi (hno i)⟩
  rename_i i0 r0 hr;rw [uE] at hv;refine⟨fun hn=>?_,fun i hi=>?_⟩
  ·exfalso;have:i0∈Region.ready .any ops listed:=(w8 hs hd).2 (by rw [hr];exact .head _);rw [hn] at this;cases this
  obtain⟨h1,h2,_⟩:=(nF hs).1 hi;have hv':=hv i (by rw [← hr];exact (w8 hs hd).1 hi);split at hv'
  case h_2=>exact hv'.elim
  rename_i o ho;refine aB6 hT hC hY r ho hv' I fun ι e h nx a w hk J=>?_;have hset:=xE.set (listed:=listed) (i:=i) (by omega);refine ih _ (i::done) ι e h nx a w (by simp [hs]) (fun j=>?_) (by have:=y5 h1 hs h2;omega) hk J;rw [hset];unfold GK;rw [hd j,List.mem_cons]
theorem PT (hT:cL P T)(hC:bC P C)(hY:eO P Y)(hm:P.follows .mixedOrders=true){ι:Nat→Loc}{env:List (Nat × Value)}{h:Heap}{nx:Nat}{a:Act}{w:World}(I:Inv B w0 ιb nxb tn ds ι env h nx a w)
  (hl:vany aF T C Y tn ops.toList K ops.size [] env h nx) (r:Option Nat) {id:Nat} {Q:Exit→Act→World→Prop} (hQ:∀ ι env h nx a w,K env h nx→Inv B w0 ιb nxb tn ds ι env h nx a w→Q .normal a w) :
  (Code.region id ops true).wpIn (Fr r) 0 P Q a w:=by
 refine wpIn_region_any hm ?_;have H:=I.heap.drawn (w.drawn+1);have hb:gF B w { w with drawn:=w.drawn+1 }:=⟨rfl,rfl,rfl,Nat.le_refl _,fun _ _=>rfl,Nat.le_succ _⟩;have hno:∀ i,¬ xE (Array.replicate ops.size false) i:=by
  intro i;unfold xE;by_cases h:i<ops.size <;> simp [h]
 refine aFE hT hC hY r hQ ops.size _ [] ι env h nx a _ (by simp) (fun i=>⟨fun h=>absurd h (hno i),fun h=>by cases h⟩) ?_ hl ⟨I.env,H,I.below.trans hb,I.old,I.le,I.size,I.defers⟩;unfold left;exact Nat.le_trans (List.length_filter_le _ _) (by simp)
end
def G9 (F:KS→KS)(n:Nat):KS:=@Nat.rec (fun _=>KS) (fun _ _ _=>False) (fun _ ih e h nx=>F ih e h nx) n
inductive LM where
 |fuel (n:Nat)
 |inv (b:Nat)
def LM.low:LM→Nat→Prop
 |.fuel _,_=>True
 |.inv b,n=>n≤b
def r5 (b:Nat)(I:KS):KS:=fun e h nx=>∃ e0 h0 n0 ρ,I e0 h0 n0∧kV b ρ e0 h0 n0 e h nx
def aDi (M:LM)(F:KS→KS):KS:=fun e h nx =>
 match M with
 |.fuel n=>G9 F n e h nx
 |.inv b=>∃ I:Nat→KS,(∃ n,r5 b (I n) e h nx)∧∀ n e h nx,I n e h nx→F (fun e h nx=>∃ m,m<n∧r5 b (I m) e h nx) e h nx
def AP (A:Ar)(T:cQ)(C:VC)(Y:VY)(tn:Nat)(ops:List Oper)(K:KS):Nat→List Nat→KS
 |0,_=>K
 |n+1,done=>fun e h nx=>match eG ops done ops 0 with
  |[]=>K e h nx
  |j::_=>(match eL ops j with|some o=>lZ A T C Y tn ops o e h nx (AP A T C Y tn ops K n (j::done))|none=>False)
theorem KB {A:Ar}{T:cQ}{C:VC}{Y:VY}(hC:dS C)(hY:dS Y){tn:Nat}{ops:List Oper}{o:Oper}{e:List (Nat × Value)}{h:Heap}{nx:Nat}:lL (lZ A T C Y tn ops o e h nx):=by
 show lL (fun K=>lZ A T C Y tn ops o e h nx K);unfold lZ
 exact xO (F:=fun e K=>pD A T C Y e h nx o.op fun v h' nx'=>dZ tn e o.dst v fun e'=>K e' h' nx') (G:=fun e K=>dZ tn e o.dst undef fun e'=>K e' h nx)
  (fun e=>A9 (F:=fun v h' nx' K=>dZ tn e o.dst v fun e'=>K e' h' nx') (DT hC hY) fun v h' nx'=>oI (F:=fun e' K=>K e' h' nx') fun e'=>nB)
  (fun e=>oI (F:=fun e' K=>K e' h nx) fun e'=>nB)
theorem xI {A:Ar}{T:cQ}{C:VC}{Y:VY}(hC:dS C)(hY:dS Y){tn:Nat}{ops:List Oper}:∀ n done e h nx,lL (fun K=>AP A T C Y tn ops K n done e h nx)
 |0,_,e,h,nx=>nB
 |n+1,done,e,h,nx=>by
  intro K hl;simp only [AP] at hl ⊢;split at hl
  ·exact⟨e,h,nx,hl,fun K' q=>q⟩
  split at hl
  case h_2=>exact hl.elim
  rename_i o ho;obtain⟨e1,h1,n1,q1,q2⟩:=KB hC hY _ hl;obtain⟨e2,h2,n2,q3,q4⟩:=xI hC hY n _ e1 h1 n1 K q1;exact⟨e2,h2,n2,q3,fun K' q=>q2 _ (q4 K' q)⟩
def O1 (A:Ar)(T:cQ)(C:VC)(Y:VY)(tn:Nat)(M:LM)(ops:Array Oper):List (Nat × Value)→Heap→Nat→KS→Prop:=fun e h nx K =>
 match M with
 |.fuel _=>AP A T C Y tn ops.toList (fun _ _ _=>∃ e0 h0 n0,vany A T C Y tn ops.toList (r5 nx fun e' h' n'=>e'=e0∧h'=h0∧n'=n0) ops.size [] e h nx∧K e0 h0 n0) ops.size [] e h nx
 |.inv b=>∃ I:KS,vany A T C Y tn ops.toList (r5 b I) ops.size [] e h nx∧∀ e h nx,I e h nx→K e h nx
abbrev VR:=Operand→Array Tmp→Code→Code→KS→(Nat→KS)→KS→KS
def gL (A:Ar)(T:cQ)(C:VC)(Y:VY)(tn:Nat)(PL:Nat→Option fB)(M:LM)(R:VR)(c:Code):KS→(Nat→KS)→KS→KS :=
 @Code.rec (fun _=>KS→(Nat→KS)→KS→KS) (fun kn _ _=>kn)
  (fun id ops draw kn _ _ e h nx=>match draw with
   |false=>yQ A T C Y tn ops.toList ops.toList e h nx kn
   |true=>(match PL id with|some p=>oV A T C Y tn ops.toList p e h nx kn|none=>O1 A T C Y tn M ops e h nx kn))
  (fun _ _ iha ihb kn kx kr=>iha (ihb kn kx kr) kx kr)
  (fun c _ _ iht ihf kn kx kr e h nx=>match cK e c with
   |some (.bool b)=>br b (fun _=>iht kn kx kr e h nx) (fun _=>ihf kn kx kr e h nx)
   |_=>False)
  (fun id _ ih kn kx kr=>ih kn (fun j=>match Nat.beq j id with|true=>kn|false=>kx j) kr)
  (fun _ ih _ kx kr=>aDi M (fun k=>ih k kx kr))
  (fun g ps as bd _ _ kn kx kr=>R g ps as bd kn kx kr)
  (fun id _ kx _=>kx id)
  (fun _ ih kn kx kr=>ih kn kx kr)
  (fun _ kn _ _=>kn)
  (fun _ _ _ _ _ _ _=>False)
  (fun _ _ kr=>kr)
  (fun _ _ _ _ _ _ _=>False) c
section
variable {A:Ar}{T:cQ}{C:VC}{Y:VY}{tn:Nat}{PL:Nat→Option fB}{M:LM}{R:VR}{kn kr:KS}{kx:Nat→KS}{e:List (Nat × Value)}{h:Heap}{nx:Nat}
theorem fT {id:Nat}{ops:Array Oper}{draw:Bool}:gL A T C Y tn PL M R (.region id ops draw) kn kx kr e h nx=match draw with
 |false=>yQ A T C Y tn ops.toList ops.toList e h nx kn
 |true=>(match PL id with|some p=>oV A T C Y tn ops.toList p e h nx kn|none=>O1 A T C Y tn M ops e h nx kn):=rfl
theorem jW {c:Operand}{t f:Code}:gL A T C Y tn PL M R (.cond c t f) kn kx kr e h nx=match cK e c with
 |some (.bool b)=>br b (fun _=>gL A T C Y tn PL M R t kn kx kr e h nx) (fun _=>gL A T C Y tn PL M R f kn kx kr e h nx)
 |_=>False:=rfl
theorem PX {id:Nat}{b:Code}:gL A T C Y tn PL M R (.block id b) kn kx kr e h nx=gL A T C Y tn PL M R b kn (fun j=>match Nat.beq j id with|true=>kn|false=>kx j) kr e h nx:=rfl
theorem qX {b:Code}:gL A T C Y tn PL M R (.loop b) kn kx kr e h nx=aDi M (fun k=>gL A T C Y tn PL M R b k kx kr) e h nx:=rfl
end
def cR (PL:Nat→Option fB):Code→Bool
 |.region id ops true=>(match PL id with|some p=>UC ops p|none=>true)
 |.seq a b=>cR PL a&&cR PL b
 |.cond _ a b=>cR PL a&&cR PL b
 |.block _ b=>cR PL b
 |.loop b=>cR PL b
 |.scope b=>cR PL b
 |_=>true
def BR (b:Nat):Deferred:={ target:=.collected b,args:=#[] }
def Marks (B0 B:Nat)(w:World)(ds:List Deferred):Prop:=∃ bs:List Nat,ds=bs.map BR∧bs.Nodup∧∀ b∈bs,B0≤b∧b<B∧w.heap[b]? = some (.deferred (some []))
def rA (B0:Nat)(w0:World)(ι0:Nat→Loc)(nx0 tn:Nat)(ι:Nat→Loc)(env:List (Nat × Value))(h:Heap)(nx:Nat)(a:Act)(w:World):Prop :=
 ∃ B w1 ι1 nx1 ds,B0≤B∧gF B0 w0 w1∧(∀ k,k<nx0→ι1 k=ι0 k)∧nx0≤nx1∧Marks B0 B w1 ds∧Inv B w1 ι1 nx1 tn ds ι env h nx a w
section
variable {P:Program}{T:cQ}{C:VC}{Y:VY}{B0:Nat}{w0:World}{ι0:Nat→Loc}{nx0 tn:Nat}{PL:Nat→Option fB}{M:LM}{R:VR}
structure Ends (B0:Nat) (w0:World) (ι0:Nat→Loc) (nx0 tn:Nat) (kn:KS) (kx:Nat→KS) (kr:KS) (Q:Exit→Act→World→Prop):Prop where
 n:∀ ι e h nx a w,kn e h nx→rA B0 w0 ι0 nx0 tn ι e h nx a w→Q .normal a w
 x:∀ id ι e h nx a w,kx id e h nx→rA B0 w0 ι0 nx0 tn ι e h nx a w→Q (.exit id) a w
 r:∀ ι e h nx a w,kr e h nx→rA B0 w0 ι0 nx0 tn ι e h nx a w→Q .ret a w
def DY (P:Program)(r:Option Nat)(tn:Nat)(R:VR):Prop:=∀ g ps as bd kn kx kr e h nx,R g ps as bd kn kx kr e h nx→∀ B0 w0 ι0 nx0 Q,Ends B0 w0 ι0 nx0 tn kn kx kr Q→∀ ι a w,rA B0 w0 ι0 nx0 tn ι e h nx a w →
 (Code.rangeFunc g ps as bd).wpIn (Fr r) 0 P Q a w
theorem kC {b:Frame}{a:Act}{k:List Item}{cs:List Frame}{w:World}{c:Code}:step P (lone (b.atR a (.code (.scope c)::k)) cs w)=.next (lone (b.atR a (.code c::.inScope c::k)) cs w) :=
 step_lone_go (by simp [stepG,stepG.exec,Frame.atR])
theorem IN {b:Frame}{a:Act}{k:List Item}{cs:List Frame}{w:World}{c:Code}:step P (lone (b.atR a (.inScope c::k)) cs w)=.next (lone (b.atR a k) cs w) :=
 step_lone_go (by simp [stepG,stepG.exec,Frame.atR])
theorem vP {F:Fence}{n:Nat}{c:Code}{Q:Exit→Act→World→Prop}{a:Act}{w:World}(h:c.wpIn F n P (fun e a w=>(∀ l,e≠.goto l)∧Q e a w) a w):(Code.scope c).wpIn F n P Q a w:=by
 intro b k cs hro hb hr;have h0:(lone (b.atR a (.code (.scope c)::k)) cs w).fenced P F:=fenced_calm hb hr rfl;obtain⟨e,a₁,w₁,⟨hg,hq⟩,harr⟩:=h b (.inScope c::k) cs hro hb hr;cases e with
 |normal=>exact⟨.normal,a₁,w₁,hq,.head h0 kC (StepsIn.trans harr (.one (fenced_calm hb hr rfl) IN))⟩
 |exit id =>
  have hx:exitTo id (.inScope c::k)=exitTo id k:=by simp [exitTo]
  exact⟨.exit id,a₁,w₁,hq,fun k' hk=>.head h0 kC (harr.1 k' (by rw [hx];exact hk)),
   fun hr' hk=>let ⟨k₁,h1,h2⟩:=harr.2 hr' (by rw [hx];exact hk);⟨k₁,h1,.head h0 kC h2⟩⟩
 |goto l=>exact absurd rfl (hg l)
 |ret=>exact⟨_,a₁,w₁,hq,.of_steps (.one h0 kC) harr⟩
 |panic ch=>exact⟨_,a₁,w₁,hq,.of_steps (.one h0 kC) harr⟩
 |outgrown=>exact⟨_,a₁,w₁,hq,.of_steps (.one h0 kC) harr⟩
theorem rA.aE1 {ι:Nat→Loc}{e:List (Nat × Value)}{h:Heap}{nx:Nat}{a:Act}{w:World}{b:Nat}{I:KS}(J:rA B0 w0 ι0 nx0 tn ι e h nx a w)(hb:nx0≤b)(hi:r5 b I e h nx):∃ ι' e' h' nx',I e' h' nx'∧rA B0 w0 ι0 nx0 tn ι' e' h' nx' a w:=by
 obtain⟨e',h',nx',ρ,hI,r⟩:=hi;obtain⟨B,w1,ι1,nx1,ds,h1,h2,h3,h4,h5,J⟩:=J;refine⟨fun k=>ι (ρ k),e',h',nx',hI,B,w1,ι0,nx0,ds,h1,h2,fun _ _=>rfl,Nat.le_refl _,h5,r.aKT J.env,r.aJi J.heap,J.below,fun k hk=>?_,Nat.le_trans hb r.le,J.size,J.defers⟩;rw [r.fix k (Nat.lt_of_lt_of_le hk hb)];exact (J.old k (Nat.lt_of_lt_of_le hk h4)).trans (h3 k hk)
theorem least {p:Nat→Prop}(h:∃ n,p n):∃ m,p m∧∀ k,p k→m≤k:=by
 obtain⟨n,hn⟩:=h
 induction n using Nat.strongRecOn with
 |_ n ih =>
  by_cases hk:∃ k,p k∧k<n
  ·obtain⟨k,h1,h2⟩:=hk;exact ih k h2 h1
  exact⟨n,hn,fun k h1=>Nat.le_of_not_lt fun h2=>hk ⟨k,h1,h2⟩⟩
theorem yP {r:Option Nat}{c:Code}{Q:Exit→Act→World→Prop}{a:Act}{w:World}{I:Nat→Act→World→Prop}{n:Nat}(h₀:I n a w)
  (round:∀ n a w,I n a w→c.wpIn (Fr r) 0 P (Exit.then (fun a' w'=>∃ m,m<n∧I m a' w') Q) a w):(Code.loop c).wpIn (Fr r) 0 P Q a w:=by
 classical
 refine wpIn_loop (fun a w=>∃ n,I n a w) (fun a w=>if h:∃ n,I n a w then Classical.choose (least h) else 0) ⟨n,h₀⟩ fun a w h=>?_;have hs:=Classical.choose_spec (least h);refine Code.wpIn_mono (fun e a' w' hq=>?_) (round _ a w hs.1);cases e <;> try exact hq
 obtain⟨m,hm,hI⟩:=hq;refine⟨⟨m,hI⟩,?_⟩;have h':∃ n,I n a' w':=⟨m,hI⟩;simp only [dif_pos h',dif_pos h];exact Nat.lt_of_le_of_lt ((Classical.choose_spec (least h')).2 m hI) hm
end
section
variable {P:Program}{T:cQ}{C:VC}{Y:VY}{tn:Nat}{PL:Nat→Option fB}{M:LM}{R:VR}
def U2 (R:VR):Prop:=∀ g ps as bd (kn kn':KS) (kx kx':Nat→KS) (kr kr':KS) e h nx,(∀ e h nx,kn e h nx→kn' e h nx)→(∀ id e h nx,kx id e h nx→kx' id e h nx)→(∀ e h nx,kr e h nx→kr' e h nx)→R g ps as bd kn kx kr e h nx→R g ps as bd kn' kx' kr' e h nx
theorem GD (hT:cL P T)(hC:bC P C)(hY:eO P Y)(hD:dS C)(hDY:dS Y)(hm:P.follows .mixedOrders=true)(r:Option Nat)(hR:DY P r tn R)(hRm:U2 R) :
  ∀ (c:Code),cR PL c=true→∀ (kn:KS) (kx:Nat→KS) (kr:KS) e h nx,gL aF T C Y tn PL M R c kn kx kr e h nx→∀ B0 w0 ι0 nx0 Q,M.low nx0→Ends B0 w0 ι0 nx0 tn kn kx kr Q→∀ ι a w,rA B0 w0 ι0 nx0 tn ι e h nx a w →
    c.wpIn (Fr r) 0 P Q a w:=by
 intro c
 induction c with
 |skip=>exact fun _ kn kx kr e h nx hl B0 w0 ι0 nx0 Q hM E ι a w I=>wpIn_skip (E.n ι e h nx a w hl I)
 |region id ops draw =>
  intro hp kn kx kr e h nx hl B0 w0 ι0 nx0 Q hM E ι a w I;obtain⟨B,w1,ι1,nx1,ds,h1,h2,h3,h4,h5,J⟩:=I;simp only [fT,jW,qX] at hl;cases draw with
  |false =>
   refine wpIn_region_list (LP hT hC hY r ops.toList ι e h nx a w hl J fun ι' e' h' nx' a' w' hk J'=>?_);exact E.n ι' e' h' nx' a' w' hk ⟨B,w1,ι1,nx1,ds,h1,h2,h3,h4,h5,J'⟩
  |true =>
   simp only [cR] at hp;simp only at hl;cases hpl:PL id with
   |none =>
    rw [hpl] at hl;simp only [O1] at hl;cases M with
    |fuel n =>
     obtain⟨ea,ha,na,⟨e0,h0,n0,hi,hK⟩,hr⟩:=xI hD hDY _ _ _ _ _ _ hl;refine PT hT hC hY hm J hi r fun ι' e' h' nx' a' w' hk J'=>?_;obtain⟨ι2,e2,h2',nx2,⟨rfl,rfl,rfl⟩,k2⟩:=rA.aE1 ⟨B,w1,ι1,nx1,ds,h1,h2,h3,h4,h5,J'⟩ (Nat.le_trans h4 J.le) hk;exact E.n ι2 _ _ _ a' w' hK k2
    |inv b =>
     obtain⟨I,hi,hI⟩:=hl;refine PT hT hC hY hm J hi r fun ι' e' h' nx' a' w' hk J'=>?_;obtain⟨ι2,e2,h2',nx2,k1,k2⟩:=rA.aE1 ⟨B,w1,ι1,nx1,ds,h1,h2,h3,h4,h5,J'⟩ hM hk;exact E.n ι2 e2 h2' nx2 a' w' (hI _ _ _ k1) k2
   |some p =>
    rw [hpl] at hl hp;exact S6 hT hC hY hD hm (RB hp) J hl r fun ι' e' h' nx' a' w' hk J'=>E.n ι' e' h' nx' a' w' hk ⟨B,w1,ι1,nx1,ds,h1,h2,h3,h4,h5,J'⟩
 |seq a b iha ihb =>
  intro hp kn kx kr e h nx hl B0 w0 ι0 nx0 Q hM E ι ac w I;simp only [cR,Bool.and_eq_true] at hp;refine wpIn_seq (iha hp.1 _ kx kr e h nx hl B0 w0 ι0 nx0 _ hM ⟨fun ι e h nx a w hk I=>?_,fun id ι e h nx a w hk I=>?_,fun ι e h nx a w hk I=>?_⟩ ι ac w I)
  ·exact ihb hp.2 kn kx kr e h nx hk B0 w0 ι0 nx0 Q hM E ι a w I
  ·exact E.x id ι e h nx a w hk I
  exact E.r ι e h nx a w hk I
 |cond c t f iht ihf =>
  intro hp kn kx kr e h nx hl B0 w0 ι0 nx0 Q hM E ι a w I;simp only [cR,Bool.and_eq_true] at hp;simp only [fT,jW,qX] at hl;split at hl
  case h_2=>exact hl.elim
  rename_i b hb;have hc:a.eval c=.bool b:=by
   obtain⟨B,w1,ι1,nx1,ds,h1,h2,h3,h4,h5,J⟩:=I;rw [(J.env.cK hb).1,rD]
  rcases nW hl with ⟨rfl,hl⟩|⟨rfl,hl⟩
  ·exact wpIn_cond_true hc (iht hp.1 kn kx kr e h nx hl B0 w0 ι0 nx0 Q hM E ι a w I)
  exact wpIn_cond_false hc (ihf hp.2 kn kx kr e h nx hl B0 w0 ι0 nx0 Q hM E ι a w I)
 |block id b ih =>
  intro hp kn kx kr e h nx hl B0 w0 ι0 nx0 Q hM E ι a w I;refine wpIn_block (ih hp _ _ kr e h nx hl B0 w0 ι0 nx0 (Exit.inBlock id Q) hM ⟨E.n,fun j ι e h nx a w hk I=>?_,E.r⟩ ι a w I);cases hb:Nat.beq j id with
  |true =>
   rw [hb] at hk;simp only [Exit.inBlock,if_pos (beq_true hb)];exact E.n ι e h nx a w hk I
  |false =>
   rw [hb] at hk;simp only [Exit.inBlock,if_neg (beq_false hb)];exact E.x j ι e h nx a w hk I
 |loop b ih =>
  intro hp kn kx kr e h nx hl B0 w0 ι0 nx0 Q hM E ι a w I;simp only [fT,jW,qX] at hl;cases M with
  |fuel n0 =>
   refine yP (I:=fun n a w=>∃ ι e h nx,G9 (fun k=>gL aF T C Y tn PL (.fuel n0) R b k kx kr) n e h nx∧rA B0 w0 ι0 nx0 tn ι e h nx a w) (n:=n0) ⟨ι,e,h,nx,hl,I⟩ fun m a w hi=>?_;obtain⟨ι,e,h,nx,h1,I⟩:=hi;cases m with
   |zero=>exact h1.elim
   |succ m =>
    refine ih hp (G9 (fun k=>gL aF T C Y tn PL (.fuel n0) R b k kx kr) m) kx kr e h nx h1 B0 w0 ι0 nx0 (Exit.then (fun a' w'=>∃ m',m'<m+1∧∃ ι e h nx,G9 (fun k=>gL aF T C Y tn PL (.fuel n0) R b k kx kr) m' e h nx∧rA B0 w0 ι0 nx0 tn ι e h nx a' w') Q) hM ⟨fun ι e h nx a w hk I=>?_,fun id ι e h nx a w hk I=>E.x id ι e h nx a w hk I,fun ι e h nx a w hk I=>E.r ι e h nx a w hk I⟩ ι a w I;exact⟨m,Nat.lt_succ_self m,ι,e,h,nx,hk,I⟩
  |inv bs =>
   obtain⟨J,⟨n,h0⟩,hJ⟩:=hl;obtain⟨ι',e',h',nx',h0',I'⟩:=I.aE1 hM h0;refine yP (I:=fun n a w=>∃ ι e h nx,J n e h nx∧rA B0 w0 ι0 nx0 tn ι e h nx a w) (n:=n) ⟨ι',e',h',nx',h0',I'⟩ fun n a w hi=>?_;obtain⟨ι,e,h,nx,h1,I⟩:=hi;refine ih hp _ kx kr e h nx (hJ n e h nx h1) B0 w0 ι0 nx0 (Exit.then (fun a' w'=>∃ m,m<n∧∃ ι e h nx,J m e h nx∧rA B0 w0 ι0 nx0 tn ι e h nx a' w') Q) hM ⟨fun ι e h nx a w hk I=>?_,fun id ι e h nx a w hk I=>E.x id ι e h nx a w hk I,fun ι e h nx a w hk I=>E.r ι e h nx a w hk I⟩ ι a w I;obtain⟨m,hm,hk⟩:=hk;obtain⟨ι',e',h',nx',hk',I'⟩:=I.aE1 hM hk;exact⟨m,hm,ι',e',h',nx',hk',I'⟩
 |rangeFunc g ps as bd _ _=>exact fun _ kn kx kr e h nx hl B0 w0 ι0 nx0 Q hM E ι a w I=>hR g ps as bd kn kx kr e h nx hl B0 w0 ι0 nx0 Q E ι a w I
 |exit id=>exact fun _ kn kx kr e h nx hl B0 w0 ι0 nx0 Q hM E ι a w I=>wpIn_exit (E.x id ι e h nx a w hl I)
 |ret=>exact fun _ kn kx kr e h nx hl B0 w0 ι0 nx0 Q hM E ι a w I=>wpIn_ret (E.r ι e h nx a w hl I)
 |label l=>exact fun _ kn kx kr e h nx hl B0 w0 ι0 nx0 Q hM E ι a w I=>wpIn_label (E.n ι e h nx a w hl I)
 |scope b ih =>
  intro hp kn kx kr e h nx hl B0 w0 ι0 nx0 Q hM E ι a w I;refine vP (ih hp kn kx kr e h nx hl B0 w0 ι0 nx0 _ hM ⟨fun ι e h nx a w hk I=>⟨fun l he=>(by cases he),E.n ι e h nx a w hk I⟩,fun id ι e h nx a w hk I=>⟨fun l he=>(by cases he),E.x id ι e h nx a w hk I⟩,fun ι e h nx a w hk I=>⟨fun l he=>(by cases he),E.r ι e h nx a w hk I⟩⟩ ι a w I)
 |goto l=>exact fun _ _ _ _ _ _ _ hl=>hl.elim
 |refuse s=>exact fun _ _ _ _ _ _ _ hl=>hl.elim
end
def fM (T:cQ)(e:List (Nat × Value))(h:Heap)(l:List ResultVar):(List Value→Prop)→Prop :=
 @List.rec ResultVar (fun _=>(List Value→Prop)→Prop) (fun K=>K [])
  (fun x _ ih K=>match x with
   |.tmp t=>on (look e t) fun v=>ih fun l=>K (v::l)
   |.cell a t=>on (look e a) fun p=>sR T h t p fun v=>ih fun l=>K (v::l)) l
theorem mR {T:cQ}{e:List (Nat × Value)}{h:Heap}{t:Nat}{r:List ResultVar}{K:List Value→Prop}:fM T e h (.tmp t::r) K=on (look e t) fun v=>fM T e h r fun l=>K (v::l):=rfl
theorem lR {T:cQ}{e:List (Nat × Value)}{h:Heap}{a:Nat}{t:TypeId}{r:List ResultVar}{K:List Value→Prop}:fM T e h (.cell a t::r) K=on (look e a) fun p=>sR T h t p fun v=>fM T e h r fun l=>K (v::l):=rfl
def JT:List Value→Bool
 |[]=>true
 |.tuple _::_=>false
 |_::r=>JT r
def DD (T:cQ)(fn:Func)(K:KE):KS:=fun e h nx=>fM T e h fn.results.toList fun l =>
 match l with
 |[v]=>K v h nx
 |l=>match JT l with|true=>K (.tuple l.toArray) h nx|false=>False
def BK (tmps:Array Value):ResultVar→Sem Value
 |.tmp t=>pure (tmps.getD t undef)
 |.cell b t=>do loadVar t (← asAddr (tmps.getD b undef))
theorem SX (fn:Func)(tmps:Array Value):results fn tmps=(do let vs ← fn.results.mapM (BK tmps);pure (if h:vs.size=1 then vs[0] else .tuple vs)):=by
 unfold results;congr 1
section
variable {P:Program}{T:cQ}
theorem r9 (hT:cL P T){ι:Nat→Loc}{B nx:Nat}{e:List (Nat × Value)}{h:Heap}{a:Act}(he:c9 ι nx e a){w:World}(H:aQ ι B h nx w):∀ (l:List ResultVar) (K:List Value→Prop),fM T e h l K →
  ∃ vs,K vs∧vs.length=l.length∧(∀ v∈vs,eX ι nx v)∧∀ w',aQ ι B h nx w'→(l.mapM (BK a.tmps)).run P w'=.ok (vs.map (tr ι)) w'
 |[],K,hl=>⟨[],hl,rfl,by simp,fun w' _=>by simp⟩
 |.tmp t::r,K,hl=>by
  simp only [mR,lR] at hl;obtain⟨v,hv,hl⟩:=c7 hl;obtain⟨vs,h1,h2,h3,h4⟩:=r9 hT he H r _ hl;obtain⟨e1,e2⟩:=he t v hv;refine⟨v::vs,h1,by simp [h2],fun u hu=>?_,fun w' H'=>?_⟩
  ·rcases List.mem_cons.1 hu with rfl|hu
   ·exact e2
   exact h3 u hu
  have:=h4 w' H';have h6:(BK a.tmps (.tmp t)).run P w'=.ok (tr ι v) w':=(by simp [BK,e1]);simp only [List.mapM_cons,Sem.run_bind,Sem.run_pure,Result.andThen_ok,this,h6,List.map_cons]
 |.cell b t::r,K,hl=>by
  simp only [mR,lR] at hl;obtain⟨p,hp,hl⟩:=c7 hl;obtain⟨v,hk,hv,hrun⟩:=Q5 (P:=P) hT hl H;obtain⟨vs,h1,h2,h3,h4⟩:=r9 hT he H r _ hk;obtain⟨e1,e2⟩:=he b p hp;refine⟨v::vs,h1,by simp [h2],fun u hu=>?_,fun w' H'=>?_⟩
  ·rcases List.mem_cons.1 hu with rfl|hu
   ·exact lW hv
   exact h3 u hu
  have:=h4 w' H';have e3:a.tmps.getD b undef=tr ι p:=(by simp [e1]);have h5:=hrun w' H';have hptr:∃ ad,tr ι p=.pointer (some ad):=by
   unfold sR at hl;split at hl
   ·rename_i k o;simp only [fD];split at hl
    ·rename_i ti wr g sz cs ht hlk;have hsc:k<nx∧(ι k).gR=true:=e2;cases hι:ι k with
     |nil q=>rw [hι] at hsc;cases hsc.2
     |lay b o e=>exact⟨_,rfl⟩
    exact hl.elim
   exact hl.elim
  obtain⟨ad,had⟩:=hptr;rw [had] at h5;simp only [Instr.loadAt,Instr.sureAddr,Sem.run_bind,Sem.run_pure,Result.andThen_ok] at h5;have h6:(BK a.tmps (.cell b t)).run P w'=.ok (tr ι v) w':=by
   simp only [BK,e3,had,asAddr,Sem.run_bind,Sem.run_pure,Result.andThen_ok,h5]
  simp only [List.mapM_cons,Sem.run_bind,Sem.run_pure,Result.andThen_ok,h6,this,List.map_cons]
theorem aE4 (hT:cL P T){fn:Func}{K:KE}{ι:Nat→Loc}{B nx:Nat}{e:List (Nat × Value)}{h:Heap}{a:Act}(he:c9 ι nx e a){w:World}(H:aQ ι B h nx w)(hl:DD T fn K e h nx) :
  ∃ v,K v h nx∧eX ι nx v∧∀ w',aQ ι B h nx w'→(results fn a.tmps).run P w'=.ok (tr ι v) w':=by
 unfold DD at hl;obtain⟨vs,h1,h2,h3,h4⟩:=r9 hT he H _ _ hl;have hres:∀ w',aQ ι B h nx w'→(results fn a.tmps).run P w'=.ok (if h:(vs.map (tr ι)).toArray.size=1 then (vs.map (tr ι)).toArray[0] else .tuple (vs.map (tr ι)).toArray) w':=by
  intro w' H';have:=h4 w' H';rw [SX,Array.mapM_eq_mapM_toList];simp only [Sem.run_bind,Sem.run_map,this,Result.andThen_ok,Sem.run_pure]
 split at h1
 ·rename_i v;exact⟨v,h1,h3 v (by simp),fun w' H'=>by rw [hres w' H'];simp⟩
 rename_i hne;split at h1
 case h_2=>exact h1.elim
 rename_i hnt;have hA:∀ v∈vs,kU ι nx v:=by
  clear h4 hres hne h2 hl h1
  induction vs with
  |nil=>simp
  |cons x r ih =>
   intro v hv;have hx:(∀ c,x≠.tuple c)∧JT r=true:=by
    cases x <;> first|exact⟨fun c e=>(by cases e),hnt⟩|(simp [JT] at hnt)
   rcases List.mem_cons.1 hv with rfl|hv
   ·exact E4 hx.1 (h3 v (by simp))
   exact ih (fun u hu=>h3 u (by simp [hu])) hx.2 v hv
 refine⟨_,h1,fun v hv=>hA v (by simpa using hv),fun w' H'=>?_⟩;rw [hres w' H'];have hlen:vs.length≠1:=by
  intro e;obtain⟨v,rfl⟩:=List.length_eq_one_iff.1 e;exact hne v rfl
 rw [dif_neg (by simpa using hlen)];simp only [tr];congr 2;apply Array.ext';simp only [List.map_toArray];apply List.map_congr_left;intro v hv;exact u7 (hA v hv)
end
def gE (h:Heap)(nx:Nat):Heap:=eI (rem (rem h (nx+1)) nx)
def sP (C:VC)(f tn:Nat):VR:=fun g ps as bd kn kx kr e h nx =>
 on (cK e g) fun gv=>match gv with
  |.func (.func q) first cap=>(match first.toList,lC cap.toList with
   |[],true=>C q (.func (.yield (nx+1)) #[] #[]::cap.toList)
    (cU (cU h nx .deferred) (nx+1) (.loop { state:=.ready,pending:=none,fn:=f,env:=e,tn:=tn,params:=ps.toList,assign:=as,body:=bd,defers:=nx })) (nx+2) fun _ h' nx' =>
    (match look h' (nx+1),look h' nx with
    |some (.loop l),some .deferred=>(match l.state,l.pending with
     |.busy,_=>False
     |_,none=>kn e (gE h' nx) nx'
     |_,some (.exit id)=>kx id e (gE h' nx) nx'
     |_,some .ret=>kr e (gE h' nx) nx'
     |_,_=>False)
    |_,_=>False)
   |_,_=>False)
  |_=>False
def uO:VR:=fun _ _ _ _ _ _ _ _ _ _=>False
def sZ (tn:Nat):List (Nat × Value)→List Nat→List Value→Option (List (Nat × Value))
 |e,[],[]=>some e
 |e,t::ts,v::vs=>match Nat.blt t tn with|true=>sZ tn (put e t v) ts vs|false=>none
 |_,_,_=>none
def xX (q:Nat)(K:KE)(j:Option Code):KS:=fun _ h nx =>
 match look h q with
 |some (.loop l)=>K (.bool j.isNone) (xA h q (.loop { l with state:=if j.isNone then .ready else .done,pending:=j })) nx
 |_=>False
def rE (A:Ar)(T:cQ)(C:VC)(Y:VY)(PL:Nat→Nat→Option fB)(M:LM):VY:=fun q args h nx K =>
 match look h q with
 |some (.loop l)=>(match sZ l.tn l.env l.params args,cR (PL l.fn) l.assign&&cR (PL l.fn) l.body with
  |some e0,true=>gL A T C Y l.tn (PL l.fn) M uO l.assign (fun e1 h1 nx1 =>
   match look h1 q with
   |some (.loop l1)=>(match l1.state with
    |.ready=>gL A T C Y l.tn (PL l.fn) M uO l.body (xX q K none) (fun id=>xX q K (some (.exit id))) (xX q K (some .ret)) e1 (xA h1 q (.loop { l1 with state:=.busy })) nx1
    |_=>False)
   |_=>False) (fun _ _ _ _=>False) (fun _ _ _=>False) e0 h nx
  |_,_=>False)
 |_=>False
def rN:Nat→List Value→List (Nat × Value)
 |_,[]=>[]
 |i,v::r=>(i,v)::rN (i+1) r
def prune (n:Nat):Heap→Heap
 |[]=>[]
 |(k,o)::r=>match Nat.blt k n with|true=>(k,o)::prune n r|false=>prune n r
structure DC where
 A:Ar
 T:cQ
 FT:Nat→Option Func
 PL:Nat→Nat→Option fB
 PR:Nat→Bool
 X:Nat→Option (List Value→Heap→Nat→KE→Prop)
 M:Nat
def rS (c:DC)(M:Option Nat)(C:VC)(Y:VY):VC:=fun f args h nx K =>
 match c.X f with
 |some x=>x args h nx K
 |none=>match c.FT f with
  |none=>False
  |some fn=>(match fn.body,Nat.ble args.length fn.ntmps with
   |some b,true =>
    let fin:KS:=DD c.T fn fun v h' nx'=>K v h' nx'
    gL c.A c.T C Y fn.ntmps (c.PL f) (match M with|some n=>.fuel n|none=>.inv nx) (sP C f fn.ntmps) b fin (fun _ _ _ _=>False) fin (rN 0 args) h nx
   |_,_=>False)
def app:Heap→Heap→Heap
 |[],l=>l
 |x::r,l=>x::app r l
theorem gV (h l:Heap)(k:Nat):look (app h l) k=match look h k with|some o=>some o|none=>look l k:=by
 induction h with
 |nil=>rfl
 |cons x r ih =>
  obtain⟨j,o⟩:=x;simp only [app,aB];cases Nat.beq j k with
  |true=>rfl
  |false=>exact ih
def pJ (n:Nat)(g:Heap):Heap→Heap
 |[]=>[]
 |(k,o)::r=>match Nat.ble n k,look g k with
  |true,some (.cells true _ _ _)=>(k,o)::pJ n g r
  |true,some (.map _)=>(k,o)::pJ n g r
  |_,_=>pJ n g r
def frK (h:Heap)(nx:Nat)(K:KE):KE:=fun v h' nx'=>match gT v with
 |true=>K v h nx
 |false=>K v (app (pJ nx h' h') h) nx'
def frC (PR:Nat→Bool)(C:VC):VC:=fun f args h nx K=>match PR f with
 |true=>C f args (eI h) nx (frK h nx K)
 |false=>C f args h nx K
def sC (c:DC):Nat→Bool→VC
 |0,_=>fun _ _ _ _ _=>False
 |d+1,false=>frC c.PR (rS c (some c.M) (sC c d false) (sC c d true))
 |d+1,true=>rE c.A c.T (sC c d false) (sC c d true) c.PL (.fuel c.M)
section
variable {P:Program}{T:cQ}
theorem aQ.down {ι:Nat→Loc}{B B0 nx:Nat}{h:Heap}{w:World}(H:aQ ι B h nx w)(hB:B0≤B):aQ ι B0 h nx w:=by
 refine⟨fun k o hk=>?_,H.sep,H.low,Nat.le_trans hB H.size,H.sc⟩;have ho:=H.obj k o hk;cases hι:ι k with
 |nil p=>rw [hι] at ho;cases o <;> first|exact ho|exact ho.elim
 |lay b off e =>
  rw [hι] at ho;cases o with
  |cells wr g sz cs =>
   cases wr with
   |true=>exact⟨Nat.le_trans hB ho.1,ho.2⟩
   |false=>exact ho
  |map es=>exact⟨Nat.le_trans hB ho.1,ho.2⟩
  |loop l=>exact⟨Nat.le_trans hB ho.1,ho.2⟩
  |deferred=>exact⟨Nat.le_trans hB ho.1,ho.2⟩
  |zero=>exact ho
theorem aQ.taken {ι:Nat→Loc}{B nx:Nat}{h:Heap}{w:World}(H:aQ ι B h nx w){b:Nat}(hb:b<B){ds:Option (List Deferred)}(hd:w.heap[b]? = some (.deferred ds))(o:Obj) :
  aQ ι B h nx { w with heap:=w.heap.setIfInBounds b o }:=by
 have hother:∀ c,c≠b→(w.heap.setIfInBounds b o)[c]? = w.heap[c]? := fun c hc=>(by rw [Array.getElem?_setIfInBounds_ne (fun e=>hc e.symm)]);refine⟨fun k q hk=>?_,H.sep,H.low,by simpa using H.size,H.sc⟩;have hq:=H.obj k q hk;by_cases hkb:(ι k).D0=some b
 ·-- only what is read,and that is empty
  cases hι:ι k with
  |nil p=>rw [hι] at hkb;cases hkb
  |lay c off e =>
   have hcb:c=b:=(by rw [hι] at hkb;simpa [Loc.D0] using hkb);subst hcb;rw [hι] at hq;cases q with
   |cells wr g sz cs =>
    cases wr with
    |true=>have:=hq.1;omega
    |false =>
     refine⟨by simpa using hq.1,hq.2.1,fun i v hv=>?_⟩;have:=hq.2.2 i v hv;simp [World.cell?,hd] at this
   |map es=>have:=hq.1;omega
   |loop l=>have:=hq.1;omega
   |deferred=>have:=hq.1;omega
   |zero=>exact hq.elim
 exact hq.BP (fun c hc=>hother c (fun e=>hkb (e▸hc))) (by simp)
theorem zU {ι:Nat→Loc}{B B0 nx:Nat}{h:Heap}{fn:Func}{tmps:Array Value}{Rr:Ending→World→Prop}:∀ (bs:List Nat) (w:World),bs.Nodup→(∀ b∈bs,B0≤b∧b<B∧w.heap[b]? = some (.deferred (some [])))→aQ ι B h nx w →
  (∀ w',aQ ι B h nx w'→gF B0 w w'→∃ u,(results fn tmps).run P w'=.ok u w'∧Rr (.returned u) w')→LeavesInM Fence.wide 0 P fn tmps Rr (bs.map BR) .returning w
 |[],w,_,_,H,hR=>hR w H (gF.refl _ _)
 |b::bs,w,hn,hb,H,hR=>by
  rw [List.nodup_cons] at hn;obtain⟨h1,h2,h3⟩:=hb b (by simp);have hlt:=(Array.getElem?_eq_some_iff.1 h3).1;have hbel:gF B0 w { w with heap:=w.heap.setIfInBounds b (.deferred none) }:=⟨rfl,rfl,rfl,by simp,fun c hc=>by
   simp [Array.getElem?_setIfInBounds_ne (show b≠c by omega)],Nat.le_refl _⟩
  refine⟨by simp,.inl ⟨b,{ w with heap:=w.heap.setIfInBounds b (.deferred none) },rfl,?_,?_⟩⟩
  ·simp [Instr.takeDeferred,getObj,setObj,Sem.run,h3]
  refine zU bs _ hn.2 (fun c hc=>?_) (H.taken h2 h3 _) (fun w' H' hb'=>hR w' H' (hbel.trans hb'));obtain⟨k1,k2,k3⟩:=hb c (by simp [hc]);have hne:b≠c:=fun e=>hn.1 (e▸hc);exact⟨k1,k2,by simp [Array.getElem?_setIfInBounds_ne hne,k3]⟩
end
section
variable {P:Program}{T:cQ}{C:VC}{Y:VY}
theorem yK:∀ (l:List Value) (i t:Nat) (v:Value),look (rN i l) t=some v→i≤t∧l[t - i]? = some v
 |[],i,t,v,h=>by cases h
 |x::r,i,t,v,h=>by
  simp only [rN,aB] at h;split at h
  ·rename_i hb;have:=beq_true hb;subst this;injection h with h;subst h;exact⟨Nat.le_refl _,by simp⟩
  obtain⟨h1,h2⟩:=yK r (i+1) t v h;refine⟨by omega,?_⟩;rw [show t - i=(t - (i+1))+1 by omega];simpa using h2
theorem T0 {ι:Nat→Loc}{n:Nat}{args:List Value}(hs:∀ v∈args,eX ι n v){k:Nat}{ds:List Deferred}:c9 ι n (rN 0 args) { tmps:=(args.map (tr ι)).toArray++Array.replicate k undef,defers:=ds }:=by
 intro t v h;obtain⟨_,h2⟩:=yK args 0 t v h;rw [Nat.sub_zero] at h2;have hlt:=(List.getElem?_eq_some_iff.1 h2).1;refine⟨?_,hs v (List.mem_of_getElem? h2)⟩;rw [Array.getElem?_append_left (by simpa using hlt)];simp [h2]
theorem aFa (hT:cL P T)(hC:bC P C)(hY:eO P Y)(hD:dS C)(hDY:dS Y)(hm:P.follows .mixedOrders=true){f:FuncId}{fn:Func}{b:Code}(hf:P.funcs[f]? = some fn)(hb:fn.body=some b){nx:Nat}{PL:Nat→Option fB}(hp:cR PL b=true)
  {M:LM} (hM:M.low nx) {R:VR} (hR:DY P none fn.ntmps R) (hRm:U2 R) {args:List Value} (ha:args.length≤fn.ntmps) {h:Heap} {K K':KE} (hK:∀ v h' nx',K' v h' nx'→∃ h'',K v h'' nx'∧∀ k o,look h'' k=some o→look h' k=some o)
  (hl:gL aF T C Y fn.ntmps PL M R b (DD T fn K') (fun _ _ _ _=>False) (DD T fn K') (rN 0 args) h nx) {ι:Nat→Loc} {B:Nat} {w:World} (H:aQ ι B h nx w) (hs:∀ v∈args,eX ι nx v) :
  CallsIn Fence.wide 0 P f (args.map (tr ι)).toArray w (Ret B w ι nx K):=by
 refine callsIn_of_wp_marks hf hb trivial ?_ rfl;have hend:∀ ι' e h' nx' a w',DD T fn K' e h' nx'→rA B w ι nx fn.ntmps ι' e h' nx' a w'→LeavesInM Fence.wide 0 P fn a.tmps (Ret B w ι nx K) a.defers .returning w':=by
  intro ι' e h' nx' a w' hv I;obtain⟨B1,w1,ι1,nx1,ds,h1,h2,h3,h4,⟨bs,rfl,hnd,hbs⟩,J⟩:=I;rw [J.defers];obtain⟨v,k1,k2,k3⟩:=aE4 hT J.env J.heap hv;obtain⟨h'',k4,k5⟩:=hK v h' nx' k1;refine zU (B:=B1) (B0:=B) bs w' hnd (fun x hx=>?_) J.heap (fun w2 H2 hb2=>⟨_,k3 w2 H2,v,h'',nx',ι',k4,k2,(H2.down h1).sub k5,?_,fun k hk=>(J.old k (Nat.lt_of_lt_of_le hk h4)).trans (h3 k hk),Nat.le_trans h4 J.le,rfl⟩)
  ·obtain⟨q1,q2,q3⟩:=hbs x hx;exact⟨q1,q2,by rw [J.below.block x q2];exact q3⟩
  exact (h2.trans (J.below.mono h1)).trans hb2
 refine GD hT hC hY hD hDY hm none hR hRm b hp _ _ _ _ h nx hl B w ι nx _ hM ⟨?_,?_,?_⟩ ι _ w ?_
 ·exact fun ι' e h' nx' a w' hv I=>hend ι' e h' nx' a w' hv I
 ·exact fun id ι' e h' nx' a w' hv I=>hv.elim
 ·exact fun ι' e h' nx' a w' hv I=>hend ι' e h' nx' a w' hv I
 refine⟨B,w,ι,nx,[],Nat.le_refl _,gF.refl _ _,fun _ _=>rfl,Nat.le_refl _,⟨[],rfl,by simp,by simp⟩,T0 hs,H,gF.refl _ _,fun _ _=>rfl,Nat.le_refl _,?_,rfl⟩;simp;omega
end
section
variable {P:Program}{T:cQ}{C:VC}{Y:VY}
theorem o8 {w:World}{l:Nat}{r:Loop}(h:w.heap[l]? = some (.loop r)):(Instr.getLoop l).run P w=.ok r w:=by
 simp [Instr.getLoop,getObj,Sem.run,h]
theorem tZ {w:World}{l:Nat}{r:Loop}(h:w.heap[l]? = some (.loop r))(o:Obj):(setObj l o).run P w=.ok () { w with heap:=w.heap.setIfInBounds l o }:=by
 simp [setObj,Sem.run,h]
theorem YQ (hC:bC P C){f tn:Nat}:DY P none tn (sP C f tn):=by
 intro g ps as bd kn kx kr e h nx hl B0 w0 ι0 nx0 Q E ι a w I;obtain⟨B,w1,ι1,nx1,ds,h1,h2,h3,h4,⟨bs,hds,hnd,hbs⟩,J⟩:=I;unfold sP at hl;obtain⟨gv,hgv,hl⟩:=c7 hl;obtain⟨e1,e2⟩:=J.env.cK hgv;split at hl
 case h_2=>exact hl.elim
 rename_i q first cap;split at hl
 case h_2=>exact hl.elim
 rename_i hfirst hcap;obtain⟨first⟩:=first;simp only at hfirst;subst hfirst;refine wpIn_rangeFunc fun fnid _=>?_
 -- the records
 have H:=J.heap;have hA:=H.new (.deferred (some [])) .deferred ⟨H.size,(MapKept.heap_alloc w _).1⟩ trivial;generalize hι2:ins ι nx (.lay w.heap.size 0 0)=ι2 at hA;generalize hwA:w.alloc (.deferred (some []))=wA at hA;have hbA:gF w.heap.size w wA:=(by rw [← hwA];exact dK w _);have hi2:∀ k,k<nx→ι2 k=ι k:=fun k hk=>(by rw [← hι2];exact cG _ _ hk);have hmark:ι2 nx=.lay w.heap.size 0 0:=(by rw [← hι2];exact aZ _ _ _);let rec_:Loop:={ state:=.ready,pending:=none,fn:=fnid,tmps:=a.tmps,params:=ps,assign:=as,body:=bd,defers:=w.heap.size };let la:WS:={ state:=.ready,pending:=none,fn:=f,env:=e,tn:=tn,params:=ps.toList,assign:=as,body:=bd,defers:=nx };have hi3':∀ k,k<nx→ins ι2 (nx+1) (.lay wA.heap.size 0 0) k=ι k:=fun k hk=>(by rw [cG _ _ (by omega)];exact hi2 k hk);have hB:=hA.new (.loop rec_) (.loop la) (by
  refine⟨hA.size,rec_,(MapKept.heap_alloc wA _).1,rfl,rfl,trivial,J.size,fun t v hv=>?_,rfl,rfl,rfl,?_⟩
  ·obtain⟨k1,k2⟩:=J.env t v hv;rw [GO hi3' k2];exact k1
  show (ins ι2 (nx+1) (.lay wA.heap.size 0 0) nx).D0=some w.heap.size;rw [cG _ _ (by omega),hmark];rfl) ⟨fun t v hv=>qM (by omega) hi3' (J.env t v hv).2,by show nx<nx+1+1;omega⟩
 generalize hι3:ins ι2 (nx+1) (.lay wA.heap.size 0 0)=ι3 at hB hi3';generalize hwB:wA.alloc (.loop rec_)=wB at hB;have hbB:gF wA.heap.size wA wB:=(by rw [← hwB];exact dK wA _);have hl3:ι3 (nx+1)=.lay wA.heap.size 0 0:=(by rw [← hι3];exact aZ _ _ _);have hm3:ι3 nx=.lay w.heap.size 0 0:=(by rw [← hι3,cG _ _ (by omega)];exact hmark);have hwA1:w.heap.size<wA.heap.size:=by rw [← hwA];exact (Array.getElem?_eq_some_iff.1 (MapKept.heap_alloc w _).1).1
 -- the call
 obtain⟨⟨fn,hfn,hbody,hname⟩,hcalls⟩:=hC q _ _ _ _ hl ι3 B wB hB (by
  intro v hv;rcases List.mem_cons.1 hv with rfl|hv
  ·simp [eX,kU,gP,RU,hl3,Loc.gR]
  obtain⟨p,rfl⟩:=iM hcap v hv;exact qM (by omega) hi3' (show eX ι nx (.pointer (some p)) from e2.2 _ hv))
 have hcapm:cap.map (dY ι)=(cap.toList.map (tr ι3)).toArray:=by
  apply Array.ext';simp only [Array.toList_map];apply List.map_congr_left;intro v hv;obtain⟨p,rfl⟩:=iM hcap v hv;exact (GO hi3' (show eX ι nx (.pointer (some p)) from e2.2 _ hv)).symm
 have hy:tr ι3 (.func (.yield (nx+1)) #[] #[])=.func (.yield wA.heap.size) #[] #[]:=(by simp [tr,dW,bO,lM,hl3]);obtain⟨bdy,hb'⟩:=Option.isSome_iff_exists.1 hbody;have hname' : fn.name ≠ "runtime.NumGoroutine" := (by simpa using hname);refine⟨wA.heap.size,[BR w.heap.size],wB,{ target:=.fn (.func q) (cap.map (dY ι)),args:=#[.func (.yield wA.heap.size) #[] #[]] },wB,q,((Value.func (.yield (nx+1)) #[] #[]::cap.toList).map (tr ι3)).toArray,wB,?_,?_,fun _ _=>trivial,?_,fun hdep=>absurd hdep (by simp [Fr,Fence.wide]),?_⟩
 ·have hr:(Fr none).round=none:=rfl;rw [hr];subst hwB;subst hwA;simp [Instr.enterLoop,BR,rec_]
 ·have he1:a.eval g=.func (.func q) #[] (cap.map (dY ι)):=e1;have hc:∀ v,a.eval (.const v)=v:=fun _=>rfl;simp [resolve,rangeCall,he1,hc,Deferred.ofValue]
 ·simp [invoke,callFunc,hfn,hname',hb',hcapm,hy]
 refine CallsIn.mono (F:=Fence.wide) hcalls fun en w3 hret=>?_;cases en with
 |panicked c=>exact hret.elim
 |outgrown=>exact hret.elim
 |returned u =>
  obtain⟨v,h',nx',ι',k1,k2,k3,k4,k5,k6,rfl⟩:=hret;split at k1
  case h_2=>exact k1.elim
  rename_i l' hl1 hl2;have hι'l:ι' (nx+1)=.lay wA.heap.size 0 0:=(k5 _ (by omega)).trans hl3;have hι'm:ι' nx=.lay w.heap.size 0 0:=(k5 _ (by omega)).trans hm3;have ho:=k3.obj _ _ hl1;rw [hι'l] at ho;obtain⟨o1,r',o2,o3,o4,_⟩:=ho;have hd:=k3.obj _ _ hl2;rw [hι'm] at hd;have hnb:l'.state≠.busy:=by
   intro hs;simp [hs] at k1
  have hend:(Instr.endLoop wA.heap.size).run P w3=.ok l'.pending { w3 with heap:=w3.heap.setIfInBounds wA.heap.size (.loop { r' with state:=.exhausted }) }:=by
   have hne:r'.state≠.busy:=(by rw [o3];exact hnb);have hbeq:(r'.state == .busy)=false:=(by simpa using hne);simp [Instr.endLoop,o8 o2,tZ o2,hbeq,o4];exact fun h=>absurd h hne
  -- rZ it
  generalize hw4:({ w3 with heap:=w3.heap.setIfInBounds wA.heap.size (.loop { r' with state:=.exhausted }) }:World)=w4 at hend;have hoth:∀ c,c≠wA.heap.size→w4.heap[c]? = w3.heap[c]? := fun c hc=>(by rw [← hw4];simp [Array.getElem?_setIfInBounds_ne (fun e=>hc e.symm)]);have hsz4:w4.heap.size=w3.heap.size:=(by rw [← hw4];simp);have hb4:gF B w3 w4:=⟨by rw [← hw4],by rw [← hw4],by rw [← hw4],by omega,fun c hc=>hoth c (by omega),by rw [← hw4];exact Nat.le_refl _⟩;have hR:aQ ι' B (rem (rem h' (nx+1)) nx) nx' w4:=by
   refine ((k3.rem (nx+1)).rem nx).BP (fun k o b hk hkb=>hoth b fun e=>?_) (by omega);rw [dN] at hk;split at hk
   ·cases hk
   rw [dN] at hk;split at hk
   ·cases hk
   rename_i hne;exact k3.sep (nx+1) k _ o hl1 hk (fun e=>hne e.symm) rfl wA.heap.size (by rw [hι'l];rfl) (by rw [hkb,e])
  have hBw:gF B w w4:=((hbA.mono H.size).trans (hbB.mono hA.size)).trans (k4.trans hb4);have hi':∀ k,k<nx→ι' k=ι k:=fun k hk=>(k5 k (by omega)).trans (hi3' k hk);have I':rA B0 w0 ι0 nx0 tn ι' e (gE h' nx) nx' { a with defers:=[BR w.heap.size]++a.defers } w4:=by
   refine⟨w4.heap.size,w4,ι',nx',BR w.heap.size::ds,?_,?_,fun k hk=>?_,?_,⟨w.heap.size::bs,by rw [hds];rfl,?_,fun b hb=>?_⟩,J.env.names (by omega) hi',hR.shut,gF.refl _ _,fun _ _=>rfl,Nat.le_refl _,J.size,by rw [← J.defers];rfl⟩
   ·exact Nat.le_trans h1 hR.size
   ·exact h2.trans ((J.below.mono h1).trans (hBw.mono h1))
   ·have q1:k<nx1:=Nat.lt_of_lt_of_le hk h4;exact (hi' k (Nat.lt_of_lt_of_le q1 J.le)).trans ((J.old k q1).trans (h3 k hk))
   ·have:=J.le;omega
   ·rw [List.nodup_cons];refine⟨fun hm=>?_,hnd⟩;have:=(hbs _ hm).2.1;have:=H.size;omega
   ·rcases List.mem_cons.1 hb with rfl|hb
    ·have:=H.size;have hsz:=hBw.size;have hk:=k4.size;have hk2:=hbB.size;refine⟨by omega,by omega,?_⟩;rw [hoth _ (by omega)];exact hd.2
    obtain⟨q1,q2,q3⟩:=hbs b hb;have:=hR.size;refine⟨q1,by omega,?_⟩;rw [hBw.block b q2,J.below.block b q2];exact q3
  refine⟨_,w4,hend,?_⟩;split at k1
  ·exact k1.elim
  ·rename_i hp _;rw [hp];exact E.n _ _ _ _ _ _ k1 I'
  ·rename_i hp _;rw [hp];exact wpIn_exit (E.x _ _ _ _ _ _ _ k1 I')
  ·rename_i hp _;rw [hp];exact wpIn_ret (E.r _ _ _ _ _ _ k1 I')
  exact k1.elim
end
section
variable {P:Program}{T:cQ}{C:VC}{Y:VY}
theorem O2 {ι:Nat→Loc}{B nx:Nat}{h:Heap}{w:World}(H:aQ ι B h nx w){l:Nat}{la:WS}(hl:look h l=some (.loop la)){b o e:Nat}(hι:ι l=.lay b o e) :
  ∃ r:Loop,w.heap[b]? = some (.loop r)∧r.state=la.state∧r.pending=la.pending∧B≤b∧∀ st pd,aQ ι B (xA h l (.loop { la with state:=st,pending:=pd })) nx { w with heap:=w.heap.setIfInBounds b (.loop { r with state:=st,pending:=pd }) } ∧
    gF B w { w with heap:=w.heap.setIfInBounds b (.loop { r with state:=st,pending:=pd }) }:=by
 have ho:=H.obj l _ hl;rw [hι] at ho;obtain⟨h0,r,h1,h2,h3,h4,h5,h6,h7,h8,h9,h10⟩:=ho;have hlt:=(Array.getElem?_eq_some_iff.1 h1).1;refine⟨r,h1,h2,h3,h0,fun st pd=>⟨?_,⟨rfl,rfl,rfl,by simp,fun c hc=>by simp [Array.getElem?_setIfInBounds_ne (show b≠c by omega)],Nat.le_refl _⟩⟩⟩;refine H.set hl rfl ?_ (show XR ι nx (.loop { la with state:=st,pending:=pd }) from ⟨(H.sc l _ hl).1,(H.sc l _ hl).2⟩) rfl (fun c hc=>?_) (by simp)
 ·rw [hι];exact⟨h0,{ r with state:=st,pending:=pd },by simp [Array.getElem?_setIfInBounds_self_of_lt hlt],rfl,rfl,trivial,h5,h6,h7,h8,h9,h10⟩
 have:b≠c:=fun e=>hc (by rw [hι,e];rfl);simp [Array.getElem?_setIfInBounds_ne this]
theorem KL {ι:Nat→Loc}{n tn:Nat}:∀ (ps:List Nat) (args:List Value) (e e0:List (Nat × Value)) (tm:Array Value) (ds:List Deferred),sZ tn e ps args=some e0→c9 ι n e { tmps:=tm,defers:=ds }→tm.size=tn→(∀ v∈args,eX ι n v) →
  ps.length=args.length∧c9 ι n e0 { tmps:=(ps.zip (args.map (tr ι))).foldl (fun tmps q=>tmps.setIfInBounds q.1 q.2) tm,defers:=ds }∧((ps.zip (args.map (tr ι))).foldl (fun tmps q=>tmps.setIfInBounds q.1 q.2) tm).size=tn
 |[],[],e,e0,tm,ds,h,he,hs,_=>by simp [sZ] at h;subst h;exact⟨rfl,he,hs⟩
 |[],_::_,_,_,_,_,h,_,_,_=>by simp [sZ] at h
 |_::_,[],_,_,_,_,h,_,_,_=>by simp [sZ] at h
 |t::ts,v::vs,e,e0,tm,ds,h,he,hs,ha=>by
  simp only [sZ] at h;split at h
  ·rename_i ht;have ht:=nX ht;have:=he.xA (d:=t) (v:=v) (by show t<tm.size;omega) (ha v (by simp));obtain⟨h1,h2,h3⟩:=KL ts vs (put e t v) e0 (tm.setIfInBounds t (tr ι v)) ds h this (by simp [hs]) (fun u hu=>ha u (by simp [hu]));exact⟨by simp [h1],h2,h3⟩
  ·cases h
theorem NU {ι0 ι:Nat→Loc}{B0 nx0 nx tn:Nat}{w0:World}{e:List (Nat × Value)}{h:Heap}{a:Act}{w:World}(I:rA B0 w0 ι0 nx0 tn ι e h nx a w){q:Nat}{K:KE}{j:Option Code}{b o ex:Nat}(hq:q<nx0)(hι:ι0 q=.lay b o ex)(hl:xX q K j e h nx) :
  ∃ v w',(Instr.endRound b j).run P w=.ok v w'∧Ret B0 w0 ι0 nx0 K (.returned v) w':=by
 obtain⟨B,w1,ι1,nx1,ds,h1,h2,h3,h4,h5,J⟩:=I;unfold xX at hl;split at hl
 case h_2=>exact hl.elim
 rename_i la hk;have hold:∀ k,k<nx0→ι k=ι0 k:=fun k hk=>(J.old k (Nat.lt_of_lt_of_le hk h4)).trans (h3 k hk);obtain⟨r,k1,k2,k3,k4,k5⟩:=O2 J.heap hk ((hold q hq).trans hι);obtain⟨k6,k7⟩:=k5 (if j.isNone then .ready else .done) j;refine⟨.bool j.isNone,_,?_,.bool j.isNone,_,nx,ι,hl,by simp [eX,kU,gP,oL],k6.down h1,?_,hold,Nat.le_trans h4 J.le,rfl⟩
 ·simp only [Instr.endRound,Sem.run_bind,o8 k1,Result.andThen_ok,tZ k1,Sem.run_pure]
 exact h2.trans ((J.below.trans k7).mono h1)
theorem HL {r:Option Nat}{tn:Nat}:DY P r tn uO:=fun g ps as bd kn kx kr e h nx hl=>hl.elim
theorem z7:U2 uO:=fun g ps as bd kn kn' kx kx' kr kr' e h nx _ _ _ hl=>hl.elim
theorem ZE (hT:cL P T)(hC:bC P C)(hY:eO P Y)(hD:dS C)(hDY:dS Y)(hm:P.follows .mixedOrders=true){PL:Nat→Nat→Option fB}{M:Nat}:eO P (rE aF T C Y PL (.fuel M)):=by
 intro q args h nx K hl ι B w H hs b o ex hι;unfold rE at hl;split at hl
 case h_2=>exact hl.elim
 rename_i la hk;split at hl
 case h_2=>exact hl.elim
 rename_i e0 hz hpl;simp only [Bool.and_eq_true] at hpl;have hq:q<nx:=H.low q _ hk;have ho:=H.obj q _ hk;rw [hι] at ho;obtain⟨g0,r,g1,g2,g3,g4,g5,g6,g7,g8,g9,g10⟩:=ho;have henv:c9 ι nx la.env { tmps:=r.tmps,defers:=[] }:=fun t v hv=>⟨g6 t v hv,(H.sc q _ hk).1 t v hv⟩;obtain⟨z1,z2,z3⟩:=KL la.params args la.env e0 r.tmps [] hz henv g5 hs;have hsz:(args.map (tr ι)).toArray.size=r.params.size:=by
  rw [← Array.length_toList (xs:=r.params),g7];simp [z1]
 refine⟨r.fn,(la.params.zip (args.map (tr ι))).foldl (fun tmps q=>tmps.setIfInBounds q.1 q.2) r.tmps,r.assign,r.body,?_,?_⟩
 ·have hf:(r.params.zip (args.map (tr ι)).toArray).foldl (fun tmps x=>match x with|(t,a)=>tmps.setIfInBounds t a) r.tmps=(la.params.zip (args.map (tr ι))).foldl (fun tmps q=>tmps.setIfInBounds q.1 q.2) r.tmps:=by
   rw [← Array.foldl_toList,← g7];simp
  simp only [Instr.yield,Sem.run_bind,o8 g1,Result.andThen_ok,hsz,ne_eq,not_true_eq_false,if_false,Sem.run_ite,Sem.run_pure];rw [← hf]
 refine roundIn_of_wpIn trivial ?_;rw [g8];have hbase:rA B w ι nx la.tn ι e0 h nx { tmps:=(la.params.zip (args.map (tr ι))).foldl (fun tmps q=>tmps.setIfInBounds q.1 q.2) r.tmps,defers:=[] } w :=
  ⟨B,w,ι,nx,[],Nat.le_refl _,gF.refl _ _,fun _ _=>rfl,Nat.le_refl _,⟨[],rfl,by simp,by simp⟩,z2,H,gF.refl _ _,fun _ _=>rfl,Nat.le_refl _,z3,rfl⟩
 refine GD hT hC hY hD hDY hm (some b) HL z7 la.assign hpl.1 _ _ _ e0 h nx hl B w ι nx _ trivial ⟨?_,fun id ι e h nx a w hk _=>hk.elim,fun ι e h nx a w hk _=>hk.elim⟩ ι _ w hbase;intro ι1 e1 h1 nx1 a1 w1 hk1 I1;obtain⟨B1,wb,ιb,nxb,ds,i1,i2,i3,i4,i5,J⟩:=I1;split at hk1
 case h_2=>exact hk1.elim
 rename_i l1 hl1;split at hk1
 case h_2=>exact hk1.elim
 rename_i hst;have hold:∀ k,k<nx→ι1 k=ι k:=fun k hk=>(J.old k (Nat.lt_of_lt_of_le hk i4)).trans (i3 k hk);obtain⟨r1,k1,k2,k3,k4,k5⟩:=O2 J.heap hl1 ((hold q hq).trans hι);obtain⟨k6,k7⟩:=k5 .busy r1.pending;rw [show ({ l1 with state:=.busy,pending:=r1.pending }:WS)={ l1 with state:=.busy } by rw [k3]] at k6;refine⟨{ w1 with heap:=w1.heap.setIfInBounds b (.loop { r1 with state:=.busy }) },?_,?_⟩
 ·have hr:r1.state=.ready:=k2.trans hst;simp [Instr.beginRound,o8 k1,tZ k1,hr]
 rw [g9];have I2:rA B w ι nx la.tn ι1 e1 (xA h1 q (.loop { l1 with state:=.busy })) nx1 a1 { w1 with heap:=w1.heap.setIfInBounds b (.loop { r1 with state:=.busy }) } :=
  ⟨B1,wb,ιb,nxb,ds,i1,i2,i3,i4,i5,J.step J.env k6 k7 (fun _ _=>rfl) (Nat.le_refl _) J.size rfl⟩
 refine GD hT hC hY hD hDY hm (some b) HL z7 la.body hpl.2 _ _ _ e1 _ nx1 hk1 B w ι nx _ trivial ⟨?_,?_,?_⟩ ι1 a1 _ I2
 ·exact fun ι e h nx a w hk I=>NU I hq hι hk
 ·exact fun id ι e h nx a w hk I=>NU I hq hι hk
 exact fun ι e h nx a w hk I=>NU I hq hι hk
end
theorem EO {E:KS→Prop}{F:List (Nat × Value)→Heap→Nat→KE→Prop}(hE:lL E)(hF:∀ v h nx,fE (F v h nx)):fE (fun K=>E (fun v h nx=>F v h nx K)):=by
 intro K hl;obtain⟨v,h,nx,h1,h2⟩:=hE _ hl;obtain⟨e,h',nx',h3,h4⟩:=hF v h nx K h1;exact⟨e,h',nx',h3,fun K' hk=>h2 _ (h4 K' hk)⟩
theorem S7 {E:KE→Prop}{F:Value→Heap→Nat→KE→Prop}(hE:fE E)(hF:∀ v h nx,fE (F v h nx)):fE (fun K=>E (fun v h nx=>F v h nx K)):=by
 intro K hl;obtain⟨v,h,nx,h1,h2⟩:=hE _ hl;obtain⟨e,h',nx',h3,h4⟩:=hF v h nx K h1;exact⟨e,h',nx',h3,fun K' hk=>h2 _ (h4 K' hk)⟩
theorem SA {α:Type}{E:(α→Prop)→Prop}{F:α→KE→Prop}(hE:vG E)(hF:∀ v,fE (F v)):fE (fun K=>E (fun v=>F v K)):=by
 intro K hl;obtain⟨v,h1,h2⟩:=hE _ hl;obtain⟨e,h',nx',h3,h4⟩:=hF v K h1;exact⟨e,h',nx',h3,fun K' hk=>h2 _ (h4 K' hk)⟩
def zO (f:KE→KS):Prop:=∀ e h nx,fE (fun K=>f K e h nx)
variable {A:Ar}{T:cQ}{C:VC}{Y:VY}
def aIP (R:VR):Prop:=∀ g ps as bd (kn:KE→KS) (kx:Nat→KE→KS) (kr:KE→KS),zO kn→(∀ i,zO (kx i))→zO kr→zO (fun K=>R g ps as bd (kn K) (fun i=>kx i K) (kr K))
theorem J3 {F:KE→KS→KS}(hF:∀ k:KE→KS,zO k→zO (fun K=>F K (k K))):∀ m,zO (fun K=>G9 (F K) m)
 |0=>fun _ _ _=>fH
 |m+1=>hF (fun K=>G9 (F K) m) (J3 hF m)
theorem BL (hC:dS C)(hY:dS Y){tn:Nat}{PL:Nat→Option fB}{n:Nat}{R:VR}(hR:aIP R):∀ (c:Code) (kn:KE→KS) (kx:Nat→KE→KS) (kr:KE→KS),zO kn→(∀ i,zO (kx i))→zO kr →
  zO (fun K=>gL A T C Y tn PL (.fuel n) R c (kn K) (fun i=>kx i K) (kr K)):=by
 intro c
 induction c with
 |skip=>exact fun kn kx kr h1 _ _=>h1
 |region id ops draw =>
  intro kn kx kr h1 _ _ e h nx;simp only [fT,jW];cases draw with
  |false=>exact EO (F:=fun e h nx K=>kn K e h nx) (F9 hC hY _ _ _ _) h1
  |true =>
   simp only;cases PL id with
   |none =>
    intro K hl;obtain⟨ea,ha,na,⟨e0,h0,n0,hi,hk⟩,hr⟩:=xI hC hY _ _ _ _ _ _ hl;obtain⟨v,h',nx',q1,q2⟩:=h1 e0 h0 n0 K hk;exact⟨v,h',nx',q1,fun K' hk'=>hr _ ⟨e0,h0,n0,hi,q2 K' hk'⟩⟩
   |some p=>exact EO (F:=fun e h nx K=>kn K e h nx) (RK hC hY) h1
 |seq a b iha ihb=>exact fun kn kx kr h1 h2 h3=>iha (fun K=>gL A T C Y tn PL (.fuel n) R b (kn K) (fun i=>kx i K) (kr K)) kx kr (ihb kn kx kr h1 h2 h3) h2 h3
 |cond c t f iht ihf =>
  intro kn kx kr h1 h2 h3 e h nx;simp only [fT,jW];intro K hl;split at hl
  ·rename_i b hb;exact y6 (iht kn kx kr h1 h2 h3 e h nx) (ihf kn kx kr h1 h2 h3 e h nx) K hl
  exact hl.elim
 |block id b ih =>
  intro kn kx kr h1 h2 h3;have:=ih kn (fun j=>match Nat.beq j id with|true=>kn|false=>kx j) kr h1 (fun j=>by
   cases hb:Nat.beq j id with
   |true=>simp only;exact h1
   |false=>simp only;exact h2 j) h3
  intro e h nx;have h5:=this e h nx;have heq:(fun K=>gL A T C Y tn PL (.fuel n) R (.block id b) (kn K) (fun i=>kx i K) (kr K) e h nx)=(fun K=>gL A T C Y tn PL (.fuel n) R b (kn K) (fun i=>(match Nat.beq i id with|true=>kn|false=>kx i) K) (kr K) e h nx):=by
   funext K;simp only [PX];congr 1;funext j;cases Nat.beq j id <;> rfl
  show fE (fun K=>gL A T C Y tn PL (.fuel n) R (.block id b) (kn K) (fun i=>kx i K) (kr K) e h nx);rw [heq];exact h5
 |loop b ih =>
  intro kn kx kr h1 h2 h3 e h nx;simp only [qX,aDi];exact J3 (F:=fun K k=>gL A T C Y tn PL (.fuel n) R b k (fun i=>kx i K) (kr K)) (fun k hk=>ih k kx kr hk h2 h3) n e h nx
 |rangeFunc g ps as bd _ _=>exact fun kn kx kr h1 h2 h3=>hR g ps as bd kn kx kr h1 h2 h3
 |exit id=>exact fun kn kx kr _ h2 _=>h2 id
 |ret=>exact fun kn kx kr _ _ h3=>h3
 |label l=>exact fun kn kx kr h1 _ _=>h1
 |scope b ih=>exact fun kn kx kr h1 h2 h3=>ih kn kx kr h1 h2 h3
 |goto l=>exact fun _ _ _ _ _ _ _ _ _=>fH
 |refuse s=>exact fun _ _ _ _ _ _ _ _ _=>fH
theorem SY (hC:dS C){f tn:Nat}:aIP (sP C f tn):=by
 intro g ps as bd kn kx kr h1 h2 h3 e h nx;simp only [sP];refine jA fun gv=>?_;intro K hl;split at hl
 case h_2=>exact hl.elim
 split at hl
 case h_2=>exact hl.elim
 rename_i q first cap _ _ hfirst hcap
 refine S7 (E:=C q _ _ _) (F:=fun v h' nx' K=>(match look h' (nx+1),look h' nx with
  |some (.loop l),some .deferred=>(match l.state,l.pending with
   |.busy,_=>False
   |_,none=>kn K e (gE h' nx) nx'
   |_,some (.exit id)=>kx id K e (gE h' nx) nx'
   |_,some .ret=>kr K e (gE h' nx) nx'
   |_,_=>False)
  |_,_=>False)) (hC _ _ _ _) (fun v h' nx'=>?_) K hl
 intro K hl;split at hl
 case h_2=>exact hl.elim
 split at hl
 ·exact hl.elim
 ·exact h1 _ _ _ K hl
 ·exact h2 _ _ _ _ K hl
 ·exact h3 _ _ _ K hl
 exact hl.elim
theorem O0 (hC:dS C){f tn:Nat}:U2 (sP C f tn):=by
 intro g ps as bd kn kn' kx kx' kr kr' e h nx h1 h2 h3 hl;unfold sP at hl ⊢;obtain⟨gv,hgv,hl⟩:=c7 hl;rw [hgv];simp only [on];split at hl
 case h_2=>exact hl.elim
 split at hl
 case h_2=>exact hl.elim
 obtain⟨v,h',nx',k1,k2⟩:=hC _ _ _ _ _ hl;refine k2 _ ?_;split at k1
 case h_2=>exact k1.elim
 split at k1
 ·exact k1.elim
 ·exact h1 _ _ _ k1
 ·exact h2 _ _ _ _ k1
 ·exact h3 _ _ _ k1
 exact k1.elim
end Go.Aw
end

noncomputable section
namespace Go.Aw
open Go.RowKit
section
variable {A:Ar}{T:cQ}{C:VC}{Y:VY}
theorem qW {e:List (Nat × Value)}{h:Heap}:∀ (l:List ResultVar),vG (fM T e h l)
 |[]=>zH
 |.tmp t::r=>by
  show vG (fun K=>fM T e h (.tmp t::r) K);simp only [mR,lR];exact jG (F:=fun v K=>fM T e h r fun l=>K (v::l)) fun v=>FV (F:=fun l K=>K (v::l)) (qW r) fun l=>zH
 |.cell a t::r=>by
  show vG (fun K=>fM T e h (.cell a t::r) K);simp only [mR,lR];exact jG (F:=fun p K=>sR T h t p fun v=>fM T e h r fun l=>K (v::l)) fun p=>FV (F:=fun v K=>fM T e h r fun l=>K (v::l)) KR fun v =>
   FV (F:=fun l K=>K (v::l)) (qW r) fun l=>zH
theorem aDH {fn:Func}{g:Value→Heap→Nat→Value × Heap × Nat}:zO (fun K=>DD T fn (fun v h nx=>K (g v h nx).1 (g v h nx).2.1 (g v h nx).2.2)):=by
 intro e h nx;unfold DD
 refine SA (F:=fun l K=>match l with
  |[v]=>K (g v h nx).1 (g v h nx).2.1 (g v h nx).2.2
  |l=>match JT l with|true=>K (g (.tuple l.toArray) h nx).1 (g (.tuple l.toArray) h nx).2.1 (g (.tuple l.toArray) h nx).2.2|false=>False) (qW _) fun l=>?_
 intro K hl;split at hl
 ·exact cO K hl
 split at hl
 ·exact cO K hl
 exact hl.elim
theorem FW {q:Nat}{j:Option Code}:zO (fun K=>xX q K j):=by
 intro e h nx;simp only [xX];cases look h q with
 |none=>exact fH
 |some o=>cases o <;> first|exact cO|exact fH
theorem CE:aIP uO:=fun _ _ _ _ _ _ _ _ _ _ _ _ _=>fH
theorem TK (hC:dS C)(hY:dS Y){PL:Nat→Nat→Option fB}{n:Nat}:dS (rE A T C Y PL (.fuel n)):=by
 intro q args h nx;show fE (fun K=>rE A T C Y PL (.fuel n) q args h nx K);unfold rE;intro K hl;split at hl
 case h_2=>exact hl.elim
 rename_i la hk;split at hl
 case h_2=>exact hl.elim
 rename_i e0 hz hpl;refine BL hC hY CE la.assign (fun K e1 h1 nx1 =>
  match look h1 q with
  |some (.loop l1)=>(match l1.state with
   |.ready=>gL A T C Y la.tn (PL la.fn) (.fuel n) uO la.body (xX q K none) (fun id=>xX q K (some (.exit id))) (xX q K (some .ret)) e1 (xA h1 q (.loop { l1 with state:=.busy })) nx1
   |_=>False)
  |_=>False) (fun _ _ _ _ _=>False) (fun _ _ _ _=>False) ?_ (fun _ _ _ _=>fH) (fun _ _ _=>fH) e0 h nx K hl
 intro e1 h1 nx1 K hl;dsimp only at hl ⊢;split at hl
 case h_2=>exact hl.elim
 split at hl
 case h_2=>exact hl.elim
 exact BL hC hY CE la.body (fun K=>xX q K none) (fun id K=>xX q K (some (.exit id))) (fun K=>xX q K (some .ret)) FW (fun _=>FW) FW e1 _ nx1 K hl
theorem aAg {c:DC}{n:Nat}(hC:dS C)(hY:dS Y)(hX:∀ f x,c.X f=some x→∀ args h nx,fE (x args h nx)):dS (rS c (some n) C Y):=by
 intro f args h nx;show fE (fun K=>rS c (some n) C Y f args h nx K);unfold rS;intro K hl;split at hl
 ·rename_i x hx;exact hX f x hx args h nx K hl
 split at hl
 ·exact hl.elim
 rename_i fn hfn;split at hl
 case h_2=>exact hl.elim
 rename_i b hb hle;have hv:zO (fun K=>DD c.T fn (fun v h' nx'=>K v h' nx')) :=
  aDH (g:=fun v h' nx'=>(v,h',nx'))
 exact BL hC hY (SY hC) b (fun K=>DD c.T fn (fun v h' nx'=>K v h' nx')) (fun _ _ _ _ _=>False) (fun K=>DD c.T fn (fun v h' nx'=>K v h' nx')) hv (fun _ _ _ _=>fH) hv _ h nx K hl
end
def dJ (P:Program)(f:Nat)(x:List Value→Heap→Nat→KE→Prop):Prop:=(∀ args h nx K,x args h nx K→∀ ι B w,aQ ι B h nx w→(∀ v∈args,eX ι nx v) →
 (∃ fn, P.funcs[f]? = some fn ∧ fn.body.isSome = true ∧ (fn.name == "runtime.NumGoroutine") = false) ∧ CallsIn Fence.wide 0 P f (args.map (tr ι)).toArray w (Ret B w ι nx K)) ∧ ∀ args h nx, fE (x args h nx)
structure pA (P:Program) (c:DC):Prop where
 ar:c.A=aF
 tab:cL P c.T
 mixed:P.follows .mixedOrders=true
 funcs : ∀ f fn, c.FT f = some fn → P.funcs[f]? = some fn ∧ (fn.name == "runtime.NumGoroutine") = false ∧ ∀ b, fn.body = some b → cR (c.PL f) b = true
 xs:∀ f x,c.X f=some x→dJ P f x
section
variable {P:Program}{c:DC}{C:VC}{Y:VY}
theorem tL (hc:pA P c)(hC:bC P C)(hY:eO P Y)(hD:dS C)(hDY:dS Y)(M:Option Nat):bC P (rS c M C Y):=by
 intro f args h nx K hl ι B w H hs;unfold rS at hl;split at hl
 ·rename_i x hx;exact (hc.xs f x hx).1 args h nx K hl ι B w H hs
 split at hl
 ·exact hl.elim
 rename_i fn hfn;split at hl
 case h_2=>exact hl.elim
 rename_i b hb hle;obtain⟨h1,h2,h3⟩:=hc.funcs f fn hfn;refine⟨⟨fn,h1,by rw [hb];rfl,h2⟩,?_⟩;rw [hc.ar] at hl;refine aFa (K':=K) hc.tab hC hY hD hDY hc.mixed h1 hb (h3 b hb) (by cases M with|none=>exact Nat.le_refl _|some n=>trivial) (YQ hC) (O0 hD) (Nat.le_of_ble_eq_true hle) (fun v h' nx' hk=>⟨_,hk,fun k o hlk=>hlk⟩) hl H hs
theorem sI {n:Nat}{g:Heap}:∀ {h:Heap} {k:Nat} {o:bH},look (pJ n g h) k=some o→look h k=some o∧n≤k∧((∃ a b c,look g k=some (.cells true a b c))∨∃ es,look g k=some (.map es))
 |[],k,o,hk=>by cases hk
 |(j,q)::r,k,o,hk=>by
  have drop:look (pJ n g r) k=some o→((∃ a b c,look g j=some (.cells true a b c))→n≤j→False)→((∃ es,look g j=some (.map es))→n≤j→False)→look ((j,q)::r) k=some o∧n≤k∧((∃ a b c,look g k=some (.cells true a b c))∨∃ es,look g k=some (.map es)):=by
   intro h1 h2 h3;obtain⟨i1,i2,i3⟩:=sI h1;refine⟨?_,i2,i3⟩;rw [aB];split
   ·rename_i hb;have:=beq_true hb;subst this;rcases i3 with i3|i3
    ·exact (h2 i3 i2).elim
    exact (h3 i3 i2).elim
   exact i1
  have BP:look ((j,q)::pJ n g r) k=some o→n≤j→((∃ a b c,look g j=some (.cells true a b c))∨∃ es,look g j=some (.map es))→look ((j,q)::r) k=some o∧n≤k∧((∃ a b c,look g k=some (.cells true a b c))∨∃ es,look g k=some (.map es)):=by
   intro h1 h2 h3;rw [aB] at h1 ⊢;split at h1
   ·rename_i hb;have:=beq_true hb;subst this;exact⟨h1,h2,h3⟩
   exact sI h1
  unfold pJ at hk;split at hk
  ·rename_i a b c hn hg;exact BP hk (Nat.le_of_ble_eq_true hn) (.inl ⟨_,_,_,hg⟩)
  ·rename_i es hn hg;exact BP hk (Nat.le_of_ble_eq_true hn) (.inr ⟨_,hg⟩)
  rename_i n1 n2;exact drop hk (fun ⟨a,b,c,h1⟩ h2=>n1 _ _ _ (Nat.ble_eq_true_of_le h2) h1) (fun ⟨es,h1⟩ h2=>n2 _ (Nat.ble_eq_true_of_le h2) h1)
theorem aIn {PR:Nat→Bool}(hC:bC P C):bC P (frC PR C):=by
 intro f args h nx K hl ι B w H hs;unfold frC at hl;split at hl
 case h_2=>exact hC f args h nx K hl ι B w H hs
 obtain⟨c1,c2⟩:=hC f args (eI h) nx _ hl ι w.heap.size w H.shut hs;refine⟨c1,CallsIn.mono c2 fun e w' hr=>?_⟩;cases e with
 |returned u =>
  obtain⟨v,h',nx',ι',q1,q2,q3,q4,q5,q6,q7⟩:=hr;have H':aQ ι B h nx w':=H.ext q4;unfold frK at q1;split at q1
  ·rename_i hg;exact⟨v,h,nx,ι,q1,bU hg,H',q4.mono H.size,fun _ _=>rfl,Nat.le_refl _,by rw [q7,gU hg,gU hg]⟩
  refine⟨v,_,nx',ι',q1,q2,?_,q4.mono H.size,q5,q6,q7⟩;have Q:=q3.down H.size;have hcase:∀ k o,look (app (pJ nx h' h') h) k=some o→(look h k=some o∧k<nx)∨(look h' k=some o∧nx≤k∧∀ b,(ι' k).D0=some b→w.heap.size≤b):=by
   intro k o hk;rw [gV] at hk;split at hk
   ·rename_i o1 ho;injection hk with hk;subst hk;obtain⟨a1,a2,a3⟩:=sI ho;refine .inr ⟨a1,a2,fun b hb=>?_⟩;have hob:=q3.obj k _ a1;cases hl:ι' k with
    |nil p=>rw [hl] at hb;cases hb
    |lay b2 off e =>
     rw [hl] at hb hob;have e1:b2=b:=(by simpa [Loc.D0] using hb);subst e1;rcases a3 with ⟨a,b',c,a3⟩|⟨es,a3⟩
     ·rw [a1] at a3;injection a3 with a3;subst a3;exact hob.1
     rw [a1] at a3;injection a3 with a3;subst a3;exact hob.1
   exact .inl ⟨hk,H.low k _ hk⟩
  refine⟨fun k o hk=>?_,fun k k' o o' hk hk' hne ha b hb=>?_,fun k o hk=>?_,H'.size,fun k o hk=>?_⟩
  ·rcases hcase k o hk with ⟨h2,h3⟩|⟨h2,h3,_⟩
   ·rw [q5 k h3];exact (H'.obj k o h2).names (H'.sc k o h2) q5
   exact Q.obj k o h2
  ·rcases hcase k o hk with ⟨h2,h3⟩|⟨h2,h3,h4⟩ <;> rcases hcase k' o' hk' with ⟨h2',h3'⟩|⟨h2',h3',h4'⟩
   ·rw [q5 k h3] at hb;rw [q5 k' h3'];exact H'.sep k k' o o' h2 h2' hne ha b hb
   ·rw [q5 k h3] at hb;intro hb';have:=h4' b hb';have:=(H.obj k o h2).lt hb;omega
   ·rw [q5 k' h3'];intro hb';have:=h4 b hb;have:=(H.obj k' o' h2').lt hb';omega
   exact Q.sep k k' o o' h2 h2' hne ha b hb
  ·rcases hcase k o hk with ⟨h2,h3⟩|⟨h2,h3,h4⟩
   ·omega
   exact Q.low k o h2
  ·rcases hcase k o hk with ⟨h2,h3⟩|⟨h2,h3,h4⟩
   ·exact (H'.sc k o h2).mono q6 q5
   exact Q.sc k o h2
 |_=>exact hr.elim
theorem aGf {PR:Nat→Bool}(hC:dS C):dS (frC PR C):=by
 intro f args h nx K hl;unfold frC at hl ⊢;cases hp:PR f with
 |false=>simp only [hp] at hl ⊢;exact hC f args h nx K hl
 |true =>
 simp only [hp] at hl ⊢;obtain⟨v,h',nx',q1,q2⟩:=hC _ _ _ _ _ hl;unfold frK at q1;split at q1
 ·rename_i hg;refine⟨v,h,nx,q1,fun K' hk=>q2 _ ?_⟩;unfold frK;rw [hg];exact hk
 rename_i hg;refine⟨v,_,nx',q1,fun K' hk=>q2 _ ?_⟩;unfold frK;rw [hg];exact hk
theorem jN (hc:pA P c):∀ d,bC P (sC c d false)∧eO P (sC c d true)∧dS (sC c d false)∧dS (sC c d true)
 |0=>⟨fun _ _ _ _ _ hl=>hl.elim,fun _ _ _ _ _ hl=>hl.elim,fun _ _ _ _ _ hl=>hl.elim,fun _ _ _ _ _ hl=>hl.elim⟩
 |d+1=>by
  obtain⟨h1,h2,h3,h4⟩:=jN hc d;refine⟨aIn (tL hc h1 h2 h3 h4 _),?_,aGf (aAg h3 h4 (fun f x hx=>(hc.xs f x hx).2)),TK h3 h4⟩;show eO P (rE c.A c.T (sC c d false) (sC c d true) c.PL (.fuel c.M));rw [hc.ar];exact ZE hc.tab h1 h2 h3 h4 hc.mixed
end
def YI:Value→Value→Bool
 |.int k a,.int k' b=>kEq k k'&&decide (a=b)
 |.bool a,.bool b=>a == b
 |.pointer none,.pointer none=>true
 |.slice none n c,.slice none m d=>Nat.beq n m&&Nat.beq c d
 |.map none,.map none=>true
 |.nilFunc,.nilFunc=>true
 |.nilIface,.nilIface=>true
 |.string a,.string b=>(match a.data.toList,b.data.toList with|[],[]=>true|_,_=>false)
 |_,_=>false
def DX:List Value→List Value→Bool
 |[],[]=>true
 |x::r,y::s=>YI x y&&DX r s
 |_,_=>false
def aC4:Value→Value→Bool
 |.agg xs,.agg ys=>DX xs.toList ys.toList
 |x,y=>YI x y
theorem OD {x y:Value}(h:YI x y=true):x=y:=by
 unfold YI at h;split at h
 ·simp only [Bool.and_eq_true,decide_eq_true_eq] at h;rw [pU h.1,h.2]
 ·simpa using h
 ·rfl
 ·simp only [Bool.and_eq_true] at h;rw [beq_true h.1,beq_true h.2]
 ·rfl
 ·rfl
 ·rfl
 ·rename_i a b;split at h
  ·rename_i h1 h2;obtain⟨⟨a⟩⟩:=a;obtain⟨⟨b⟩⟩:=b;simp at h1 h2;rw [h1,h2]
  ·cases h
 ·cases h
theorem GF:∀ {x y:List Value},DX x y=true→x=y
 |[],[],_=>rfl
 |[],_::_,h=>by cases h
 |_::_,[],h=>by cases h
 |x::r,y::s,h=>by
  simp only [DX,Bool.and_eq_true] at h;rw [OD h.1,GF h.2]
theorem aDz {x y:Value}(h:aC4 x y=true):x=y:=by
 unfold aC4 at h;split at h
 ·congr 1;apply Array.ext';exact GF h
 exact OD h
def tyB (P:Program)(t:TypeId)(i:RR):Bool :=
 (match P.info? t with|some x=>Nat.beq x.size i.size&&Nat.beq x.bytes i.bytes&&(match x.zero with|some z=>aC4 z i.zv|none=>false)|none=>false) &&
 (match P.underlying t with|some d=>KOK d i.kind|none=>false) &&
 Nat.beq i.zv.cells.size i.size&&gA i.zv&&!P.stoodInHeld t&&!P.eqGuardType P.depth t&&Nat.blt 0 i.size
def aFp (P:Program):cQ→Bool
 |[]=>true
 |(t,i)::r=>tyB P t i&&aFp P r
theorem aIl {P:Program}{t:TypeId}{i:RR}(h:tyB P t i=true):nA P t i:=by
 unfold tyB at h;simp only [Bool.and_eq_true,Bool.not_eq_true'] at h;obtain⟨⟨⟨⟨⟨⟨h1,h2⟩,h3⟩,h4⟩,h5⟩,h6⟩,h7⟩:=h;split at h1
 case h_2=>cases h1
 rename_i x hx;simp only [Bool.and_eq_true] at h1;obtain⟨⟨h8,h9⟩,h10⟩:=h1;split at h10
 case h_2=>cases h10
 rename_i z hz;split at h2
 case h_2=>cases h2
 rename_i d hd;exact⟨⟨x,hx,beq_true h8,beq_true h9,by rw [hz,aDz h10]⟩,⟨d,hd,h2⟩,beq_true h3,h4,h5,h6,nX h7⟩
theorem NZ {P:Program}:∀ {T:cQ},aFp P T=true→cL P T
 |[],_,t,i,h=>by cases h
 |(u,j)::r,hb,t,i,h=>by
  simp only [aFp,Bool.and_eq_true] at hb;simp only [aB] at h;split at h
  ·rename_i hu;have:=beq_true hu;subst this;injection h with h;subst h;exact aIl hb.1
  exact NZ hb.2 t i h
end Go.Aw
end
