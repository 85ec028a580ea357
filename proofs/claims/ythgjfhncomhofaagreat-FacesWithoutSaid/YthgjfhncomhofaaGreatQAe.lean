/-
  Parts of a proof. No condition.
-/
import Derived.Test.YthgjfhncomhofaaGreatQAd
set_option linter.unusedSimpArgs false
set_option linter.unusedVariables false
noncomputable section
namespace Go.Aw
open Go.RowKit
section
variable {P:Program}{T:dN}{C:VC}{Y:VY}
theorem TH {ι:Nat->Loc}{B nx:Nat}{h:Heap}{w:World}(H:aY ι B h nx w){l:Nat}{la:aBX}(hl:aw h l=some (.loop la)){b o e:Nat}(hι:ι l=.lay b o e) :
  ∃ r:Loop,w.heap[b]? = some (.loop r)/\r.state=la.state/\r.pending=la.pending/\B<=b/\∀ st pd,aY ι B (xQ h l (.loop { la with state:=st,pending:=pd })) nx { w with heap:=w.heap.setIfInBounds b (.loop { r with state:=st,pending:=pd }) } /\
    jO B w { w with heap:=w.heap.setIfInBounds b (.loop { r with state:=st,pending:=pd }) }:=by
 have ho:=H.obj l _ hl;rw[hι]at ho;obtain⟨h0,r,h1,h2,h3,h4,h5,h6,h7,h8,h9,h10⟩:=ho;have hlt:=(Array.getElem?_eq_some_iff.1 h1).1;refine⟨r,h1,h2,h3,h0,fun st pd=>⟨?_,⟨rfl,rfl,rfl,by simp,fun c hc=>by simp[Array.getElem?_setIfInBounds_ne (aa:b≠c)],ah _⟩⟩⟩;refine H.set hl rfl ?_ (show OSc ι nx (.loop { la with state:=st,pending:=pd })from⟨(H.sc l _ hl).1,(H.sc l _ hl).2⟩) rfl (fun c hc=>?_) (by simp)
 ·rw[hι];exact⟨h0,{ r with state:=st,pending:=pd },by simp[Array.getElem?_setIfInBounds_self_of_lt hlt],rfl,rfl,trivial,h5,h6,h7,h8,h9,h10⟩
 have:b≠c:=fun e=>hc (by rw[hι,e];rfl);simp[Array.getElem?_setIfInBounds_ne this]
theorem OY {ι:Nat->Loc}{n tn:Nat}:∀(ps:List Nat) (args:List Value) (e e0:List (Nat × Value)) (tm:Array Value) (ds:List Deferred),wW tn e ps args=some e0->dV ι n e { tmps:=tm,defers:=ds }->tm.size=tn->(∀ v∈args,fU ι n v) ->
  ps.length=args.length/\dV ι n e0 { tmps:=(ps.zip (args.map (tr ι))).foldl (fun tmps q=>tmps.setIfInBounds q.1 q.2) tm,defers:=ds }/\((ps.zip (args.map (tr ι))).foldl (fun tmps q=>tmps.setIfInBounds q.1 q.2) tm).size=tn
 |[],[],e,e0,tm,ds,h,he,hs,_=>by simp[wW]at h;subst h;exact⟨rfl,he,hs⟩
 |[],_::_,_,_,_,_,h,_,_,_=>by simp[wW]at h
 |_::_,[],_,_,_,_,h,_,_,_=>by simp[wW]at h
 |t::ts,v::vs,e,e0,tm,ds,h,he,hs,ha=>by
  simp only[wW]at h;split at h
  ·rename_i ht;have ht:=uO ht;have:=he.xQ (d:=t) (v:=v) (by show t<tm.size;omega) (ha v (by simp));obtain⟨h1,h2,h3⟩:=OY ts vs (put e t v) e0 (tm.setIfInBounds t (tr ι v)) ds h this (by simp[hs]) (fun u hu=>ha u (by simp[hu]));exact⟨by simp[h1],h2,h3⟩
  ·cases h
theorem QD {ι0 ι:Nat->Loc}{B0 nx0 nx tn:Nat}{w0:World}{e:List (Nat × Value)}{h:Heap}{a:Act}{w:World}(I:vR B0 w0 ι0 nx0 tn ι e h nx a w){q:Nat}{K:KE}{j:Option Code}{b o ex:Nat}(hq:q<nx0)(hι:ι0 q=.lay b o ex)(hl:BC q K j e h nx) :
  ∃ v w',(Instr.endRound b j).run P w=.ok v w'/\Ret B0 w0 ι0 nx0 K (.returned v) w':=by
 obtain⟨B,w1,ι1,nx1,ds,h1,h2,h3,h4,h5,J⟩:=I;unfold BC at hl;split at hl
 case h_2=>exact hl.elim
 rename_i la hk;have hold:∀ k,k<nx0->ι k=ι0 k:=fun k hk=>(J.old k (Nat.lt_of_lt_of_le hk h4)).trans (h3 k hk);obtain⟨r,k1,k2,k3,k4,k5⟩:=TH J.heap hk ((hold q hq).trans hι);obtain⟨k6,k7⟩:=k5 (if j.isNone then .ready else .done) j;refine⟨.bool j.isNone,_,?_,.bool j.isNone,_,nx,ι,hl,by simp[fU,mS,jJ,rG],k6.down h1,?_,hold,Nat.le_trans h4 J.le,rfl⟩
 ·simp only[Instr.endRound,Sem.run_bind,sC k1,Result.andThen_ok,xU k1,Sem.run_pure]
 exact h2.trans ((J.below.trans k7).mono h1)
theorem MQ {r:Option Nat}{tn:Nat}:H8 P r tn y7:=fun g ps as bd kn kx kr e h nx hl=>hl.elim
theorem C7:ZX y7:=fun g ps as bd kn kn' kx kx' kr kr' e h nx _ _ _ hl=>hl.elim
theorem aCl (hT:dJ P T)(hC:bN P C)(hY:fZ P Y)(hD:fG C)(hDY:fG Y)(hm:P.follows .mixedOrders=true){PL:Nat->Nat->Option gQ}{M:Nat}:fZ P (vF aF T C Y PL (.fuel M)):=by
 intro q args h nx K hl ι B w H hs b o ex hι;unfold vF at hl;split at hl
 case h_2=>exact hl.elim
 rename_i la hk;split at hl
 case h_2=>exact hl.elim
 rename_i e0 hz hpl;simp only[af]at hpl;have hq:q<nx:=H.low q _ hk;have ho:=H.obj q _ hk;rw[hι]at ho;obtain⟨g0,r,g1,g2,g3,g4,g5,g6,g7,g8,g9,g10⟩:=ho;have henv:dV ι nx la.env { tmps:=r.tmps,defers:=[] }:=fun t v hv=>⟨g6 t v hv,(H.sc q _ hk).1 t v hv⟩;obtain⟨z1,z2,z3⟩:=OY la.params args la.env e0 r.tmps [] hz henv g5 hs;have hsz:(args.map (tr ι)).toArray.size=r.params.size:=by
  rw[<- Array.length_toList (xs:=r.params),g7];simp[z1]
 refine⟨r.fn,(la.params.zip (args.map (tr ι))).foldl (fun tmps q=>tmps.setIfInBounds q.1 q.2) r.tmps,r.assign,r.body,?_,?_⟩
 ·have hf:(r.params.zip (args.map (tr ι)).toArray).foldl (fun tmps x=>match x with|(t,a)=>tmps.setIfInBounds t a) r.tmps=(la.params.zip (args.map (tr ι))).foldl (fun tmps q=>tmps.setIfInBounds q.1 q.2) r.tmps:=by
   rw[<- Array.foldl_toList,<- g7];simp
  simp only[Instr.yield,Sem.run_bind,sC g1,Result.andThen_ok,hsz,ne_eq,not_true_eq_false,if_false,Sem.run_ite,Sem.run_pure];rw[<- hf]
 refine roundIn_of_wpIn trivial ?_;rw[g8];have hbase:vR B w ι nx la.tn ι e0 h nx { tmps:=(la.params.zip (args.map (tr ι))).foldl (fun tmps q=>tmps.setIfInBounds q.1 q.2) r.tmps,defers:=[] } w :=
  ⟨B,w,ι,nx,[],ah _,jO.refl _ _,fun _ _=>rfl,ah _,⟨[],rfl,by simp,by simp⟩,z2,H,jO.refl _ _,fun _ _=>rfl,ah _,z3,rfl⟩
 refine ME hT hC hY hD hDY hm (some b) MQ C7 la.assign hpl.1 _ _ _ e0 h nx hl B w ι nx _ trivial ⟨?_,fun id ι e h nx a w hk _=>hk.elim,fun ι e h nx a w hk _=>hk.elim⟩ ι _ w hbase;intro ι1 e1 h1 nx1 a1 w1 hk1 I1;obtain⟨B1,wb,ιb,nxb,ds,i1,i2,i3,i4,i5,J⟩:=I1;split at hk1
 case h_2=>exact hk1.elim
 rename_i l1 hl1;split at hk1
 case h_2=>exact hk1.elim
 rename_i hst;have hold:∀ k,k<nx->ι1 k=ι k:=fun k hk=>(J.old k (Nat.lt_of_lt_of_le hk i4)).trans (i3 k hk);obtain⟨r1,k1,k2,k3,k4,k5⟩:=TH J.heap hl1 ((hold q hq).trans hι);obtain⟨k6,k7⟩:=k5 .busy r1.pending;rw[show({ l1 with state:=.busy,pending:=r1.pending }:aBX)={ l1 with state:=.busy } by rw[k3]]at k6;refine⟨{ w1 with heap:=w1.heap.setIfInBounds b (.loop { r1 with state:=.busy }) },?_,?_⟩
 ·have hr:r1.state=.ready:=k2.trans hst;simp[Instr.beginRound,sC k1,xU k1,hr]
 rw[g9];have I2:vR B w ι nx la.tn ι1 e1 (xQ h1 q (.loop { l1 with state:=.busy })) nx1 a1 { w1 with heap:=w1.heap.setIfInBounds b (.loop { r1 with state:=.busy }) } :=
  ⟨B1,wb,ιb,nxb,ds,i1,i2,i3,i4,i5,J.step J.env k6 k7 (fun _ _=>rfl) (ah _) J.size rfl⟩
 refine ME hT hC hY hD hDY hm (some b) MQ C7 la.body hpl.2 _ _ _ e1 _ nx1 hk1 B w ι nx _ trivial ⟨?_,?_,?_⟩ ι1 a1 _ I2
 ·exact fun ι e h nx a w hk I=>QD I hq hι hk
 ·exact fun id ι e h nx a w hk I=>QD I hq hι hk
 exact fun ι e h nx a w hk I=>QD I hq hι hk
end
theorem MD {E:KS->Prop}{F:List (Nat × Value)->Heap->Nat->KE->Prop}(hE:nV E)(hF:∀ v h nx,gN (F v h nx)):gN (fun K=>E (fun v h nx=>F v h nx K)):=by
 intro K hl;obtain⟨v,h,nx,h1,h2⟩:=hE _ hl;obtain⟨e,h',nx',h3,h4⟩:=hF v h nx K h1;exact⟨e,h',nx',h3,fun K' hk=>h2 _ (h4 K' hk)⟩
theorem X4 {E:KE->Prop}{F:Value->Heap->Nat->KE->Prop}(hE:gN E)(hF:∀ v h nx,gN (F v h nx)):gN (fun K=>E (fun v h nx=>F v h nx K)):=by
 intro K hl;obtain⟨v,h,nx,h1,h2⟩:=hE _ hl;obtain⟨e,h',nx',h3,h4⟩:=hF v h nx K h1;exact⟨e,h',nx',h3,fun K' hk=>h2 _ (h4 K' hk)⟩
theorem YF {α:Type}{E:(α->Prop)->Prop}{F:α->KE->Prop}(hE:zO E)(hF:∀ v,gN (F v)):gN (fun K=>E (fun v=>F v K)):=by
 intro K hl;obtain⟨v,h1,h2⟩:=hE _ hl;obtain⟨e,h',nx',h3,h4⟩:=hF v K h1;exact⟨e,h',nx',h3,fun K' hk=>h2 _ (h4 K' hk)⟩
def CD (f:KE->KS):Prop:=∀ e h nx,gN (fun K=>f K e h nx)
variable {A:Ar}{T:dN}{C:VC}{Y:VY}
def aLt (R:VR):Prop:=∀ g ps as bd (kn:KE->KS) (kx:Nat->KE->KS) (kr:KE->KS),CD kn->(∀ i,CD (kx i))->CD kr->CD (fun K=>R g ps as bd (kn K) (fun i=>kx i K) (kr K))
theorem OF {F:KE->KS->KS}(hF:∀ k:KE->KS,CD k->CD (fun K=>F K (k K))):∀ m,CD (fun K=>LX (F K) m)
 |0=>fun _ _ _=>iD
 |m+1=>hF (fun K=>LX (F K) m) (OF hF m)
theorem F3 (hC:fG C)(hY:fG Y){tn:Nat}{PL:Nat->Option gQ}{n:Nat}{R:VR}(hR:aLt R):∀(c:Code) (kn:KE->KS) (kx:Nat->KE->KS) (kr:KE->KS),CD kn->(∀ i,CD (kx i))->CD kr ->
  CD (fun K=>jY A T C Y tn PL (.fuel n) R c (kn K) (fun i=>kx i K) (kr K)):=by
 intro c
 induction c with
 |skip=>exact fun kn kx kr h1 _ _=>h1
 |region id ops draw =>
  intro kn kx kr h1 _ _ e h nx;simp only[jB,lU];cases draw with
  |false=>exact MD (F:=fun e h nx K=>kn K e h nx) (JG hC hY _ _ _ _) h1
  |true =>
   simp only;cases PL id with
   |none =>
    intro K hl;obtain⟨ea,ha,na,⟨e0,h0,n0,hi,hk⟩,hr⟩:=A6 hC hY _ _ _ _ _ _ hl;obtain⟨v,h',nx',q1,q2⟩:=h1 e0 h0 n0 K hk;exact⟨v,h',nx',q1,fun K' hk'=>hr _ ⟨e0,h0,n0,hi,q2 K' hk'⟩⟩
   |some p=>exact MD (F:=fun e h nx K=>kn K e h nx) (U4 hC hY) h1
 |seq a b iha ihb=>exact fun kn kx kr h1 h2 h3=>iha (fun K=>jY A T C Y tn PL (.fuel n) R b (kn K) (fun i=>kx i K) (kr K)) kx kr (ihb kn kx kr h1 h2 h3) h2 h3
 |cond c t f iht ihf =>
  intro kn kx kr h1 h2 h3 e h nx;simp only[jB,lU];intro K hl;split at hl
  ·rename_i b hb;exact D1 (iht kn kx kr h1 h2 h3 e h nx) (ihf kn kx kr h1 h2 h3 e h nx) K hl
  exact hl.elim
 |block id b ih =>
  intro kn kx kr h1 h2 h3;have:=ih kn (fun j=>match Nat.beq j id with|true=>kn|false=>kx j) kr h1 (fun j=>by
   cases hb:Nat.beq j id with
   |true=>simp only;exact h1
   |false=>simp only;exact h2 j) h3
  intro e h nx;have h5:=this e h nx;have heq:(fun K=>jY A T C Y tn PL (.fuel n) R (.block id b) (kn K) (fun i=>kx i K) (kr K) e h nx)=(fun K=>jY A T C Y tn PL (.fuel n) R b (kn K) (fun i=>(match Nat.beq i id with|true=>kn|false=>kx i) K) (kr K) e h nx):=by
   funext K;simp only[UI];congr 1;funext j;cases Nat.beq j id <;> rfl
  show gN (fun K=>jY A T C Y tn PL (.fuel n) R (.block id b) (kn K) (fun i=>kx i K) (kr K) e h nx);rw[heq];exact h5
 |loop b ih =>
  intro kn kx kr h1 h2 h3 e h nx;simp only[uX,aG4];exact OF (F:=fun K k=>jY A T C Y tn PL (.fuel n) R b k (fun i=>kx i K) (kr K)) (fun k hk=>ih k kx kr hk h2 h3) n e h nx
 |rangeFunc g ps as bd _ _=>exact fun kn kx kr h1 h2 h3=>hR g ps as bd kn kx kr h1 h2 h3
 |exit id=>exact fun kn kx kr _ h2 _=>h2 id
 |ret=>exact fun kn kx kr _ _ h3=>h3
 |label l=>exact fun kn kx kr h1 _ _=>h1
 |scope b ih=>exact fun kn kx kr h1 h2 h3=>ih kn kx kr h1 h2 h3
 |goto l=>exact fun _ _ _ _ _ _ _ _ _=>iD
 |refuse s=>exact fun _ _ _ _ _ _ _ _ _=>iD
theorem WT (hC:fG C){f tn:Nat}:aLt (xN C f tn):=by
 intro g ps as bd kn kx kr h1 h2 h3 e h nx;simp only[xN];refine kK fun gv=>?_;intro K hl;split at hl
 case h_2=>exact hl.elim
 split at hl
 case h_2=>exact hl.elim
 rename_i q first cap _ _ hfirst hcap
 refine X4 (E:=C q _ _ _) (F:=fun v h' nx' K=>(match aw h' (nx+1),aw h' nx with
  |some (.loop l),some .deferred=>(match l.state,l.pending with
   |.busy,_=>False
   |_,none=>kn K e (jR h' nx) nx'
   |_,some (.exit id)=>kx id K e (jR h' nx) nx'
   |_,some .ret=>kr K e (jR h' nx) nx'
   |_,_=>False)
  |_,_=>False)) (hC _ _ _ _) (fun v h' nx'=>?_) K hl
 intro K hl;split at hl
 case h_2=>exact hl.elim
 split at hl
 ·exact hl.elim
 ·exact h1 _ _ _ K hl
 ·exact h2 _ _ _ _ K hl
 ·exact h3 _ _ _ K hl
 exact hl.elim
theorem UJ (hC:fG C){f tn:Nat}:ZX (xN C f tn):=by
 intro g ps as bd kn kn' kx kx' kr kr' e h nx h1 h2 h3 hl;unfold xN at hl ⊢;obtain⟨gv,hgv,hl⟩:=dR hl;rw[hgv];simp only[on];split at hl
 case h_2=>exact hl.elim
 split at hl
 case h_2=>exact hl.elim
 obtain⟨v,h',nx',k1,k2⟩:=hC _ _ _ _ _ hl;refine k2 _ ?_;split at k1
 case h_2=>exact k1.elim
 split at k1
 ·exact k1.elim
 ·exact h1 _ _ _ k1
 ·exact h2 _ _ _ _ k1
 ·exact h3 _ _ _ k1
 exact k1.elim
end Go.Aw
end

noncomputable section
namespace Go.Aw
open Go.RowKit
section
variable {A:Ar}{T:dN}{C:VC}{Y:VY}
theorem vY {e:List (Nat × Value)}{h:Heap}:∀(l:List ResultVar),zO (iT T e h l)
 |[]=>DI
 |.tmp t::r=>by
  show zO (fun K=>iT T e h (.tmp t::r) K);simp only[pH,n7];exact kV (F:=fun v K=>iT T e h r fun l=>K (v::l)) fun v=>K8 (F:=fun l K=>K (v::l)) (vY r) fun l=>DI
 |.cell a t::r=>by
  show zO (fun K=>iT T e h (.cell a t::r) K);simp only[pH,n7];exact kV (F:=fun p K=>yL T h t p fun v=>iT T e h r fun l=>K (v::l)) fun p=>K8 (F:=fun v K=>iT T e h r fun l=>K (v::l)) O6 fun v =>
   K8 (F:=fun l K=>K (v::l)) (vY r) fun l=>DI
theorem aDW {fn:Func}{g:Value->Heap->Nat->Value × Heap × Nat}:CD (fun K=>HD T fn (fun v h nx=>K (g v h nx).1 (g v h nx).2.1 (g v h nx).2.2)):=by
 intro e h nx;unfold HD
 refine YF (F:=fun l K=>match l with
  |[v]=>K (g v h nx).1 (g v h nx).2.1 (g v h nx).2.2
  |l=>match PA l with|true=>K (g (.tuple l.toArray) h nx).1 (g (.tuple l.toArray) h nx).2.1 (g (.tuple l.toArray) h nx).2.2|false=>False) (vY _) fun l=>?_
 intro K hl;split at hl
 ·exact dF K hl
 split at hl
 ·exact dF K hl
 exact hl.elim
theorem LF {q:Nat}{j:Option Code}:CD (fun K=>BC q K j):=by
 intro e h nx;simp only[BC];cases aw h q with
 |none=>exact iD
 |some o=>cases o <;> first|exact dF|exact iD
theorem GX:aLt y7:=fun _ _ _ _ _ _ _ _ _ _ _ _ _=>iD
theorem ZP (hC:fG C)(hY:fG Y){PL:Nat->Nat->Option gQ}{n:Nat}:fG (vF A T C Y PL (.fuel n)):=by
 intro q args h nx;show gN (fun K=>vF A T C Y PL (.fuel n) q args h nx K);unfold vF;intro K hl;split at hl
 case h_2=>exact hl.elim
 rename_i la hk;split at hl
 case h_2=>exact hl.elim
 rename_i e0 hz hpl;refine F3 hC hY GX la.assign (fun K e1 h1 nx1 =>
  match aw h1 q with
  |some (.loop l1)=>(match l1.state with
   |.ready=>jY A T C Y la.tn (PL la.fn) (.fuel n) y7 la.body (BC q K none) (fun id=>BC q K (some (.exit id))) (BC q K (some .ret)) e1 (xQ h1 q (.loop { l1 with state:=.busy })) nx1
   |_=>False)
  |_=>False) (fun _ _ _ _ _=>False) (fun _ _ _ _=>False) ?_ (fun _ _ _ _=>iD) (fun _ _ _=>iD) e0 h nx K hl
 intro e1 h1 nx1 K hl;dsimp only at hl ⊢;split at hl
 case h_2=>exact hl.elim
 split at hl
 case h_2=>exact hl.elim
 exact F3 hC hY GX la.body (fun K=>BC q K none) (fun id K=>BC q K (some (.exit id))) (fun K=>BC q K (some .ret)) LF (fun _=>LF) LF e1 _ nx1 K hl
theorem aCc {c:EI}{n:Nat}(hC:fG C)(hY:fG Y)(hX:∀ f x,c.X f=some x->∀ args h nx,gN (x args h nx)):fG (tK c (some n) C Y):=by
 intro f args h nx;show gN (fun K=>tK c (some n) C Y f args h nx K);unfold tK;intro K hl;split at hl
 ·rename_i x hx;exact hX f x hx args h nx K hl
 split at hl
 ·exact hl.elim
 rename_i fn hfn;split at hl
 case h_2=>exact hl.elim
 rename_i b hb hle;have hv:CD (fun K=>HD c.T fn (fun v h' nx'=>K v h' nx')) :=
  aDW (g:=fun v h' nx'=>(v,h',nx'))
 exact F3 hC hY (WT hC) b (fun K=>HD c.T fn (fun v h' nx'=>K v h' nx')) (fun _ _ _ _ _=>False) (fun K=>HD c.T fn (fun v h' nx'=>K v h' nx')) hv (fun _ _ _ _=>iD) hv _ h nx K hl
end
def c7 (P:Program)(f:Nat)(x:List Value->Heap->Nat->KE->Prop):Prop:=(∀ args h nx K,x args h nx K->∀ ι B w,aY ι B h nx w->(∀ v∈args,fU ι nx v) ->
 (∃ fn, P.funcs[f]? = some fn ∧ fn.body.isSome = true ∧ (fn.name == "runtime.NumGoroutine") = false) ∧ CallsIn Fence.wide 0 P f (args.map (tr ι)).toArray w (Ret B w ι nx K)) ∧ ∀ args h nx, gN (x args h nx)
structure o6 (P:Program) (c:EI):Prop where
 ar:c.A=aF
 tab:dJ P c.T
 mixed:P.follows .mixedOrders=true
 funcs : ∀ f fn, c.FT f = some fn → P.funcs[f]? = some fn ∧ (fn.name == "runtime.NumGoroutine") = false ∧ ∀ b, fn.body = some b → fF (c.PL f) b = true
 xs:∀ f x,c.X f=some x->c7 P f x
section
variable {P:Program}{c:EI}{C:VC}{Y:VY}
theorem tM (hc:o6 P c)(hC:bN P C)(hY:fZ P Y)(hD:fG C)(hDY:fG Y)(M:Option Nat):bN P (tK c M C Y):=by
 intro f args h nx K hl ι B w H hs;unfold tK at hl;split at hl
 ·rename_i x hx;exact(hc.xs f x hx).1 args h nx K hl ι B w H hs
 split at hl
 ·exact hl.elim
 rename_i fn hfn;split at hl
 case h_2=>exact hl.elim
 rename_i b hb hle;obtain⟨h1,h2,h3⟩:=hc.funcs f fn hfn;refine⟨⟨fn,h1,by rw[hb];rfl,h2⟩,?_⟩;rw[hc.ar]at hl;refine aHJ (K':=K) hc.tab hC hY hD hDY hc.mixed h1 hb (h3 b hb) (by cases M with|none=>exact ah _|some n=>trivial) (aCV hC) (UJ hD) (Nat.le_of_ble_eq_true hle) (fun v h' nx' hk=>⟨_,hk,fun k o hlk=>hlk⟩) hl H hs
theorem xS {n:Nat}{g:Heap}:∀{h:Heap} {k:Nat} {o:bV},aw (sJ n g h) k=some o->aw h k=some o/\n<=k/\((∃ a b c,aw g k=some (.cells true a b c))\/∃ es,aw g k=some (.map es))
 |[],k,o,hk=>by cases hk
 |(j,q)::r,k,o,hk=>by
  have drop:aw (sJ n g r) k=some o->((∃ a b c,aw g j=some (.cells true a b c))->n<=j->False)->((∃ es,aw g j=some (.map es))->n<=j->False)->aw ((j,q)::r) k=some o/\n<=k/\((∃ a b c,aw g k=some (.cells true a b c))\/∃ es,aw g k=some (.map es)):=by
   intro h1 h2 h3;obtain⟨i1,i2,i3⟩:=xS h1;refine⟨?_,i2,i3⟩;rw[aD];split
   ·rename_i hb;have:=az hb;subst this;rcases i3 with i3|i3
    ·exact(h2 i3 i2).elim
    exact(h3 i3 i2).elim
   exact i1
  have FX:aw ((j,q)::sJ n g r) k=some o->n<=j->((∃ a b c,aw g j=some (.cells true a b c))\/∃ es,aw g j=some (.map es))->aw ((j,q)::r) k=some o/\n<=k/\((∃ a b c,aw g k=some (.cells true a b c))\/∃ es,aw g k=some (.map es)):=by
   intro h1 h2 h3;rw[aD]at h1 ⊢;split at h1
   ·rename_i hb;have:=az hb;subst this;exact⟨h1,h2,h3⟩
   exact xS h1
  unfold sJ at hk;split at hk
  ·rename_i a b c hn hg;exact FX hk (Nat.le_of_ble_eq_true hn) (.inl ⟨_,_,_,hg⟩)
  ·rename_i es hn hg;exact FX hk (Nat.le_of_ble_eq_true hn) (.inr ⟨_,hg⟩)
  rename_i n1 n2;exact drop hk (fun⟨a,b,c,h1⟩ h2=>n1 _ _ _ (Nat.ble_eq_true_of_le h2) h1) (fun⟨es,h1⟩ h2=>n2 _ (Nat.ble_eq_true_of_le h2) h1)
theorem aM2 {PR:Nat->Bool}(hC:bN P C):bN P (frC PR C):=by
 intro f args h nx K hl ι B w H hs;unfold frC at hl;split at hl
 case h_2=>exact hC f args h nx K hl ι B w H hs
 obtain⟨c1,c2⟩:=hC f args (iH h) nx _ hl ι w.heap.size w H.shut hs;refine⟨c1,CallsIn.mono c2 fun e w' hr=>?_⟩;cases e with
 |returned u =>
  obtain⟨v,h',nx',ι',q1,q2,q3,q4,q5,q6,q7⟩:=hr;have H':aY ι B h nx w':=H.ext q4;unfold frK at q1;split at q1
  ·rename_i hg;exact⟨v,h,nx,ι,q1,c9 hg,H',q4.mono H.size,fun _ _=>rfl,ah _,by rw[q7,iU hg,iU hg]⟩
  refine⟨v,_,nx',ι',q1,q2,?_,q4.mono H.size,q5,q6,q7⟩;have Q:=q3.down H.size;have hcase:∀ k o,aw (app (sJ nx h' h') h) k=some o->(aw h k=some o/\k<nx)\/(aw h' k=some o/\nx<=k/\∀ b,(ι' k).F9=some b->w.heap.size<=b):=by
   intro k o hk;rw[jM]at hk;split at hk
   ·rename_i o1 ho;injection hk with hk;subst hk;obtain⟨a1,a2,a3⟩:=xS ho;refine .inr ⟨a1,a2,fun b hb=>?_⟩;have hob:=q3.obj k _ a1;cases hl:ι' k with
    |nil p=>rw[hl]at hb;cases hb
    |lay b2 off e =>
     rw[hl]at hb hob;have e1:b2=b:=(by simpa[Loc.F9]using hb);subst e1;rcases a3 with⟨a,b',c,a3⟩|⟨es,a3⟩
     ·rw[a1]at a3;injection a3 with a3;subst a3;exact hob.1
     rw[a1]at a3;injection a3 with a3;subst a3;exact hob.1
   exact .inl ⟨hk,H.low k _ hk⟩
  refine⟨fun k o hk=>?_,fun k k' o o' hk hk' hne ha b hb=>?_,fun k o hk=>?_,H'.size,fun k o hk=>?_⟩
  ·rcases hcase k o hk with⟨h2,h3⟩|⟨h2,h3,_⟩
   ·rw[q5 k h3];exact(H'.obj k o h2).names (H'.sc k o h2) q5
   exact Q.obj k o h2
  ·rcases hcase k o hk with⟨h2,h3⟩|⟨h2,h3,h4⟩ <;> rcases hcase k' o' hk' with⟨h2',h3'⟩|⟨h2',h3',h4'⟩
   ·rw[q5 k h3]at hb;rw[q5 k' h3'];exact H'.sep k k' o o' h2 h2' hne ha b hb
   ·rw[q5 k h3]at hb;intro hb';have:=h4' b hb';have:=(H.obj k o h2).lt hb;omega
   ·rw[q5 k' h3'];intro hb';have:=h4 b hb;have:=(H.obj k' o' h2').lt hb';omega
   exact Q.sep k k' o o' h2 h2' hne ha b hb
  ·rcases hcase k o hk with⟨h2,h3⟩|⟨h2,h3,h4⟩
   ·omega
   exact Q.low k o h2
  ·rcases hcase k o hk with⟨h2,h3⟩|⟨h2,h3,h4⟩
   ·exact(H'.sc k o h2).mono q6 q5
   exact Q.sc k o h2
 |_=>exact hr.elim
theorem aK5 {PR:Nat->Bool}(hC:fG C):fG (frC PR C):=by
 intro f args h nx K hl;unfold frC at hl ⊢;cases hp:PR f with
 |false=>simp only[hp]at hl ⊢;exact hC f args h nx K hl
 |true =>
 simp only[hp]at hl ⊢;obtain⟨v,h',nx',q1,q2⟩:=hC _ _ _ _ _ hl;unfold frK at q1;split at q1
 ·rename_i hg;refine⟨v,h,nx,q1,fun K' hk=>q2 _ ?_⟩;unfold frK;rw[hg];exact hk
 rename_i hg;refine⟨v,_,nx',q1,fun K' hk=>q2 _ ?_⟩;unfold frK;rw[hg];exact hk
theorem kA (hc:o6 P c):∀ d,bN P (qI c d false)/\fZ P (qI c d true)/\fG (qI c d false)/\fG (qI c d true)
 |0=>⟨fun _ _ _ _ _ hl=>hl.elim,fun _ _ _ _ _ hl=>hl.elim,fun _ _ _ _ _ hl=>hl.elim,fun _ _ _ _ _ hl=>hl.elim⟩
 |d+1=>by
  obtain⟨h1,h2,h3,h4⟩:=kA hc d;refine⟨aM2 (tM hc h1 h2 h3 h4 _),?_,aK5 (aCc h3 h4 (fun f x hx=>(hc.xs f x hx).2)),ZP h3 h4⟩;show fZ P (vF c.A c.T (qI c d false) (qI c d true) c.PL (.fuel c.M));rw[hc.ar];exact aCl hc.tab h1 h2 h3 h4 hc.mixed
end
def aBi:Value->Value->Bool
 |.int k a,.int k' b=>kEq k k'&&decide (a=b)
 |.bool a,.bool b=>a == b
 |.pointer none,.pointer none=>true
 |.slice none n c,.slice none m d=>Nat.beq n m&&Nat.beq c d
 |.map none,.map none=>true
 |.nilFunc,.nilFunc=>true
 |.nilIface,.nilIface=>true
 |.string a,.string b=>(match a.data.toList,b.data.toList with|[],[]=>true|_,_=>false)
 |_,_=>false
def IJ:List Value->List Value->Bool
 |[],[]=>true
 |x::r,y::s=>aBi x y&&IJ r s
 |_,_=>false
def aEd:Value->Value->Bool
 |.agg xs,.agg ys=>IJ xs.toList ys.toList
 |x,y=>aBi x y
theorem T1 {x y:Value}(h:aBi x y=true):x=y:=by
 unfold aBi at h;split at h
 ·simp only[af,ag]at h;rw[uD h.1,h.2]
 ·simpa using h
 ·rfl
 ·simp only[af]at h;rw[az h.1,az h.2]
 ·rfl
 ·rfl
 ·rfl
 ·rename_i a b;split at h
  ·rename_i h1 h2;obtain⟨⟨a⟩⟩:=a;obtain⟨⟨b⟩⟩:=b;simp at h1 h2;rw[h1,h2]
  ·cases h
 ·cases h
theorem KH:∀{x y:List Value},IJ x y=true->x=y
 |[],[],_=>rfl
 |[],_::_,h=>by cases h
 |_::_,[],h=>by cases h
 |x::r,y::s,h=>by
  simp only[IJ,af]at h;rw[T1 h.1,KH h.2]
theorem aH0 {x y:Value}(h:aEd x y=true):x=y:=by
 unfold aEd at h;split at h
 ·congr 1;apply Array.ext';exact KH h
 exact T1 h
def tyB (P:Program)(t:TypeId)(i:WE):Bool :=
 (match P.info? t with|some x=>Nat.beq x.size i.size&&Nat.beq x.bytes i.bytes&&(match x.zero with|some z=>aEd z i.zv|none=>false)|none=>false) &&
 (match P.underlying t with|some d=>KOK d i.kind|none=>false) &&
 Nat.beq i.zv.cells.size i.size&&gA i.zv&&!P.stoodInHeld t&&!P.eqGuardType P.depth t&&Nat.blt 0 i.size
def aHN (P:Program):dN->Bool
 |[]=>true
 |(t,i)::r=>tyB P t i&&aHN P r
theorem aM0 {P:Program}{t:TypeId}{i:WE}(h:tyB P t i=true):pJ P t i:=by
 unfold tyB at h;simp only[af,Bool.not_eq_true']at h;obtain⟨⟨⟨⟨⟨⟨h1,h2⟩,h3⟩,h4⟩,h5⟩,h6⟩,h7⟩:=h;split at h1
 case h_2=>cases h1
 rename_i x hx;simp only[af]at h1;obtain⟨⟨h8,h9⟩,h10⟩:=h1;split at h10
 case h_2=>cases h10
 rename_i z hz;split at h2
 case h_2=>cases h2
 rename_i d hd;exact⟨⟨x,hx,az h8,az h9,by rw[hz,aH0 h10]⟩,⟨d,hd,h2⟩,az h3,h4,h5,h6,uO h7⟩
theorem RQ {P:Program}:∀{T:dN},aHN P T=true->dJ P T
 |[],_,t,i,h=>by cases h
 |(u,j)::r,hb,t,i,h=>by
  simp only[aHN,af]at hb;simp only[aD]at h;split at h
  ·rename_i hu;have:=az hu;subst this;injection h with h;subst h;exact aM0 hb.1
  exact RQ hb.2 t i h
end Go.Aw
end
