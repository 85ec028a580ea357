/-
  Parts of the proof, put together. No condition.
-/
import Derived.Test.YtjahkcbdecgbhaaGreatQAj
set_option linter.unusedSimpArgs false
set_option linter.unusedVariables false
noncomputable section
namespace Go.Aw
open Go.RowKit
def gE (h:Heap)(nx:Nat):Heap:=dW (rem (rem h (nx+1)) nx)
def tG (C:VC)(f tn:Nat):VR:=fun g ps as bd kn kx kr e h nx =>
 on (cU e g) fun gv=>match gv with
  |.func (.func q) first cap=>(match first.toList,qX cap.toList with
   |[],true=>C q (.func (.yield (nx+1)) #[] #[]::cap.toList)
    (bM (bM h nx .deferred) (nx+1) (.loop { state:=.ready,pending:=none,fn:=f,env:=e,tn:=tn,params:=ps.toList,assign:=as,body:=bd,defers:=nx })) (nx+2) fun _ h' nx' =>
    (match look h' (nx+1),look h' nx with
    |some (.loop l),some .deferred=>(match l.state,l.pending with
     |.busy,_=>False
     |_,none=>kn e (gE h' nx) nx'
     |_,some (.exit id)=>kx id e (gE h' nx) nx'
     |_,some .ret=>kr e (gE h' nx) nx'
     |_,_=>False)
    |_,_=>False)
   |_,_=>False)
  |_=>False
def uO:VR:=fun _ _ _ _ _ _ _ _ _ _=>False
def sX (tn:Nat):List (Nat × Value)→List Nat→List Value→Option (List (Nat × Value))
 |e,[],[]=>some e
 |e,t::ts,v::vs=>match Nat.blt t tn with|true=>sX tn (put e t v) ts vs|false=>none
 |_,_,_=>none
def wE (q:Nat)(K:KE)(j:Option Code):KS:=fun _ h nx =>
 match look h q with
 |some (.loop l)=>K (.bool j.isNone) (wM h q (.loop { l with state:=if j.isNone then .ready else .done,pending:=j })) nx
 |_=>False
def qA (A:Ar)(T:cH)(C:VC)(Y:VY)(PL:Nat→Nat→Option eR)(M:LM):VY:=fun q args h nx K =>
 match look h q with
 |some (.loop l)=>(match sX l.tn l.env l.params args,cF (PL l.fn) l.assign&&cF (PL l.fn) l.body with
  |some e0,true=>gL A T C Y l.tn (PL l.fn) M uO l.assign (fun e1 h1 nx1 =>
   match look h1 q with
   |some (.loop l1)=>(match l1.state with
    |.ready=>gL A T C Y l.tn (PL l.fn) M uO l.body (wE q K none) (fun id=>wE q K (some (.exit id))) (wE q K (some .ret)) e1 (wM h1 q (.loop { l1 with state:=.busy })) nx1
    |_=>False)
   |_=>False) (fun _ _ _ _=>False) (fun _ _ _=>False) e0 h nx
  |_,_=>False)
 |_=>False
def qY:Nat→List Value→List (Nat × Value)
 |_,[]=>[]
 |i,v::r=>(i,v)::qY (i+1) r
def prune (n:Nat):Heap→Heap
 |[]=>[]
 |(k,o)::r=>match Nat.blt k n with|true=>(k,o)::prune n r|false=>prune n r
structure CC where
 A:Ar
 T:cH
 FT:Nat→Option Func
 PL:Nat→Nat→Option eR
 PR:Nat→Bool
 X:Nat→Option (List Value→Heap→Nat→KE→Prop)
 M:Nat
def sY (c:CC)(M:Option Nat)(C:VC)(Y:VY):VC:=fun f args h nx K =>
 match c.X f with
 |some x=>x args h nx K
 |none=>match c.FT f with
  |none=>False
  |some fn=>(match fn.body,Nat.ble args.length fn.ntmps with
   |some b,true =>
    let fin:KS:=BQ c.T fn fun v h' nx'=>K v h' nx'
    gL c.A c.T C Y fn.ntmps (c.PL f) (match M with|some n=>.fuel n|none=>.inv nx) (tG C f fn.ntmps) b fin (fun _ _ _ _=>False) fin (qY 0 args) h nx
   |_,_=>False)
def app:Heap→Heap→Heap
 |[],l=>l
 |x::r,l=>x::app r l
theorem fY (h l:Heap)(k:Nat):look (app h l) k=match look h k with|some o=>some o|none=>look l k:=by
 induction h with
 |nil=>rfl
 |cons x r ih =>
  obtain⟨j,o⟩:=x;simp only [app,aD];cases Nat.beq j k with
  |true=>rfl
  |false=>exact ih
def oW (n:Nat)(g:Heap):Heap→Heap
 |[]=>[]
 |(k,o)::r=>match Nat.ble n k,look g k with
  |true,some (.cells true _ _ _)=>(k,o)::oW n g r
  |true,some (.map _)=>(k,o)::oW n g r
  |_,_=>oW n g r
def frK (h:Heap)(nx:Nat)(K:KE):KE:=fun v h' nx'=>match gT v with
 |true=>K v h nx
 |false=>K v (app (oW nx h' h') h) nx'
def frC (PR:Nat→Bool)(C:VC):VC:=fun f args h nx K=>match PR f with
 |true=>C f args (dW h) nx (frK h nx K)
 |false=>C f args h nx K
def sS (c:CC):Nat→Bool→VC
 |0,_=>fun _ _ _ _ _=>False
 |d+1,false=>frC c.PR (sY c (some c.M) (sS c d false) (sS c d true))
 |d+1,true=>qA c.A c.T (sS c d false) (sS c d true) c.PL (.fuel c.M)
section
variable {P:Program}{T:cH}
theorem aQ.down {ι:Nat→Loc}{B B0 nx:Nat}{h:Heap}{w:World}(H:aQ ι B h nx w)(hB:B0≤B):aQ ι B0 h nx w:=by
 refine⟨fun k o hk=>?_,H.sep,H.low,Nat.le_trans hB H.size,H.sc⟩;have ho:=H.obj k o hk;cases hι:ι k with
 |nil p=>rw [hι] at ho;cases o <;> first|exact ho|exact ho.elim
 |lay b off e =>
  rw [hι] at ho;cases o with
  |cells wr g sz cs =>
   cases wr with
   |true=>exact⟨Nat.le_trans hB ho.1,ho.2⟩
   |false=>exact ho
  |map es=>exact⟨Nat.le_trans hB ho.1,ho.2⟩
  |loop l=>exact⟨Nat.le_trans hB ho.1,ho.2⟩
  |deferred=>exact⟨Nat.le_trans hB ho.1,ho.2⟩
  |zero=>exact ho
theorem aQ.taken {ι:Nat→Loc}{B nx:Nat}{h:Heap}{w:World}(H:aQ ι B h nx w){b:Nat}(hb:b<B){ds:Option (List Deferred)}(hd:w.heap[b]? = some (.deferred ds))(o:Obj) :
  aQ ι B h nx { w with heap:=w.heap.setIfInBounds b o }:=by
 have hother:∀ c,c≠b→(w.heap.setIfInBounds b o)[c]? = w.heap[c]? := fun c hc=>(by rw [Array.getElem?_setIfInBounds_ne (fun e=>hc e.symm)]);refine⟨fun k q hk=>?_,H.sep,H.low,by simpa using H.size,H.sc⟩;have hq:=H.obj k q hk;by_cases hkb:(ι k).CA=some b
 ·-- only what is read,and that is empty
  cases hι:ι k with
  |nil p=>rw [hι] at hkb;cases hkb
  |lay c off e =>
   have hcb:c=b:=(by rw [hι] at hkb;simpa [Loc.CA] using hkb);subst hcb;rw [hι] at hq;cases q with
   |cells wr g sz cs =>
    cases wr with
    |true=>have:=hq.1;omega
    |false =>
     refine⟨by simpa using hq.1,hq.2.1,fun i v hv=>?_⟩;have:=hq.2.2 i v hv;simp [World.cell?,hd] at this
   |map es=>have:=hq.1;omega
   |loop l=>have:=hq.1;omega
   |deferred=>have:=hq.1;omega
   |zero=>exact hq.elim
 ·exact hq.AF (fun c hc=>hother c (fun e=>hkb (e▸hc))) (by simp)
theorem wR {ι:Nat→Loc}{B B0 nx:Nat}{h:Heap}{fn:Func}{tmps:Array Value}{Rr:Ending→World→Prop}:∀ (bs:List Nat) (w:World),bs.Nodup→(∀ b∈bs,B0≤b∧b<B∧w.heap[b]? = some (.deferred (some [])))→aQ ι B h nx w →
  (∀ w',aQ ι B h nx w'→gD B0 w w'→∃ u,(results fn tmps).run P w'=.ok u w'∧Rr (.returned u) w')→LeavesInM Fence.wide 0 P fn tmps Rr (bs.map zG) .returning w
 |[],w,_,_,H,hR=>hR w H (gD.refl _ _)
 |b::bs,w,hn,hb,H,hR=>by
  rw [List.nodup_cons] at hn;obtain⟨h1,h2,h3⟩:=hb b (by simp);have hlt:=(Array.getElem?_eq_some_iff.1 h3).1;have hbel:gD B0 w { w with heap:=w.heap.setIfInBounds b (.deferred none) }:=⟨rfl,rfl,rfl,by simp,fun c hc=>by
   simp [Array.getElem?_setIfInBounds_ne (show b≠c by omega)],Nat.le_refl _⟩
  refine⟨by simp,.inl ⟨b,{ w with heap:=w.heap.setIfInBounds b (.deferred none) },rfl,?_,?_⟩⟩
  ·simp [Instr.takeDeferred,getObj,setObj,Sem.run,h3]
  ·refine wR bs _ hn.2 (fun c hc=>?_) (H.taken h2 h3 _) (fun w' H' hb'=>hR w' H' (hbel.trans hb'));obtain⟨k1,k2,k3⟩:=hb c (by simp [hc]);have hne:b≠c:=fun e=>hn.1 (e▸hc);exact⟨k1,k2,by simp [Array.getElem?_setIfInBounds_ne hne,k3]⟩
end
section
variable {P:Program}{T:cH}{C:VC}{Y:VY}
theorem yM:∀ (l:List Value) (i t:Nat) (v:Value),look (qY i l) t=some v→i≤t∧l[t - i]? = some v
 |[],i,t,v,h=>by cases h
 |x::r,i,t,v,h=>by
  simp only [qY,aD] at h;split at h
  ·rename_i hb;have:=beq_true hb;subst this;injection h with h;subst h;exact⟨Nat.le_refl _,by simp⟩
  ·obtain⟨h1,h2⟩:=yM r (i+1) t v h;refine⟨by omega,?_⟩;rw [show t - i=(t - (i+1))+1 by omega];simpa using h2
theorem RE {ι:Nat→Loc}{n:Nat}{args:List Value}(hs:∀ v∈args,eL ι n v){k:Nat}{ds:List Deferred}:cR ι n (qY 0 args) { tmps:=(args.map (tr ι)).toArray++Array.replicate k undef,defers:=ds }:=by
 intro t v h;obtain⟨_,h2⟩:=yM args 0 t v h;rw [Nat.sub_zero] at h2;have hlt:=(List.getElem?_eq_some_iff.1 h2).1;refine⟨?_,hs v (List.mem_of_getElem? h2)⟩;rw [Array.getElem?_append_left (by simpa using hlt)];simp [h2]
theorem aBr (hT:cD P T)(hC:bE P C)(hY:eC P Y)(hD:dY C)(hDY:dY Y)(hm:P.follows .mixedOrders=true){f:FuncId}{fn:Func}{b:Code}(hf:P.funcs[f]? = some fn)(hb:fn.body=some b){nx:Nat}{PL:Nat→Option eR}(hp:cF PL b=true)
  {M:LM} (hM:M.low nx) {R:VR} (hR:CM P none fn.ntmps R) (hRm:UJ R) {args:List Value} (ha:args.length≤fn.ntmps) {h:Heap} {K K':KE} (hK:∀ v h' nx',K' v h' nx'→∃ h'',K v h'' nx'∧∀ k o,look h'' k=some o→look h' k=some o)
  (hl:gL aC T C Y fn.ntmps PL M R b (BQ T fn K') (fun _ _ _ _=>False) (BQ T fn K') (qY 0 args) h nx) {ι:Nat→Loc} {B:Nat} {w:World} (H:aQ ι B h nx w) (hs:∀ v∈args,eL ι nx v) :
  CallsIn Fence.wide 0 P f (args.map (tr ι)).toArray w (Ret B w ι nx K):=by
 refine callsIn_of_wp_marks hf hb trivial ?_ rfl;have hend:∀ ι' e h' nx' a w',BQ T fn K' e h' nx'→qD B w ι nx fn.ntmps ι' e h' nx' a w'→LeavesInM Fence.wide 0 P fn a.tmps (Ret B w ι nx K) a.defers .returning w':=by
  intro ι' e h' nx' a w' hv I;obtain⟨B1,w1,ι1,nx1,ds,h1,h2,h3,h4,⟨bs,rfl,hnd,hbs⟩,J⟩:=I;rw [J.defers];obtain⟨v,k1,k2,k3⟩:=aC1 hT J.env J.heap hv;obtain⟨h'',k4,k5⟩:=hK v h' nx' k1;refine wR (B:=B1) (B0:=B) bs w' hnd (fun x hx=>?_) J.heap (fun w2 H2 hb2=>⟨_,k3 w2 H2,v,h'',nx',ι',k4,k2,(H2.down h1).sub k5,?_,fun k hk=>(J.old k (Nat.lt_of_lt_of_le hk h4)).trans (h3 k hk),Nat.le_trans h4 J.le,rfl⟩)
  ·obtain⟨q1,q2,q3⟩:=hbs x hx;exact⟨q1,q2,by rw [J.below.block x q2];exact q3⟩
  ·exact (h2.trans (J.below.mono h1)).trans hb2
 refine DJ hT hC hY hD hDY hm none hR hRm b hp _ _ _ _ h nx hl B w ι nx _ hM ⟨?_,?_,?_⟩ ι _ w ?_
 ·exact fun ι' e h' nx' a w' hv I=>hend ι' e h' nx' a w' hv I
 ·exact fun id ι' e h' nx' a w' hv I=>hv.elim
 ·exact fun ι' e h' nx' a w' hv I=>hend ι' e h' nx' a w' hv I
 ·refine⟨B,w,ι,nx,[],Nat.le_refl _,gD.refl _ _,fun _ _=>rfl,Nat.le_refl _,⟨[],rfl,by simp,by simp⟩,RE hs,H,gD.refl _ _,fun _ _=>rfl,Nat.le_refl _,?_,rfl⟩;simp;omega
end
section
variable {P:Program}{T:cH}{C:VC}{Y:VY}
theorem oC {w:World}{l:Nat}{r:Loop}(h:w.heap[l]? = some (.loop r)):(Instr.getLoop l).run P w=.ok r w:=by
 simp [Instr.getLoop,getObj,Sem.run,h]
theorem s9 {w:World}{l:Nat}{r:Loop}(h:w.heap[l]? = some (.loop r))(o:Obj):(setObj l o).run P w=.ok () { w with heap:=w.heap.setIfInBounds l o }:=by
 simp [setObj,Sem.run,h]
theorem W4 (hC:bE P C){f tn:Nat}:CM P none tn (tG C f tn):=by
 intro g ps as bd kn kx kr e h nx hl B0 w0 ι0 nx0 Q E ι a w I;obtain⟨B,w1,ι1,nx1,ds,h1,h2,h3,h4,⟨bs,hds,hnd,hbs⟩,J⟩:=I;unfold tG at hl;obtain⟨gv,hgv,hl⟩:=cN hl;obtain⟨e1,e2⟩:=J.env.cU hgv;split at hl
 case h_2=>exact hl.elim
 rename_i q first cap;split at hl
 case h_2=>exact hl.elim
 rename_i hfirst hcap;obtain⟨first⟩:=first;simp only at hfirst;subst hfirst;refine wpIn_rangeFunc fun fnid _=>?_
 -- the records
 have H:=J.heap;have hA:=H.new (.deferred (some [])) .deferred ⟨H.size,(MapKept.heap_alloc w _).1⟩ trivial;generalize hι2:ins ι nx (.lay w.heap.size 0 0)=ι2 at hA;generalize hwA:w.alloc (.deferred (some []))=wA at hA;have hbA:gD w.heap.size w wA:=(by rw [← hwA];exact dD w _);have hi2:∀ k,k<nx→ι2 k=ι k:=fun k hk=>(by rw [← hι2];exact cA _ _ hk);have hmark:ι2 nx=.lay w.heap.size 0 0:=(by rw [← hι2];exact bF _ _ _);let rec_:Loop:={ state:=.ready,pending:=none,fn:=fnid,tmps:=a.tmps,params:=ps,assign:=as,body:=bd,defers:=w.heap.size };let la:S0:={ state:=.ready,pending:=none,fn:=f,env:=e,tn:=tn,params:=ps.toList,assign:=as,body:=bd,defers:=nx };have hi3':∀ k,k<nx→ins ι2 (nx+1) (.lay wA.heap.size 0 0) k=ι k:=fun k hk=>(by rw [cA _ _ (by omega)];exact hi2 k hk);have hB:=hA.new (.loop rec_) (.loop la) (by
  refine⟨hA.size,rec_,(MapKept.heap_alloc wA _).1,rfl,rfl,trivial,J.size,fun t v hv=>?_,rfl,rfl,rfl,?_⟩
  ·obtain⟨k1,k2⟩:=J.env t v hv;rw [FV hi3' k2];exact k1
  ·show (ins ι2 (nx+1) (.lay wA.heap.size 0 0) nx).CA=some w.heap.size;rw [cA _ _ (by omega),hmark];rfl) ⟨fun t v hv=>pG (by omega) hi3' (J.env t v hv).2,by show nx<nx+1+1;omega⟩
 generalize hι3:ins ι2 (nx+1) (.lay wA.heap.size 0 0)=ι3 at hB hi3';generalize hwB:wA.alloc (.loop rec_)=wB at hB;have hbB:gD wA.heap.size wA wB:=(by rw [← hwB];exact dD wA _);have hl3:ι3 (nx+1)=.lay wA.heap.size 0 0:=(by rw [← hι3];exact bF _ _ _);have hm3:ι3 nx=.lay w.heap.size 0 0:=(by rw [← hι3,cA _ _ (by omega)];exact hmark);have hwA1:w.heap.size<wA.heap.size:=by rw [← hwA];exact (Array.getElem?_eq_some_iff.1 (MapKept.heap_alloc w _).1).1
 -- the call
 obtain⟨⟨fn,hfn,hbody,hname⟩,hcalls⟩:=hC q _ _ _ _ hl ι3 B wB hB (by
  intro v hv;rcases List.mem_cons.1 hv with rfl|hv
  ·simp [eL,kH,gN,OY,hl3,Loc.gG]
  ·obtain⟨p,rfl⟩:=gU hcap v hv;exact pG (by omega) hi3' (show eL ι nx (.pointer (some p)) from e2.2 _ hv))
 have hcapm:cap.map (dS ι)=(cap.toList.map (tr ι3)).toArray:=by
  apply Array.ext';simp only [Array.toList_map];apply List.map_congr_left;intro v hv;obtain⟨p,rfl⟩:=gU hcap v hv;exact (FV hi3' (show eL ι nx (.pointer (some p)) from e2.2 _ hv)).symm
 have hy:tr ι3 (.func (.yield (nx+1)) #[] #[])=.func (.yield wA.heap.size) #[] #[]:=(by simp [tr,dO,bS,nW,hl3]);obtain⟨bdy,hb'⟩:=Option.isSome_iff_exists.1 hbody;have hname' : fn.name ≠ "runtime.NumGoroutine" := (by simpa using hname);refine⟨wA.heap.size,[zG w.heap.size],wB,{ target:=.fn (.func q) (cap.map (dS ι)),args:=#[.func (.yield wA.heap.size) #[] #[]] },wB,q,((Value.func (.yield (nx+1)) #[] #[]::cap.toList).map (tr ι3)).toArray,wB,?_,?_,fun _ _=>trivial,?_,fun hdep=>absurd hdep (by simp [Fr,Fence.wide]),?_⟩
 ·have hr:(Fr none).round=none:=rfl;rw [hr];subst hwB;subst hwA;simp [Instr.enterLoop,zG,rec_]
 ·have he1:a.eval g=.func (.func q) #[] (cap.map (dS ι)):=e1;have hc:∀ v,a.eval (.const v)=v:=fun _=>rfl;simp [resolve,rangeCall,he1,hc,Deferred.ofValue]
 ·simp [invoke,callFunc,hfn,hname',hb',hcapm,hy]
 ·refine CallsIn.mono (F:=Fence.wide) hcalls fun en w3 hret=>?_;cases en with
  |panicked c=>exact hret.elim
  |outgrown=>exact hret.elim
  |returned u =>
   obtain⟨v,h',nx',ι',k1,k2,k3,k4,k5,k6,rfl⟩:=hret;split at k1
   case h_2=>exact k1.elim
   rename_i l' hl1 hl2;have hι'l:ι' (nx+1)=.lay wA.heap.size 0 0:=(k5 _ (by omega)).trans hl3;have hι'm:ι' nx=.lay w.heap.size 0 0:=(k5 _ (by omega)).trans hm3;have ho:=k3.obj _ _ hl1;rw [hι'l] at ho;obtain⟨o1,r',o2,o3,o4,_⟩:=ho;have hd:=k3.obj _ _ hl2;rw [hι'm] at hd;have hnb:l'.state≠.busy:=by
    intro hs;simp [hs] at k1
   have hend:(Instr.endLoop wA.heap.size).run P w3=.ok l'.pending { w3 with heap:=w3.heap.setIfInBounds wA.heap.size (.loop { r' with state:=.exhausted }) }:=by
    have hne:r'.state≠.busy:=(by rw [o3];exact hnb);have hbeq:(r'.state == .busy)=false:=(by simpa using hne);simp [Instr.endLoop,oC o2,s9 o2,hbeq,o4];exact fun h=>absurd h hne
   -- nT it
   generalize hw4:({ w3 with heap:=w3.heap.setIfInBounds wA.heap.size (.loop { r' with state:=.exhausted }) }:World)=w4 at hend;have hoth:∀ c,c≠wA.heap.size→w4.heap[c]? = w3.heap[c]? := fun c hc=>(by rw [← hw4];simp [Array.getElem?_setIfInBounds_ne (fun e=>hc e.symm)]);have hsz4:w4.heap.size=w3.heap.size:=(by rw [← hw4];simp);have hb4:gD B w3 w4:=⟨by rw [← hw4],by rw [← hw4],by rw [← hw4],by omega,fun c hc=>hoth c (by omega),by rw [← hw4];exact Nat.le_refl _⟩;have hR:aQ ι' B (rem (rem h' (nx+1)) nx) nx' w4:=by
    refine ((k3.rem (nx+1)).rem nx).AF (fun k o b hk hkb=>hoth b fun e=>?_) (by omega);rw [dF] at hk;split at hk
    ·cases hk
    ·rw [dF] at hk;split at hk
     ·cases hk
     ·rename_i hne;exact k3.sep (nx+1) k _ o hl1 hk (fun e=>hne e.symm) rfl wA.heap.size (by rw [hι'l];rfl) (by rw [hkb,e])
   have hBw:gD B w w4:=((hbA.mono H.size).trans (hbB.mono hA.size)).trans (k4.trans hb4);have hi':∀ k,k<nx→ι' k=ι k:=fun k hk=>(k5 k (by omega)).trans (hi3' k hk);have I':qD B0 w0 ι0 nx0 tn ι' e (gE h' nx) nx' { a with defers:=[zG w.heap.size]++a.defers } w4:=by
    refine⟨w4.heap.size,w4,ι',nx',zG w.heap.size::ds,?_,?_,fun k hk=>?_,?_,⟨w.heap.size::bs,by rw [hds];rfl,?_,fun b hb=>?_⟩,J.env.names (by omega) hi',hR.shut,gD.refl _ _,fun _ _=>rfl,Nat.le_refl _,J.size,by rw [← J.defers];rfl⟩
    ·exact Nat.le_trans h1 hR.size
    ·exact h2.trans ((J.below.mono h1).trans (hBw.mono h1))
    ·have q1:k<nx1:=Nat.lt_of_lt_of_le hk h4;exact (hi' k (Nat.lt_of_lt_of_le q1 J.le)).trans ((J.old k q1).trans (h3 k hk))
    ·have:=J.le;omega
    ·rw [List.nodup_cons];refine⟨fun hm=>?_,hnd⟩;have:=(hbs _ hm).2.1;have:=H.size;omega
    ·rcases List.mem_cons.1 hb with rfl|hb
     ·have:=H.size;have hsz:=hBw.size;have hk:=k4.size;have hk2:=hbB.size;refine⟨by omega,by omega,?_⟩;rw [hoth _ (by omega)];exact hd.2
     ·obtain⟨q1,q2,q3⟩:=hbs b hb;have:=hR.size;refine⟨q1,by omega,?_⟩;rw [hBw.block b q2,J.below.block b q2];exact q3
   refine⟨_,w4,hend,?_⟩;split at k1
   ·exact k1.elim
   ·rename_i hp _;rw [hp];exact E.n _ _ _ _ _ _ k1 I'
   ·rename_i hp _;rw [hp];exact wpIn_exit (E.x _ _ _ _ _ _ _ k1 I')
   ·rename_i hp _;rw [hp];exact wpIn_ret (E.r _ _ _ _ _ _ k1 I')
   ·exact k1.elim
end
section
variable {P:Program}{T:cH}{C:VC}{Y:VY}
theorem OB {ι:Nat→Loc}{B nx:Nat}{h:Heap}{w:World}(H:aQ ι B h nx w){l:Nat}{la:S0}(hl:look h l=some (.loop la)){b o e:Nat}(hι:ι l=.lay b o e) :
  ∃ r:Loop,w.heap[b]? = some (.loop r)∧r.state=la.state∧r.pending=la.pending∧B≤b∧∀ st pd,aQ ι B (wM h l (.loop { la with state:=st,pending:=pd })) nx { w with heap:=w.heap.setIfInBounds b (.loop { r with state:=st,pending:=pd }) } ∧
    gD B w { w with heap:=w.heap.setIfInBounds b (.loop { r with state:=st,pending:=pd }) }:=by
 have ho:=H.obj l _ hl;rw [hι] at ho;obtain⟨h0,r,h1,h2,h3,h4,h5,h6,h7,h8,h9,h10⟩:=ho;have hlt:=(Array.getElem?_eq_some_iff.1 h1).1;refine⟨r,h1,h2,h3,h0,fun st pd=>⟨?_,⟨rfl,rfl,rfl,by simp,fun c hc=>by simp [Array.getElem?_setIfInBounds_ne (show b≠c by omega)],Nat.le_refl _⟩⟩⟩;refine H.set hl rfl ?_ (show TY ι nx (.loop { la with state:=st,pending:=pd }) from ⟨(H.sc l _ hl).1,(H.sc l _ hl).2⟩) rfl (fun c hc=>?_) (by simp)
 ·rw [hι];exact⟨h0,{ r with state:=st,pending:=pd },by simp [Array.getElem?_setIfInBounds_self_of_lt hlt],rfl,rfl,trivial,h5,h6,h7,h8,h9,h10⟩
 ·have:b≠c:=fun e=>hc (by rw [hι,e];rfl);simp [Array.getElem?_setIfInBounds_ne this]
theorem IU {ι:Nat→Loc}{n tn:Nat}:∀ (ps:List Nat) (args:List Value) (e e0:List (Nat × Value)) (tm:Array Value) (ds:List Deferred),sX tn e ps args=some e0→cR ι n e { tmps:=tm,defers:=ds }→tm.size=tn→(∀ v∈args,eL ι n v) →
  ps.length=args.length∧cR ι n e0 { tmps:=(ps.zip (args.map (tr ι))).foldl (fun tmps q=>tmps.setIfInBounds q.1 q.2) tm,defers:=ds }∧((ps.zip (args.map (tr ι))).foldl (fun tmps q=>tmps.setIfInBounds q.1 q.2) tm).size=tn
 |[],[],e,e0,tm,ds,h,he,hs,_=>by simp [sX] at h;subst h;exact⟨rfl,he,hs⟩
 |[],_::_,_,_,_,_,h,_,_,_=>by simp [sX] at h
 |_::_,[],_,_,_,_,h,_,_,_=>by simp [sX] at h
 |t::ts,v::vs,e,e0,tm,ds,h,he,hs,ha=>by
  simp only [sX] at h;split at h
  ·rename_i ht;have ht:=o9 ht;have:=he.wM (d:=t) (v:=v) (by show t<tm.size;omega) (ha v (by simp));obtain⟨h1,h2,h3⟩:=IU ts vs (put e t v) e0 (tm.setIfInBounds t (tr ι v)) ds h this (by simp [hs]) (fun u hu=>ha u (by simp [hu]));exact⟨by simp [h1],h2,h3⟩
  ·cases h
theorem JI {ι0 ι:Nat→Loc}{B0 nx0 nx tn:Nat}{w0:World}{e:List (Nat × Value)}{h:Heap}{a:Act}{w:World}(I:qD B0 w0 ι0 nx0 tn ι e h nx a w){q:Nat}{K:KE}{j:Option Code}{b o ex:Nat}(hq:q<nx0)(hι:ι0 q=.lay b o ex)(hl:wE q K j e h nx) :
  ∃ v w',(Instr.endRound b j).run P w=.ok v w'∧Ret B0 w0 ι0 nx0 K (.returned v) w':=by
 obtain⟨B,w1,ι1,nx1,ds,h1,h2,h3,h4,h5,J⟩:=I;unfold wE at hl;split at hl
 case h_2=>exact hl.elim
 rename_i la hk;have hold:∀ k,k<nx0→ι k=ι0 k:=fun k hk=>(J.old k (Nat.lt_of_lt_of_le hk h4)).trans (h3 k hk);obtain⟨r,k1,k2,k3,k4,k5⟩:=OB J.heap hk ((hold q hq).trans hι);obtain⟨k6,k7⟩:=k5 (if j.isNone then .ready else .done) j;refine⟨.bool j.isNone,_,?_,.bool j.isNone,_,nx,ι,hl,by simp [eL,kH,gN,oG],k6.down h1,?_,hold,Nat.le_trans h4 J.le,rfl⟩
 ·simp only [Instr.endRound,Sem.run_bind,oC k1,Result.andThen_ok,s9 k1,Sem.run_pure]
 ·exact h2.trans ((J.below.trans k7).mono h1)
theorem DS {r:Option Nat}{tn:Nat}:CM P r tn uO:=fun g ps as bd kn kx kr e h nx hl=>hl.elim
theorem xW:UJ uO:=fun g ps as bd kn kn' kx kx' kr kr' e h nx _ _ _ hl=>hl.elim
theorem WE (hT:cD P T)(hC:bE P C)(hY:eC P Y)(hD:dY C)(hDY:dY Y)(hm:P.follows .mixedOrders=true){PL:Nat→Nat→Option eR}{M:Nat}:eC P (qA aC T C Y PL (.fuel M)):=by
 intro q args h nx K hl ι B w H hs b o ex hι;unfold qA at hl;split at hl
 case h_2=>exact hl.elim
 rename_i la hk;split at hl
 case h_2=>exact hl.elim
 rename_i e0 hz hpl;simp only [Bool.and_eq_true] at hpl;have hq:q<nx:=H.low q _ hk;have ho:=H.obj q _ hk;rw [hι] at ho;obtain⟨g0,r,g1,g2,g3,g4,g5,g6,g7,g8,g9,g10⟩:=ho;have henv:cR ι nx la.env { tmps:=r.tmps,defers:=[] }:=fun t v hv=>⟨g6 t v hv,(H.sc q _ hk).1 t v hv⟩;obtain⟨z1,z2,z3⟩:=IU la.params args la.env e0 r.tmps [] hz henv g5 hs;have hsz:(args.map (tr ι)).toArray.size=r.params.size:=by
  rw [← Array.length_toList (xs:=r.params),g7];simp [z1]
 refine⟨r.fn,(la.params.zip (args.map (tr ι))).foldl (fun tmps q=>tmps.setIfInBounds q.1 q.2) r.tmps,r.assign,r.body,?_,?_⟩
 ·have hf:(r.params.zip (args.map (tr ι)).toArray).foldl (fun tmps x=>match x with|(t,a)=>tmps.setIfInBounds t a) r.tmps=(la.params.zip (args.map (tr ι))).foldl (fun tmps q=>tmps.setIfInBounds q.1 q.2) r.tmps:=by
   rw [← Array.foldl_toList,← g7];simp
  simp only [Instr.yield,Sem.run_bind,oC g1,Result.andThen_ok,hsz,ne_eq,not_true_eq_false,if_false,Sem.run_ite,Sem.run_pure];rw [← hf]
 ·refine roundIn_of_wpIn trivial ?_;rw [g8];have hbase:qD B w ι nx la.tn ι e0 h nx { tmps:=(la.params.zip (args.map (tr ι))).foldl (fun tmps q=>tmps.setIfInBounds q.1 q.2) r.tmps,defers:=[] } w :=
   ⟨B,w,ι,nx,[],Nat.le_refl _,gD.refl _ _,fun _ _=>rfl,Nat.le_refl _,⟨[],rfl,by simp,by simp⟩,z2,H,gD.refl _ _,fun _ _=>rfl,Nat.le_refl _,z3,rfl⟩
  refine DJ hT hC hY hD hDY hm (some b) DS xW la.assign hpl.1 _ _ _ e0 h nx hl B w ι nx _ trivial ⟨?_,fun id ι e h nx a w hk _=>hk.elim,fun ι e h nx a w hk _=>hk.elim⟩ ι _ w hbase;intro ι1 e1 h1 nx1 a1 w1 hk1 I1;obtain⟨B1,wb,ιb,nxb,ds,i1,i2,i3,i4,i5,J⟩:=I1;split at hk1
  case h_2=>exact hk1.elim
  rename_i l1 hl1;split at hk1
  case h_2=>exact hk1.elim
  rename_i hst;have hold:∀ k,k<nx→ι1 k=ι k:=fun k hk=>(J.old k (Nat.lt_of_lt_of_le hk i4)).trans (i3 k hk);obtain⟨r1,k1,k2,k3,k4,k5⟩:=OB J.heap hl1 ((hold q hq).trans hι);obtain⟨k6,k7⟩:=k5 .busy r1.pending;rw [show ({ l1 with state:=.busy,pending:=r1.pending }:S0)={ l1 with state:=.busy } by rw [k3]] at k6;refine⟨{ w1 with heap:=w1.heap.setIfInBounds b (.loop { r1 with state:=.busy }) },?_,?_⟩
  ·have hr:r1.state=.ready:=k2.trans hst;simp [Instr.beginRound,oC k1,s9 k1,hr]
  ·rw [g9];have I2:qD B w ι nx la.tn ι1 e1 (wM h1 q (.loop { l1 with state:=.busy })) nx1 a1 { w1 with heap:=w1.heap.setIfInBounds b (.loop { r1 with state:=.busy }) } :=
    ⟨B1,wb,ιb,nxb,ds,i1,i2,i3,i4,i5,J.step J.env k6 k7 (fun _ _=>rfl) (Nat.le_refl _) J.size rfl⟩
   refine DJ hT hC hY hD hDY hm (some b) DS xW la.body hpl.2 _ _ _ e1 _ nx1 hk1 B w ι nx _ trivial ⟨?_,?_,?_⟩ ι1 a1 _ I2
   ·exact fun ι e h nx a w hk I=>JI I hq hι hk
   ·exact fun id ι e h nx a w hk I=>JI I hq hι hk
   ·exact fun ι e h nx a w hk I=>JI I hq hι hk
end
theorem E4 {E:KS→Prop}{F:List (Nat × Value)→Heap→Nat→KE→Prop}(hE:kR E)(hF:∀ v h nx,eS (F v h nx)):eS (fun K=>E (fun v h nx=>F v h nx K)):=by
 intro K hl;obtain⟨v,h,nx,h1,h2⟩:=hE _ hl;obtain⟨e,h',nx',h3,h4⟩:=hF v h nx K h1;exact⟨e,h',nx',h3,fun K' hk=>h2 _ (h4 K' hk)⟩
theorem QM {E:KE→Prop}{F:Value→Heap→Nat→KE→Prop}(hE:eS E)(hF:∀ v h nx,eS (F v h nx)):eS (fun K=>E (fun v h nx=>F v h nx K)):=by
 intro K hl;obtain⟨v,h,nx,h1,h2⟩:=hE _ hl;obtain⟨e,h',nx',h3,h4⟩:=hF v h nx K h1;exact⟨e,h',nx',h3,fun K' hk=>h2 _ (h4 K' hk)⟩
theorem OX {α:Type}{E:(α→Prop)→Prop}{F:α→KE→Prop}(hE:uP E)(hF:∀ v,eS (F v)):eS (fun K=>E (fun v=>F v K)):=by
 intro K hl;obtain⟨v,h1,h2⟩:=hE _ hl;obtain⟨e,h',nx',h3,h4⟩:=hF v K h1;exact⟨e,h',nx',h3,fun K' hk=>h2 _ (h4 K' hk)⟩
def yB (f:KE→KS):Prop:=∀ e h nx,eS (fun K=>f K e h nx)
variable {A:Ar}{T:cH}{C:VC}{Y:VY}
def aEQ (R:VR):Prop:=∀ g ps as bd (kn:KE→KS) (kx:Nat→KE→KS) (kr:KE→KS),yB kn→(∀ i,yB (kx i))→yB kr→yB (fun K=>R g ps as bd (kn K) (fun i=>kx i K) (kr K))
theorem HJ {F:KE→KS→KS}(hF:∀ k:KE→KS,yB k→yB (fun K=>F K (k K))):∀ m,yB (fun K=>DB (F K) m)
 |0=>fun _ _ _=>eY
 |m+1=>hF (fun K=>DB (F K) m) (HJ hF m)
theorem AD (hC:dY C)(hY:dY Y){tn:Nat}{PL:Nat→Option eR}{n:Nat}{R:VR}(hR:aEQ R):∀ (c:Code) (kn:KE→KS) (kx:Nat→KE→KS) (kr:KE→KS),yB kn→(∀ i,yB (kx i))→yB kr →
  yB (fun K=>gL A T C Y tn PL (.fuel n) R c (kn K) (fun i=>kx i K) (kr K)):=by
 intro c
 induction c with
 |skip=>exact fun kn kx kr h1 _ _=>h1
 |region id ops draw =>
  intro kn kx kr h1 _ _ e h nx;simp only [fU,jW];cases draw with
  |false=>exact E4 (F:=fun e h nx K=>kn K e h nx) (FF hC hY _ _ _ _) h1
  |true =>
   simp only;cases PL id with
   |none =>
    intro K hl;obtain⟨ea,ha,na,⟨e0,h0,n0,hi,hk⟩,hr⟩:=wK hC hY _ _ _ _ _ _ hl;obtain⟨v,h',nx',q1,q2⟩:=h1 e0 h0 n0 K hk;exact⟨v,h',nx',q1,fun K' hk'=>hr _ ⟨e0,h0,n0,hi,q2 K' hk'⟩⟩
   |some p=>exact E4 (F:=fun e h nx K=>kn K e h nx) (N1 hC hY) h1
 |seq a b iha ihb=>exact fun kn kx kr h1 h2 h3=>iha (fun K=>gL A T C Y tn PL (.fuel n) R b (kn K) (fun i=>kx i K) (kr K)) kx kr (ihb kn kx kr h1 h2 h3) h2 h3
 |cond c t f iht ihf =>
  intro kn kx kr h1 h2 h3 e h nx;simp only [fU,jW];intro K hl;split at hl
  ·rename_i b hb;exact xH (iht kn kx kr h1 h2 h3 e h nx) (ihf kn kx kr h1 h2 h3 e h nx) K hl
  ·exact hl.elim
 |block id b ih =>
  intro kn kx kr h1 h2 h3;have:=ih kn (fun j=>match Nat.beq j id with|true=>kn|false=>kx j) kr h1 (fun j=>by
   cases hb:Nat.beq j id with
   |true=>simp only;exact h1
   |false=>simp only;exact h2 j) h3
  intro e h nx;have h5:=this e h nx;have heq:(fun K=>gL A T C Y tn PL (.fuel n) R (.block id b) (kn K) (fun i=>kx i K) (kr K) e h nx)=(fun K=>gL A T C Y tn PL (.fuel n) R b (kn K) (fun i=>(match Nat.beq i id with|true=>kn|false=>kx i) K) (kr K) e h nx):=by
   funext K;simp only [OF];congr 1;funext j;cases Nat.beq j id <;> rfl
  show eS (fun K=>gL A T C Y tn PL (.fuel n) R (.block id b) (kn K) (fun i=>kx i K) (kr K) e h nx);rw [heq];exact h5
 |loop b ih =>
  intro kn kx kr h1 h2 h3 e h nx;simp only [qE,aAU];exact HJ (F:=fun K k=>gL A T C Y tn PL (.fuel n) R b k (fun i=>kx i K) (kr K)) (fun k hk=>ih k kx kr hk h2 h3) n e h nx
 |rangeFunc g ps as bd _ _=>exact fun kn kx kr h1 h2 h3=>hR g ps as bd kn kx kr h1 h2 h3
 |exit id=>exact fun kn kx kr _ h2 _=>h2 id
 |ret=>exact fun kn kx kr _ _ h3=>h3
 |label l=>exact fun kn kx kr h1 _ _=>h1
 |scope b ih=>exact fun kn kx kr h1 h2 h3=>ih kn kx kr h1 h2 h3
 |goto l=>exact fun _ _ _ _ _ _ _ _ _=>eY
 |refuse s=>exact fun _ _ _ _ _ _ _ _ _=>eY
theorem RI (hC:dY C){f tn:Nat}:aEQ (tG C f tn):=by
 intro g ps as bd kn kx kr h1 h2 h3 e h nx;simp only [tG];refine iR fun gv=>?_;intro K hl;split at hl
 case h_2=>exact hl.elim
 split at hl
 case h_2=>exact hl.elim
 rename_i q first cap _ _ hfirst hcap
 refine QM (E:=C q _ _ _) (F:=fun v h' nx' K=>(match look h' (nx+1),look h' nx with
  |some (.loop l),some .deferred=>(match l.state,l.pending with
   |.busy,_=>False
   |_,none=>kn K e (gE h' nx) nx'
   |_,some (.exit id)=>kx id K e (gE h' nx) nx'
   |_,some .ret=>kr K e (gE h' nx) nx'
   |_,_=>False)
  |_,_=>False)) (hC _ _ _ _) (fun v h' nx'=>?_) K hl
 intro K hl;split at hl
 case h_2=>exact hl.elim
 split at hl
 ·exact hl.elim
 ·exact h1 _ _ _ K hl
 ·exact h2 _ _ _ _ K hl
 ·exact h3 _ _ _ K hl
 ·exact hl.elim
theorem NC (hC:dY C){f tn:Nat}:UJ (tG C f tn):=by
 intro g ps as bd kn kn' kx kx' kr kr' e h nx h1 h2 h3 hl;unfold tG at hl ⊢;obtain⟨gv,hgv,hl⟩:=cN hl;rw [hgv];simp only [on];split at hl
 case h_2=>exact hl.elim
 split at hl
 case h_2=>exact hl.elim
 obtain⟨v,h',nx',k1,k2⟩:=hC _ _ _ _ _ hl;refine k2 _ ?_;split at k1
 case h_2=>exact k1.elim
 split at k1
 ·exact k1.elim
 ·exact h1 _ _ _ k1
 ·exact h2 _ _ _ _ k1
 ·exact h3 _ _ _ k1
 ·exact k1.elim
section
variable {A:Ar}{T:cH}{C:VC}{Y:VY}
theorem qS {e:List (Nat × Value)}{h:Heap}:∀ (l:List ResultVar),uP (fN T e h l)
 |[]=>yN
 |.tmp t::r=>by
  show uP (fun K=>fN T e h (.tmp t::r) K);simp only [mH,lB];exact jF (F:=fun v K=>fN T e h r fun l=>K (v::l)) fun v=>EF (F:=fun l K=>K (v::l)) (qS r) fun l=>yN
 |.cell a t::r=>by
  show uP (fun K=>fN T e h (.cell a t::r) K);simp only [mH,lB];exact jF (F:=fun p K=>rS T h t p fun v=>fN T e h r fun l=>K (v::l)) fun p=>EF (F:=fun v K=>fN T e h r fun l=>K (v::l)) H3 fun v =>
   EF (F:=fun l K=>K (v::l)) (qS r) fun l=>yN
theorem aB5 {fn:Func}{g:Value→Heap→Nat→Value × Heap × Nat}:yB (fun K=>BQ T fn (fun v h nx=>K (g v h nx).1 (g v h nx).2.1 (g v h nx).2.2)):=by
 intro e h nx;unfold BQ
 refine OX (F:=fun l K=>match l with
  |[v]=>K (g v h nx).1 (g v h nx).2.1 (g v h nx).2.2
  |l=>match IC l with|true=>K (g (.tuple l.toArray) h nx).1 (g (.tuple l.toArray) h nx).2.1 (g (.tuple l.toArray) h nx).2.2|false=>False) (qS _) fun l=>?_
 intro K hl;split at hl
 ·exact cG K hl
 ·split at hl
  ·exact cG K hl
  ·exact hl.elim
theorem DG {q:Nat}{j:Option Code}:yB (fun K=>wE q K j):=by
 intro e h nx;simp only [wE];cases look h q with
 |none=>exact eY
 |some o=>cases o <;> first|exact cG|exact eY
theorem BB:aEQ uO:=fun _ _ _ _ _ _ _ _ _ _ _ _ _=>eY
theorem QI (hC:dY C)(hY:dY Y){PL:Nat→Nat→Option eR}{n:Nat}:dY (qA A T C Y PL (.fuel n)):=by
 intro q args h nx;show eS (fun K=>qA A T C Y PL (.fuel n) q args h nx K);unfold qA;intro K hl;split at hl
 case h_2=>exact hl.elim
 rename_i la hk;split at hl
 case h_2=>exact hl.elim
 rename_i e0 hz hpl;refine AD hC hY BB la.assign (fun K e1 h1 nx1 =>
  match look h1 q with
  |some (.loop l1)=>(match l1.state with
   |.ready=>gL A T C Y la.tn (PL la.fn) (.fuel n) uO la.body (wE q K none) (fun id=>wE q K (some (.exit id))) (wE q K (some .ret)) e1 (wM h1 q (.loop { l1 with state:=.busy })) nx1
   |_=>False)
  |_=>False) (fun _ _ _ _ _=>False) (fun _ _ _ _=>False) ?_ (fun _ _ _ _=>eY) (fun _ _ _=>eY) e0 h nx K hl
 intro e1 h1 nx1 K hl;dsimp only at hl ⊢;split at hl
 case h_2=>exact hl.elim
 split at hl
 case h_2=>exact hl.elim
 exact AD hC hY BB la.body (fun K=>wE q K none) (fun id K=>wE q K (some (.exit id))) (fun K=>wE q K (some .ret)) DG (fun _=>DG) DG e1 _ nx1 K hl
theorem UZ {c:CC}{n:Nat}(hC:dY C)(hY:dY Y)(hX:∀ f x,c.X f=some x→∀ args h nx,eS (x args h nx)):dY (sY c (some n) C Y):=by
 intro f args h nx;show eS (fun K=>sY c (some n) C Y f args h nx K);unfold sY;intro K hl;split at hl
 ·rename_i x hx;exact hX f x hx args h nx K hl
 ·split at hl
  ·exact hl.elim
  ·rename_i fn hfn;split at hl
   case h_2=>exact hl.elim
   rename_i b hb hle;have hv:yB (fun K=>BQ c.T fn (fun v h' nx'=>K v h' nx')) :=
    aB5 (g:=fun v h' nx'=>(v,h',nx'))
   exact AD hC hY (RI hC) b (fun K=>BQ c.T fn (fun v h' nx'=>K v h' nx')) (fun _ _ _ _ _=>False) (fun K=>BQ c.T fn (fun v h' nx'=>K v h' nx')) hv (fun _ _ _ _=>eY) hv _ h nx K hl
end
def cE (P:Program)(f:Nat)(x:List Value→Heap→Nat→KE→Prop):Prop:=(∀ args h nx K,x args h nx K→∀ ι B w,aQ ι B h nx w→(∀ v∈args,eL ι nx v) →
 (∃ fn, P.funcs[f]? = some fn ∧ fn.body.isSome = true ∧ (fn.name == "runtime.NumGoroutine") = false) ∧ CallsIn Fence.wide 0 P f (args.map (tr ι)).toArray w (Ret B w ι nx K)) ∧ ∀ args h nx, eS (x args h nx)
structure pF (P:Program) (c:CC):Prop where
 ar:c.A=aC
 tab:cD P c.T
 mixed:P.follows .mixedOrders=true
 funcs : ∀ f fn, c.FT f = some fn → P.funcs[f]? = some fn ∧ (fn.name == "runtime.NumGoroutine") = false ∧ ∀ b, fn.body = some b → cF (c.PL f) b = true
 xs:∀ f x,c.X f=some x→cE P f x
section
variable {P:Program}{c:CC}{C:VC}{Y:VY}
theorem xE (hc:pF P c)(hC:bE P C)(hY:eC P Y)(hD:dY C)(hDY:dY Y)(M:Option Nat):bE P (sY c M C Y):=by
 intro f args h nx K hl ι B w H hs;unfold sY at hl;split at hl
 ·rename_i x hx;exact (hc.xs f x hx).1 args h nx K hl ι B w H hs
 ·split at hl
  ·exact hl.elim
  ·rename_i fn hfn;split at hl
   case h_2=>exact hl.elim
   rename_i b hb hle;obtain⟨h1,h2,h3⟩:=hc.funcs f fn hfn;refine⟨⟨fn,h1,by rw [hb];rfl,h2⟩,?_⟩;rw [hc.ar] at hl;refine aBr (K':=K) hc.tab hC hY hD hDY hc.mixed h1 hb (h3 b hb) (by cases M with|none=>exact Nat.le_refl _|some n=>trivial) (W4 hC) (NC hD) (Nat.le_of_ble_eq_true hle) (fun v h' nx' hk=>⟨_,hk,fun k o hlk=>hlk⟩) hl H hs
theorem tD {n:Nat}{g:Heap}:∀ {h:Heap} {k:Nat} {o:aV},look (oW n g h) k=some o→look h k=some o∧n≤k∧((∃ a b c,look g k=some (.cells true a b c))∨∃ es,look g k=some (.map es))
 |[],k,o,hk=>by cases hk
 |(j,q)::r,k,o,hk=>by
  have drop:look (oW n g r) k=some o→((∃ a b c,look g j=some (.cells true a b c))→n≤j→False)→((∃ es,look g j=some (.map es))→n≤j→False)→look ((j,q)::r) k=some o∧n≤k∧((∃ a b c,look g k=some (.cells true a b c))∨∃ es,look g k=some (.map es)):=by
   intro h1 h2 h3;obtain⟨i1,i2,i3⟩:=tD h1;refine⟨?_,i2,i3⟩;rw [aD];split
   ·rename_i hb;have:=beq_true hb;subst this;rcases i3 with i3|i3
    ·exact (h2 i3 i2).elim
    ·exact (h3 i3 i2).elim
   ·exact i1
  have AF:look ((j,q)::oW n g r) k=some o→n≤j→((∃ a b c,look g j=some (.cells true a b c))∨∃ es,look g j=some (.map es))→look ((j,q)::r) k=some o∧n≤k∧((∃ a b c,look g k=some (.cells true a b c))∨∃ es,look g k=some (.map es)):=by
   intro h1 h2 h3;rw [aD] at h1 ⊢;split at h1
   ·rename_i hb;have:=beq_true hb;subst this;exact⟨h1,h2,h3⟩
   ·exact tD h1
  unfold oW at hk;split at hk
  ·rename_i a b c hn hg;exact AF hk (Nat.le_of_ble_eq_true hn) (.inl ⟨_,_,_,hg⟩)
  ·rename_i es hn hg;exact AF hk (Nat.le_of_ble_eq_true hn) (.inr ⟨_,hg⟩)
  ·rename_i n1 n2;exact drop hk (fun ⟨a,b,c,h1⟩ h2=>n1 _ _ _ (Nat.ble_eq_true_of_le h2) h1) (fun ⟨es,h1⟩ h2=>n2 _ (Nat.ble_eq_true_of_le h2) h1)
theorem aFH {PR:Nat→Bool}(hC:bE P C):bE P (frC PR C):=by
 intro f args h nx K hl ι B w H hs;unfold frC at hl;split at hl
 case h_2=>exact hC f args h nx K hl ι B w H hs
 obtain⟨c1,c2⟩:=hC f args (dW h) nx _ hl ι w.heap.size w H.shut hs;refine⟨c1,CallsIn.mono c2 fun e w' hr=>?_⟩;cases e with
 |returned u =>
  obtain⟨v,h',nx',ι',q1,q2,q3,q4,q5,q6,q7⟩:=hr;have H':aQ ι B h nx w':=H.ext q4;unfold frK at q1;split at q1
  ·rename_i hg;exact⟨v,h,nx,ι,q1,dL hg,H',q4.mono H.size,fun _ _=>rfl,Nat.le_refl _,by rw [q7,gJ hg,gJ hg]⟩
  ·refine⟨v,_,nx',ι',q1,q2,?_,q4.mono H.size,q5,q6,q7⟩;have Q:=q3.down H.size;have hcase:∀ k o,look (app (oW nx h' h') h) k=some o→(look h k=some o∧k<nx)∨(look h' k=some o∧nx≤k∧∀ b,(ι' k).CA=some b→w.heap.size≤b):=by
    intro k o hk;rw [fY] at hk;split at hk
    ·rename_i o1 ho;injection hk with hk;subst hk;obtain⟨a1,a2,a3⟩:=tD ho;refine .inr ⟨a1,a2,fun b hb=>?_⟩;have hob:=q3.obj k _ a1;cases hl:ι' k with
     |nil p=>rw [hl] at hb;cases hb
     |lay b2 off e =>
      rw [hl] at hb hob;have e1:b2=b:=(by simpa [Loc.CA] using hb);subst e1;rcases a3 with ⟨a,b',c,a3⟩|⟨es,a3⟩
      ·rw [a1] at a3;injection a3 with a3;subst a3;exact hob.1
      ·rw [a1] at a3;injection a3 with a3;subst a3;exact hob.1
    ·exact .inl ⟨hk,H.low k _ hk⟩
   refine⟨fun k o hk=>?_,fun k k' o o' hk hk' hne ha b hb=>?_,fun k o hk=>?_,H'.size,fun k o hk=>?_⟩
   ·rcases hcase k o hk with ⟨h2,h3⟩|⟨h2,h3,_⟩
    ·rw [q5 k h3];exact (H'.obj k o h2).names (H'.sc k o h2) q5
    ·exact Q.obj k o h2
   ·rcases hcase k o hk with ⟨h2,h3⟩|⟨h2,h3,h4⟩ <;> rcases hcase k' o' hk' with ⟨h2',h3'⟩|⟨h2',h3',h4'⟩
    ·rw [q5 k h3] at hb;rw [q5 k' h3'];exact H'.sep k k' o o' h2 h2' hne ha b hb
    ·rw [q5 k h3] at hb;intro hb';have:=h4' b hb';have:=(H.obj k o h2).lt hb;omega
    ·rw [q5 k' h3'];intro hb';have:=h4 b hb;have:=(H.obj k' o' h2').lt hb';omega
    ·exact Q.sep k k' o o' h2 h2' hne ha b hb
   ·rcases hcase k o hk with ⟨h2,h3⟩|⟨h2,h3,h4⟩
    ·omega
    ·exact Q.low k o h2
   ·rcases hcase k o hk with ⟨h2,h3⟩|⟨h2,h3,h4⟩
    ·exact (H'.sc k o h2).mono q6 q5
    ·exact Q.sc k o h2
 |_=>exact hr.elim
theorem aCb {PR:Nat→Bool}(hC:dY C):dY (frC PR C):=by
 intro f args h nx K hl;unfold frC at hl ⊢;cases hp:PR f with
 |false=>simp only [hp] at hl ⊢;exact hC f args h nx K hl
 |true =>
 simp only [hp] at hl ⊢;obtain⟨v,h',nx',q1,q2⟩:=hC _ _ _ _ _ hl;unfold frK at q1;split at q1
 ·rename_i hg;refine⟨v,h,nx,q1,fun K' hk=>q2 _ ?_⟩;unfold frK;rw [hg];exact hk
 ·rename_i hg;refine⟨v,_,nx',q1,fun K' hk=>q2 _ ?_⟩;unfold frK;rw [hg];exact hk
theorem jR (hc:pF P c):∀ d,bE P (sS c d false)∧eC P (sS c d true)∧dY (sS c d false)∧dY (sS c d true)
 |0=>⟨fun _ _ _ _ _ hl=>hl.elim,fun _ _ _ _ _ hl=>hl.elim,fun _ _ _ _ _ hl=>hl.elim,fun _ _ _ _ _ hl=>hl.elim⟩
 |d+1=>by
  obtain⟨h1,h2,h3,h4⟩:=jR hc d;refine⟨aFH (xE hc h1 h2 h3 h4 _),?_,aCb (UZ h3 h4 (fun f x hx=>(hc.xs f x hx).2)),QI h3 h4⟩;show eC P (qA c.A c.T (sS c d false) (sS c d true) c.PL (.fuel c.M));rw [hc.ar];exact WE hc.tab h1 h2 h3 h4 hc.mixed
end
end Go.Aw
end
