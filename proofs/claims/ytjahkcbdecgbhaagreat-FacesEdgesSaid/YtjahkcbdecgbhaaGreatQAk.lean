/-
  Parts of the proof, put together. No condition.
-/
import Derived.Test.YtjahkcbdecgbhaaGreatQAj
set_option linter.unusedSimpArgs false
set_option linter.unusedVariables false
noncomputable section
namespace Go.Aw
open Go.RowKit
def gN (h:Heap)(nx:Nat):Heap:=eJ (rem (rem h (nx+1)) nx)
def s9 (C:VC)(f tn:Nat):VR:=fun g ps as bd kn kx kr e h nx =>
 on (cX e g) fun gv=>match gv with
  |.func (.func q) first cap=>(match first.toList,lV cap.toList with
   |[],true=>C q (.func (.yield (nx+1)) #[] #[]::cap.toList)
    (bV (bV h nx .deferred) (nx+1) (.loop { state:=.ready,pending:=none,fn:=f,env:=e,tn:=tn,params:=ps.toList,assign:=as,body:=bd,defers:=nx })) (nx+2) fun _ h' nx' =>
    (match look h' (nx+1),look h' nx with
    |some (.loop l),some .deferred=>(match l.state,l.pending with
     |.busy,_=>False
     |_,none=>kn e (gN h' nx) nx'
     |_,some (.exit id)=>kx id e (gN h' nx) nx'
     |_,some .ret=>kr e (gN h' nx) nx'
     |_,_=>False)
    |_,_=>False)
   |_,_=>False)
  |_=>False
def uR:VR:=fun _ _ _ _ _ _ _ _ _ _=>False
def rZ (tn:Nat):List (Nat × Value)→List Nat→List Value→Option (List (Nat × Value))
 |e,[],[]=>some e
 |e,t::ts,v::vs=>match Nat.blt t tn with|true=>rZ tn (put e t v) ts vs|false=>none
 |_,_,_=>none
def v8 (q:Nat)(K:KE)(j:Option Code):KS:=fun _ h nx =>
 match look h q with
 |some (.loop l)=>K (.bool j.isNone) (wG h q (.loop { l with state:=if j.isNone then .ready else .done,pending:=j })) nx
 |_=>False
def rJ (A:Ar)(T:cM)(C:VC)(Y:VY)(PL:Nat→Nat→Option fE)(M:LM):VY:=fun q args h nx K =>
 match look h q with
 |some (.loop l)=>(match rZ l.tn l.env l.params args,dT (PL l.fn) l.assign&&dT (PL l.fn) l.body with
  |some e0,true=>gV A T C Y l.tn (PL l.fn) M uR l.assign (fun e1 h1 nx1 =>
   match look h1 q with
   |some (.loop l1)=>(match l1.state with
    |.ready=>gV A T C Y l.tn (PL l.fn) M uR l.body (v8 q K none) (fun id=>v8 q K (some (.exit id))) (v8 q K (some .ret)) e1 (wG h1 q (.loop { l1 with state:=.busy })) nx1
    |_=>False)
   |_=>False) (fun _ _ _ _=>False) (fun _ _ _=>False) e0 h nx
  |_,_=>False)
 |_=>False
def qN:Nat→List Value→List (Nat × Value)
 |_,[]=>[]
 |i,v::r=>(i,v)::qN (i+1) r
def prune (n:Nat):Heap→Heap
 |[]=>[]
 |(k,o)::r=>match Nat.blt k n with|true=>(k,o)::prune n r|false=>prune n r
structure ET where
 A:Ar
 T:cM
 FT:Nat→Option Func
 PL:Nat→Nat→Option fE
 PR:Nat→Bool
 X:Nat→Option (List Value→Heap→Nat→KE→Prop)
 M:Nat
def vG (c:ET)(M:Option Nat)(C:VC)(Y:VY):VC:=fun f args h nx K =>
 match c.X f with
 |some x=>x args h nx K
 |none=>match c.FT f with
  |none=>False
  |some fn=>(match fn.body,Nat.ble args.length fn.ntmps with
   |some b,true =>
    let fin:KS:=B7 c.T fn fun v h' nx'=>K v h' nx'
    gV c.A c.T C Y fn.ntmps (c.PL f) (match M with|some n=>.fuel n|none=>.inv nx) (s9 C f fn.ntmps) b fin (fun _ _ _ _=>False) fin (qN 0 args) h nx
   |_,_=>False)
def app:Heap→Heap→Heap
 |[],l=>l
 |x::r,l=>x::app r l
theorem gK (h l:Heap)(k:Nat):look (app h l) k=match look h k with|some o=>some o|none=>look l k:=by
 induction h with
 |nil=>rfl
 |cons x r ih =>
  obtain⟨j,o⟩:=x;simp only [app,aE];cases Nat.beq j k with
  |true=>rfl
  |false=>exact ih
def pG (n:Nat)(g:Heap):Heap→Heap
 |[]=>[]
 |(k,o)::r=>match Nat.ble n k,look g k with
  |true,some (.cells true _ _ _)=>(k,o)::pG n g r
  |true,some (.map _)=>(k,o)::pG n g r
  |_,_=>pG n g r
def frK (h:Heap)(nx:Nat)(K:KE):KE:=fun v h' nx'=>match gT v with
 |true=>K v h nx
 |false=>K v (app (pG nx h' h') h) nx'
def frC (PR:Nat→Bool)(C:VC):VC:=fun f args h nx K=>match PR f with
 |true=>C f args (eJ h) nx (frK h nx K)
 |false=>C f args h nx K
def r8 (c:ET):Nat→Bool→VC
 |0,_=>fun _ _ _ _ _=>False
 |d+1,false=>frC c.PR (vG c (some c.M) (r8 c d false) (r8 c d true))
 |d+1,true=>rJ c.A c.T (r8 c d false) (r8 c d true) c.PL (.fuel c.M)
section
variable {P:Program}{T:cM}
theorem aS.down {ι:Nat→Loc}{B B0 nx:Nat}{h:Heap}{w:World}(H:aS ι B h nx w)(hB:B0≤B):aS ι B0 h nx w:=by
 refine⟨fun k o hk=>?_,H.sep,H.low,Nat.le_trans hB H.size,H.sc⟩;have ho:=H.obj k o hk;cases hι:ι k with
 |nil p=>rw [hι] at ho;cases o <;> first|exact ho|exact ho.elim
 |lay b off e =>
  rw [hι] at ho;cases o with
  |cells wr g sz cs =>
   cases wr with
   |true=>exact⟨Nat.le_trans hB ho.1,ho.2⟩
   |false=>exact ho
  |map es=>exact⟨Nat.le_trans hB ho.1,ho.2⟩
  |loop l=>exact⟨Nat.le_trans hB ho.1,ho.2⟩
  |deferred=>exact⟨Nat.le_trans hB ho.1,ho.2⟩
  |zero=>exact ho
theorem aS.taken {ι:Nat→Loc}{B nx:Nat}{h:Heap}{w:World}(H:aS ι B h nx w){b:Nat}(hb:b<B){ds:Option (List Deferred)}(hd:w.heap[b]? = some (.deferred ds))(o:Obj) :
  aS ι B h nx { w with heap:=w.heap.setIfInBounds b o }:=by
 have hother:∀ c,c≠b→(w.heap.setIfInBounds b o)[c]? = w.heap[c]? := fun c hc=>(by rw [Array.getElem?_setIfInBounds_ne (fun e=>hc e.symm)]);refine⟨fun k q hk=>?_,H.sep,H.low,by simpa using H.size,H.sc⟩;have hq:=H.obj k q hk;by_cases hkb:(ι k).CU=some b
 ·-- only what is read,and that is empty
  cases hι:ι k with
  |nil p=>rw [hι] at hkb;cases hkb
  |lay c off e =>
   have hcb:c=b:=(by rw [hι] at hkb;simpa [Loc.CU] using hkb);subst hcb;rw [hι] at hq;cases q with
   |cells wr g sz cs =>
    cases wr with
    |true=>have:=hq.1;omega
    |false =>
     refine⟨by simpa using hq.1,hq.2.1,fun i v hv=>?_⟩;have:=hq.2.2 i v hv;simp [World.cell?,hd] at this
   |map es=>have:=hq.1;omega
   |loop l=>have:=hq.1;omega
   |deferred=>have:=hq.1;omega
   |zero=>exact hq.elim
 ·exact hq.AD (fun c hc=>hother c (fun e=>hkb (e▸hc))) (by simp)
theorem yD {ι:Nat→Loc}{B B0 nx:Nat}{h:Heap}{fn:Func}{tmps:Array Value}{Rr:Ending→World→Prop}:∀ (bs:List Nat) (w:World),bs.Nodup→(∀ b∈bs,B0≤b∧b<B∧w.heap[b]? = some (.deferred (some [])))→aS ι B h nx w →
  (∀ w',aS ι B h nx w'→gO B0 w w'→∃ u,(results fn tmps).run P w'=.ok u w'∧Rr (.returned u) w')→LeavesInM Fence.wide 0 P fn tmps Rr (bs.map AP) .returning w
 |[],w,_,_,H,hR=>hR w H (gO.refl _ _)
 |b::bs,w,hn,hb,H,hR=>by
  rw [List.nodup_cons] at hn;obtain⟨h1,h2,h3⟩:=hb b (by simp);have hlt:=(Array.getElem?_eq_some_iff.1 h3).1;have hbel:gO B0 w { w with heap:=w.heap.setIfInBounds b (.deferred none) }:=⟨rfl,rfl,rfl,by simp,fun c hc=>by
   simp [Array.getElem?_setIfInBounds_ne (show b≠c by omega)],Nat.le_refl _⟩
  refine⟨by simp,.inl ⟨b,{ w with heap:=w.heap.setIfInBounds b (.deferred none) },rfl,?_,?_⟩⟩
  ·simp [Instr.takeDeferred,getObj,setObj,Sem.run,h3]
  ·refine yD bs _ hn.2 (fun c hc=>?_) (H.taken h2 h3 _) (fun w' H' hb'=>hR w' H' (hbel.trans hb'));obtain⟨k1,k2,k3⟩:=hb c (by simp [hc]);have hne:b≠c:=fun e=>hn.1 (e▸hc);exact⟨k1,k2,by simp [Array.getElem?_setIfInBounds_ne hne,k3]⟩
end
section
variable {P:Program}{T:cM}{C:VC}{Y:VY}
theorem zF:∀ (l:List Value) (i t:Nat) (v:Value),look (qN i l) t=some v→i≤t∧l[t - i]? = some v
 |[],i,t,v,h=>by cases h
 |x::r,i,t,v,h=>by
  simp only [qN,aE] at h;split at h
  ·rename_i hb;have:=beq_true hb;subst this;injection h with h;subst h;exact⟨Nat.le_refl _,by simp⟩
  ·obtain⟨h1,h2⟩:=zF r (i+1) t v h;refine⟨by omega,?_⟩;rw [show t - i=(t - (i+1))+1 by omega];simpa using h2
theorem QD {ι:Nat→Loc}{n:Nat}{args:List Value}(hs:∀ v∈args,eR ι n v){k:Nat}{ds:List Deferred}:cW ι n (qN 0 args) { tmps:=(args.map (tr ι)).toArray++Array.replicate k undef,defers:=ds }:=by
 intro t v h;obtain⟨_,h2⟩:=zF args 0 t v h;rw [Nat.sub_zero] at h2;have hlt:=(List.getElem?_eq_some_iff.1 h2).1;refine⟨?_,hs v (List.mem_of_getElem? h2)⟩;rw [Array.getElem?_append_left (by simpa using hlt)];simp [h2]
theorem aDg (hT:cH P T)(hC:bI P C)(hY:eG P Y)(hD:dZ C)(hDY:dZ Y)(hm:P.follows .mixedOrders=true){f:FuncId}{fn:Func}{b:Code}(hf:P.funcs[f]? = some fn)(hb:fn.body=some b){nx:Nat}{PL:Nat→Option fE}(hp:dT PL b=true)
  {M:LM} (hM:M.low nx) {R:VR} (hR:C1 P none fn.ntmps R) (hRm:T2 R) {args:List Value} (ha:args.length≤fn.ntmps) {h:Heap} {K K':KE} (hK:∀ v h' nx',K' v h' nx'→∃ h'',K v h'' nx'∧∀ k o,look h'' k=some o→look h' k=some o)
  (hl:gV aB T C Y fn.ntmps PL M R b (B7 T fn K') (fun _ _ _ _=>False) (B7 T fn K') (qN 0 args) h nx) {ι:Nat→Loc} {B:Nat} {w:World} (H:aS ι B h nx w) (hs:∀ v∈args,eR ι nx v) :
  CallsIn Fence.wide 0 P f (args.map (tr ι)).toArray w (Ret B w ι nx K):=by
 refine callsIn_of_wp_marks hf hb trivial ?_ rfl;have hend:∀ ι' e h' nx' a w',B7 T fn K' e h' nx'→qU B w ι nx fn.ntmps ι' e h' nx' a w'→LeavesInM Fence.wide 0 P fn a.tmps (Ret B w ι nx K) a.defers .returning w':=by
  intro ι' e h' nx' a w' hv I;obtain⟨B1,w1,ι1,nx1,ds,h1,h2,h3,h4,⟨bs,rfl,hnd,hbs⟩,J⟩:=I;rw [J.defers];obtain⟨v,k1,k2,k3⟩:=aBW hT J.env J.heap hv;obtain⟨h'',k4,k5⟩:=hK v h' nx' k1;refine yD (B:=B1) (B0:=B) bs w' hnd (fun x hx=>?_) J.heap (fun w2 H2 hb2=>⟨_,k3 w2 H2,v,h'',nx',ι',k4,k2,(H2.down h1).sub k5,?_,fun k hk=>(J.old k (Nat.lt_of_lt_of_le hk h4)).trans (h3 k hk),Nat.le_trans h4 J.le,rfl⟩)
  ·obtain⟨q1,q2,q3⟩:=hbs x hx;exact⟨q1,q2,by rw [J.below.block x q2];exact q3⟩
  ·exact (h2.trans (J.below.mono h1)).trans hb2
 refine ER hT hC hY hD hDY hm none hR hRm b hp _ _ _ _ h nx hl B w ι nx _ hM ⟨?_,?_,?_⟩ ι _ w ?_
 ·exact fun ι' e h' nx' a w' hv I=>hend ι' e h' nx' a w' hv I
 ·exact fun id ι' e h' nx' a w' hv I=>hv.elim
 ·exact fun ι' e h' nx' a w' hv I=>hend ι' e h' nx' a w' hv I
 ·refine⟨B,w,ι,nx,[],Nat.le_refl _,gO.refl _ _,fun _ _=>rfl,Nat.le_refl _,⟨[],rfl,by simp,by simp⟩,QD hs,H,gO.refl _ _,fun _ _=>rfl,Nat.le_refl _,?_,rfl⟩;simp;omega
end
section
variable {P:Program}{T:cM}{C:VC}{Y:VY}
theorem oH {w:World}{l:Nat}{r:Loop}(h:w.heap[l]? = some (.loop r)):(Instr.getLoop l).run P w=.ok r w:=by
 simp [Instr.getLoop,getObj,Sem.run,h]
theorem tR {w:World}{l:Nat}{r:Loop}(h:w.heap[l]? = some (.loop r))(o:Obj):(setObj l o).run P w=.ok () { w with heap:=w.heap.setIfInBounds l o }:=by
 simp [setObj,Sem.run,h]
theorem WM (hC:bI P C){f tn:Nat}:C1 P none tn (s9 C f tn):=by
 intro g ps as bd kn kx kr e h nx hl B0 w0 ι0 nx0 Q E ι a w I;obtain⟨B,w1,ι1,nx1,ds,h1,h2,h3,h4,⟨bs,hds,hnd,hbs⟩,J⟩:=I;unfold s9 at hl;obtain⟨gv,hgv,hl⟩:=cQ hl;obtain⟨e1,e2⟩:=J.env.cX hgv;split at hl
 case h_2=>exact hl.elim
 rename_i q first cap;split at hl
 case h_2=>exact hl.elim
 rename_i hfirst hcap;obtain⟨first⟩:=first;simp only at hfirst;subst hfirst;refine wpIn_rangeFunc fun fnid _=>?_
 -- the records
 have H:=J.heap;have hA:=H.new (.deferred (some [])) .deferred ⟨H.size,(MapKept.heap_alloc w _).1⟩ trivial;generalize hι2:ins ι nx (.lay w.heap.size 0 0)=ι2 at hA;generalize hwA:w.alloc (.deferred (some []))=wA at hA;have hbA:gO w.heap.size w wA:=(by rw [← hwA];exact dD w _);have hi2:∀ k,k<nx→ι2 k=ι k:=fun k hk=>(by rw [← hι2];exact cE _ _ hk);have hmark:ι2 nx=.lay w.heap.size 0 0:=(by rw [← hι2];exact bG _ _ _);let rec_:Loop:={ state:=.ready,pending:=none,fn:=fnid,tmps:=a.tmps,params:=ps,assign:=as,body:=bd,defers:=w.heap.size };let la:VE:={ state:=.ready,pending:=none,fn:=f,env:=e,tn:=tn,params:=ps.toList,assign:=as,body:=bd,defers:=nx };have hi3':∀ k,k<nx→ins ι2 (nx+1) (.lay wA.heap.size 0 0) k=ι k:=fun k hk=>(by rw [cE _ _ (by omega)];exact hi2 k hk);have hB:=hA.new (.loop rec_) (.loop la) (by
  refine⟨hA.size,rec_,(MapKept.heap_alloc wA _).1,rfl,rfl,trivial,J.size,fun t v hv=>?_,rfl,rfl,rfl,?_⟩
  ·obtain⟨k1,k2⟩:=J.env t v hv;rw [BX hi3' k2];exact k1
  ·show (ins ι2 (nx+1) (.lay wA.heap.size 0 0) nx).CU=some w.heap.size;rw [cE _ _ (by omega),hmark];rfl) ⟨fun t v hv=>n7 (by omega) hi3' (J.env t v hv).2,by show nx<nx+1+1;omega⟩
 generalize hι3:ins ι2 (nx+1) (.lay wA.heap.size 0 0)=ι3 at hB hi3';generalize hwB:wA.alloc (.loop rec_)=wB at hB;have hbB:gO wA.heap.size wA wB:=(by rw [← hwB];exact dD wA _);have hl3:ι3 (nx+1)=.lay wA.heap.size 0 0:=(by rw [← hι3];exact bG _ _ _);have hm3:ι3 nx=.lay w.heap.size 0 0:=(by rw [← hι3,cE _ _ (by omega)];exact hmark);have hwA1:w.heap.size<wA.heap.size:=by rw [← hwA];exact (Array.getElem?_eq_some_iff.1 (MapKept.heap_alloc w _).1).1
 -- the call
 obtain⟨⟨fn,hfn,hbody,hname⟩,hcalls⟩:=hC q _ _ _ _ hl ι3 B wB hB (by
  intro v hv;rcases List.mem_cons.1 hv with rfl|hv
  ·simp [eR,kP,gY,QH,hl3,Loc.gJ]
  ·obtain⟨p,rfl⟩:=iD hcap v hv;exact n7 (by omega) hi3' (show eR ι nx (.pointer (some p)) from e2.2 _ hv))
 have hcapm:cap.map (dR ι)=(cap.toList.map (tr ι3)).toArray:=by
  apply Array.ext';simp only [Array.toList_map];apply List.map_congr_left;intro v hv;obtain⟨p,rfl⟩:=iD hcap v hv;exact (BX hi3' (show eR ι nx (.pointer (some p)) from e2.2 _ hv)).symm
 have hy:tr ι3 (.func (.yield (nx+1)) #[] #[])=.func (.yield wA.heap.size) #[] #[]:=(by simp [tr,dP,bR,lN,hl3]);obtain⟨bdy,hb'⟩:=Option.isSome_iff_exists.1 hbody;have hname' : fn.name ≠ "runtime.NumGoroutine" := (by simpa using hname);refine⟨wA.heap.size,[AP w.heap.size],wB,{ target:=.fn (.func q) (cap.map (dR ι)),args:=#[.func (.yield wA.heap.size) #[] #[]] },wB,q,((Value.func (.yield (nx+1)) #[] #[]::cap.toList).map (tr ι3)).toArray,wB,?_,?_,fun _ _=>trivial,?_,fun hdep=>absurd hdep (by simp [Fr,Fence.wide]),?_⟩
 ·have hr:(Fr none).round=none:=rfl;rw [hr];subst hwB;subst hwA;simp [Instr.enterLoop,AP,rec_]
 ·have he1:a.eval g=.func (.func q) #[] (cap.map (dR ι)):=e1;have hc:∀ v,a.eval (.const v)=v:=fun _=>rfl;simp [resolve,rangeCall,he1,hc,Deferred.ofValue]
 ·simp [invoke,callFunc,hfn,hname',hb',hcapm,hy]
 ·refine CallsIn.mono (F:=Fence.wide) hcalls fun en w3 hret=>?_;cases en with
  |panicked c=>exact hret.elim
  |outgrown=>exact hret.elim
  |returned u =>
   obtain⟨v,h',nx',ι',k1,k2,k3,k4,k5,k6,rfl⟩:=hret;split at k1
   case h_2=>exact k1.elim
   rename_i l' hl1 hl2;have hι'l:ι' (nx+1)=.lay wA.heap.size 0 0:=(k5 _ (by omega)).trans hl3;have hι'm:ι' nx=.lay w.heap.size 0 0:=(k5 _ (by omega)).trans hm3;have ho:=k3.obj _ _ hl1;rw [hι'l] at ho;obtain⟨o1,r',o2,o3,o4,_⟩:=ho;have hd:=k3.obj _ _ hl2;rw [hι'm] at hd;have hnb:l'.state≠.busy:=by
    intro hs;simp [hs] at k1
   have hend:(Instr.endLoop wA.heap.size).run P w3=.ok l'.pending { w3 with heap:=w3.heap.setIfInBounds wA.heap.size (.loop { r' with state:=.exhausted }) }:=by
    have hne:r'.state≠.busy:=(by rw [o3];exact hnb);have hbeq:(r'.state == .busy)=false:=(by simpa using hne);simp [Instr.endLoop,oH o2,tR o2,hbeq,o4];exact fun h=>absurd h hne
   -- pB it
   generalize hw4:({ w3 with heap:=w3.heap.setIfInBounds wA.heap.size (.loop { r' with state:=.exhausted }) }:World)=w4 at hend;have hoth:∀ c,c≠wA.heap.size→w4.heap[c]? = w3.heap[c]? := fun c hc=>(by rw [← hw4];simp [Array.getElem?_setIfInBounds_ne (fun e=>hc e.symm)]);have hsz4:w4.heap.size=w3.heap.size:=(by rw [← hw4];simp);have hb4:gO B w3 w4:=⟨by rw [← hw4],by rw [← hw4],by rw [← hw4],by omega,fun c hc=>hoth c (by omega),by rw [← hw4];exact Nat.le_refl _⟩;have hR:aS ι' B (rem (rem h' (nx+1)) nx) nx' w4:=by
    refine ((k3.rem (nx+1)).rem nx).AD (fun k o b hk hkb=>hoth b fun e=>?_) (by omega);rw [dF] at hk;split at hk
    ·cases hk
    ·rw [dF] at hk;split at hk
     ·cases hk
     ·rename_i hne;exact k3.sep (nx+1) k _ o hl1 hk (fun e=>hne e.symm) rfl wA.heap.size (by rw [hι'l];rfl) (by rw [hkb,e])
   have hBw:gO B w w4:=((hbA.mono H.size).trans (hbB.mono hA.size)).trans (k4.trans hb4);have hi':∀ k,k<nx→ι' k=ι k:=fun k hk=>(k5 k (by omega)).trans (hi3' k hk);have I':qU B0 w0 ι0 nx0 tn ι' e (gN h' nx) nx' { a with defers:=[AP w.heap.size]++a.defers } w4:=by
    refine⟨w4.heap.size,w4,ι',nx',AP w.heap.size::ds,?_,?_,fun k hk=>?_,?_,⟨w.heap.size::bs,by rw [hds];rfl,?_,fun b hb=>?_⟩,J.env.names (by omega) hi',hR.shut,gO.refl _ _,fun _ _=>rfl,Nat.le_refl _,J.size,by rw [← J.defers];rfl⟩
    ·exact Nat.le_trans h1 hR.size
    ·exact h2.trans ((J.below.mono h1).trans (hBw.mono h1))
    ·have q1:k<nx1:=Nat.lt_of_lt_of_le hk h4;exact (hi' k (Nat.lt_of_lt_of_le q1 J.le)).trans ((J.old k q1).trans (h3 k hk))
    ·have:=J.le;omega
    ·rw [List.nodup_cons];refine⟨fun hm=>?_,hnd⟩;have:=(hbs _ hm).2.1;have:=H.size;omega
    ·rcases List.mem_cons.1 hb with rfl|hb
     ·have:=H.size;have hsz:=hBw.size;have hk:=k4.size;have hk2:=hbB.size;refine⟨by omega,by omega,?_⟩;rw [hoth _ (by omega)];exact hd.2
     ·obtain⟨q1,q2,q3⟩:=hbs b hb;have:=hR.size;refine⟨q1,by omega,?_⟩;rw [hBw.block b q2,J.below.block b q2];exact q3
   refine⟨_,w4,hend,?_⟩;split at k1
   ·exact k1.elim
   ·rename_i hp _;rw [hp];exact E.n _ _ _ _ _ _ k1 I'
   ·rename_i hp _;rw [hp];exact wpIn_exit (E.x _ _ _ _ _ _ _ k1 I')
   ·rename_i hp _;rw [hp];exact wpIn_ret (E.r _ _ _ _ _ _ k1 I')
   ·exact k1.elim
end
section
variable {P:Program}{T:cM}{C:VC}{Y:VY}
theorem L9 {ι:Nat→Loc}{B nx:Nat}{h:Heap}{w:World}(H:aS ι B h nx w){l:Nat}{la:VE}(hl:look h l=some (.loop la)){b o e:Nat}(hι:ι l=.lay b o e) :
  ∃ r:Loop,w.heap[b]? = some (.loop r)∧r.state=la.state∧r.pending=la.pending∧B≤b∧∀ st pd,aS ι B (wG h l (.loop { la with state:=st,pending:=pd })) nx { w with heap:=w.heap.setIfInBounds b (.loop { r with state:=st,pending:=pd }) } ∧
    gO B w { w with heap:=w.heap.setIfInBounds b (.loop { r with state:=st,pending:=pd }) }:=by
 have ho:=H.obj l _ hl;rw [hι] at ho;obtain⟨h0,r,h1,h2,h3,h4,h5,h6,h7,h8,h9,h10⟩:=ho;have hlt:=(Array.getElem?_eq_some_iff.1 h1).1;refine⟨r,h1,h2,h3,h0,fun st pd=>⟨?_,⟨rfl,rfl,rfl,by simp,fun c hc=>by simp [Array.getElem?_setIfInBounds_ne (show b≠c by omega)],Nat.le_refl _⟩⟩⟩;refine H.set hl rfl ?_ (show US ι nx (.loop { la with state:=st,pending:=pd }) from ⟨(H.sc l _ hl).1,(H.sc l _ hl).2⟩) rfl (fun c hc=>?_) (by simp)
 ·rw [hι];exact⟨h0,{ r with state:=st,pending:=pd },by simp [Array.getElem?_setIfInBounds_self_of_lt hlt],rfl,rfl,trivial,h5,h6,h7,h8,h9,h10⟩
 ·have:b≠c:=fun e=>hc (by rw [hι,e];rfl);simp [Array.getElem?_setIfInBounds_ne this]
theorem I0 {ι:Nat→Loc}{n tn:Nat}:∀ (ps:List Nat) (args:List Value) (e e0:List (Nat × Value)) (tm:Array Value) (ds:List Deferred),rZ tn e ps args=some e0→cW ι n e { tmps:=tm,defers:=ds }→tm.size=tn→(∀ v∈args,eR ι n v) →
  ps.length=args.length∧cW ι n e0 { tmps:=(ps.zip (args.map (tr ι))).foldl (fun tmps q=>tmps.setIfInBounds q.1 q.2) tm,defers:=ds }∧((ps.zip (args.map (tr ι))).foldl (fun tmps q=>tmps.setIfInBounds q.1 q.2) tm).size=tn
 |[],[],e,e0,tm,ds,h,he,hs,_=>by simp [rZ] at h;subst h;exact⟨rfl,he,hs⟩
 |[],_::_,_,_,_,_,h,_,_,_=>by simp [rZ] at h
 |_::_,[],_,_,_,_,h,_,_,_=>by simp [rZ] at h
 |t::ts,v::vs,e,e0,tm,ds,h,he,hs,ha=>by
  simp only [rZ] at h;split at h
  ·rename_i ht;have ht:=pM ht;have:=he.wG (d:=t) (v:=v) (by show t<tm.size;omega) (ha v (by simp));obtain⟨h1,h2,h3⟩:=I0 ts vs (put e t v) e0 (tm.setIfInBounds t (tr ι v)) ds h this (by simp [hs]) (fun u hu=>ha u (by simp [hu]));exact⟨by simp [h1],h2,h3⟩
  ·cases h
theorem JZ {ι0 ι:Nat→Loc}{B0 nx0 nx tn:Nat}{w0:World}{e:List (Nat × Value)}{h:Heap}{a:Act}{w:World}(I:qU B0 w0 ι0 nx0 tn ι e h nx a w){q:Nat}{K:KE}{j:Option Code}{b o ex:Nat}(hq:q<nx0)(hι:ι0 q=.lay b o ex)(hl:v8 q K j e h nx) :
  ∃ v w',(Instr.endRound b j).run P w=.ok v w'∧Ret B0 w0 ι0 nx0 K (.returned v) w':=by
 obtain⟨B,w1,ι1,nx1,ds,h1,h2,h3,h4,h5,J⟩:=I;unfold v8 at hl;split at hl
 case h_2=>exact hl.elim
 rename_i la hk;have hold:∀ k,k<nx0→ι k=ι0 k:=fun k hk=>(J.old k (Nat.lt_of_lt_of_le hk h4)).trans (h3 k hk);obtain⟨r,k1,k2,k3,k4,k5⟩:=L9 J.heap hk ((hold q hq).trans hι);obtain⟨k6,k7⟩:=k5 (if j.isNone then .ready else .done) j;refine⟨.bool j.isNone,_,?_,.bool j.isNone,_,nx,ι,hl,by simp [eR,kP,gY,oS],k6.down h1,?_,hold,Nat.le_trans h4 J.le,rfl⟩
 ·simp only [Instr.endRound,Sem.run_bind,oH k1,Result.andThen_ok,tR k1,Sem.run_pure]
 ·exact h2.trans ((J.below.trans k7).mono h1)
theorem DP {r:Option Nat}{tn:Nat}:C1 P r tn uR:=fun g ps as bd kn kx kr e h nx hl=>hl.elim
theorem xD:T2 uR:=fun g ps as bd kn kn' kx kx' kr kr' e h nx _ _ _ hl=>hl.elim
theorem VZ (hT:cH P T)(hC:bI P C)(hY:eG P Y)(hD:dZ C)(hDY:dZ Y)(hm:P.follows .mixedOrders=true){PL:Nat→Nat→Option fE}{M:Nat}:eG P (rJ aB T C Y PL (.fuel M)):=by
 intro q args h nx K hl ι B w H hs b o ex hι;unfold rJ at hl;split at hl
 case h_2=>exact hl.elim
 rename_i la hk;split at hl
 case h_2=>exact hl.elim
 rename_i e0 hz hpl;simp only [Bool.and_eq_true] at hpl;have hq:q<nx:=H.low q _ hk;have ho:=H.obj q _ hk;rw [hι] at ho;obtain⟨g0,r,g1,g2,g3,g4,g5,g6,g7,g8,g9,g10⟩:=ho;have henv:cW ι nx la.env { tmps:=r.tmps,defers:=[] }:=fun t v hv=>⟨g6 t v hv,(H.sc q _ hk).1 t v hv⟩;obtain⟨z1,z2,z3⟩:=I0 la.params args la.env e0 r.tmps [] hz henv g5 hs;have hsz:(args.map (tr ι)).toArray.size=r.params.size:=by
  rw [← Array.length_toList (xs:=r.params),g7];simp [z1]
 refine⟨r.fn,(la.params.zip (args.map (tr ι))).foldl (fun tmps q=>tmps.setIfInBounds q.1 q.2) r.tmps,r.assign,r.body,?_,?_⟩
 ·have hf:(r.params.zip (args.map (tr ι)).toArray).foldl (fun tmps x=>match x with|(t,a)=>tmps.setIfInBounds t a) r.tmps=(la.params.zip (args.map (tr ι))).foldl (fun tmps q=>tmps.setIfInBounds q.1 q.2) r.tmps:=by
   rw [← Array.foldl_toList,← g7];simp
  simp only [Instr.yield,Sem.run_bind,oH g1,Result.andThen_ok,hsz,ne_eq,not_true_eq_false,if_false,Sem.run_ite,Sem.run_pure];rw [← hf]
 ·refine roundIn_of_wpIn trivial ?_;rw [g8];have hbase:qU B w ι nx la.tn ι e0 h nx { tmps:=(la.params.zip (args.map (tr ι))).foldl (fun tmps q=>tmps.setIfInBounds q.1 q.2) r.tmps,defers:=[] } w :=
   ⟨B,w,ι,nx,[],Nat.le_refl _,gO.refl _ _,fun _ _=>rfl,Nat.le_refl _,⟨[],rfl,by simp,by simp⟩,z2,H,gO.refl _ _,fun _ _=>rfl,Nat.le_refl _,z3,rfl⟩
  refine ER hT hC hY hD hDY hm (some b) DP xD la.assign hpl.1 _ _ _ e0 h nx hl B w ι nx _ trivial ⟨?_,fun id ι e h nx a w hk _=>hk.elim,fun ι e h nx a w hk _=>hk.elim⟩ ι _ w hbase;intro ι1 e1 h1 nx1 a1 w1 hk1 I1;obtain⟨B1,wb,ιb,nxb,ds,i1,i2,i3,i4,i5,J⟩:=I1;split at hk1
  case h_2=>exact hk1.elim
  rename_i l1 hl1;split at hk1
  case h_2=>exact hk1.elim
  rename_i hst;have hold:∀ k,k<nx→ι1 k=ι k:=fun k hk=>(J.old k (Nat.lt_of_lt_of_le hk i4)).trans (i3 k hk);obtain⟨r1,k1,k2,k3,k4,k5⟩:=L9 J.heap hl1 ((hold q hq).trans hι);obtain⟨k6,k7⟩:=k5 .busy r1.pending;rw [show ({ l1 with state:=.busy,pending:=r1.pending }:VE)={ l1 with state:=.busy } by rw [k3]] at k6;refine⟨{ w1 with heap:=w1.heap.setIfInBounds b (.loop { r1 with state:=.busy }) },?_,?_⟩
  ·have hr:r1.state=.ready:=k2.trans hst;simp [Instr.beginRound,oH k1,tR k1,hr]
  ·rw [g9];have I2:qU B w ι nx la.tn ι1 e1 (wG h1 q (.loop { l1 with state:=.busy })) nx1 a1 { w1 with heap:=w1.heap.setIfInBounds b (.loop { r1 with state:=.busy }) } :=
    ⟨B1,wb,ιb,nxb,ds,i1,i2,i3,i4,i5,J.step J.env k6 k7 (fun _ _=>rfl) (Nat.le_refl _) J.size rfl⟩
   refine ER hT hC hY hD hDY hm (some b) DP xD la.body hpl.2 _ _ _ e1 _ nx1 hk1 B w ι nx _ trivial ⟨?_,?_,?_⟩ ι1 a1 _ I2
   ·exact fun ι e h nx a w hk I=>JZ I hq hι hk
   ·exact fun id ι e h nx a w hk I=>JZ I hq hι hk
   ·exact fun ι e h nx a w hk I=>JZ I hq hι hk
end
theorem FY {E:KS→Prop}{F:List (Nat × Value)→Heap→Nat→KE→Prop}(hE:lB E)(hF:∀ v h nx,fH (F v h nx)):fH (fun K=>E (fun v h nx=>F v h nx K)):=by
 intro K hl;obtain⟨v,h,nx,h1,h2⟩:=hE _ hl;obtain⟨e,h',nx',h3,h4⟩:=hF v h nx K h1;exact⟨e,h',nx',h3,fun K' hk=>h2 _ (h4 K' hk)⟩
theorem QS {E:KE→Prop}{F:Value→Heap→Nat→KE→Prop}(hE:fH E)(hF:∀ v h nx,fH (F v h nx)):fH (fun K=>E (fun v h nx=>F v h nx K)):=by
 intro K hl;obtain⟨v,h,nx,h1,h2⟩:=hE _ hl;obtain⟨e,h',nx',h3,h4⟩:=hF v h nx K h1;exact⟨e,h',nx',h3,fun K' hk=>h2 _ (h4 K' hk)⟩
theorem PZ {α:Type}{E:(α→Prop)→Prop}{F:α→KE→Prop}(hE:uC E)(hF:∀ v,fH (F v)):fH (fun K=>E (fun v=>F v K)):=by
 intro K hl;obtain⟨v,h1,h2⟩:=hE _ hl;obtain⟨e,h',nx',h3,h4⟩:=hF v K h1;exact⟨e,h',nx',h3,fun K' hk=>h2 _ (h4 K' hk)⟩
def zK (f:KE→KS):Prop:=∀ e h nx,fH (fun K=>f K e h nx)
variable {A:Ar}{T:cM}{C:VC}{Y:VY}
def aGh (R:VR):Prop:=∀ g ps as bd (kn:KE→KS) (kx:Nat→KE→KS) (kr:KE→KS),zK kn→(∀ i,zK (kx i))→zK kr→zK (fun K=>R g ps as bd (kn K) (fun i=>kx i K) (kr K))
theorem JD {F:KE→KS→KS}(hF:∀ k:KE→KS,zK k→zK (fun K=>F K (k K))):∀ m,zK (fun K=>EM (F K) m)
 |0=>fun _ _ _=>fB
 |m+1=>hF (fun K=>EM (F K) m) (JD hF m)
theorem AM (hC:dZ C)(hY:dZ Y){tn:Nat}{PL:Nat→Option fE}{n:Nat}{R:VR}(hR:aGh R):∀ (c:Code) (kn:KE→KS) (kx:Nat→KE→KS) (kr:KE→KS),zK kn→(∀ i,zK (kx i))→zK kr →
  zK (fun K=>gV A T C Y tn PL (.fuel n) R c (kn K) (fun i=>kx i K) (kr K)):=by
 intro c
 induction c with
 |skip=>exact fun kn kx kr h1 _ _=>h1
 |region id ops draw =>
  intro kn kx kr h1 _ _ e h nx;simp only [gE,jW];cases draw with
  |false=>exact FY (F:=fun e h nx K=>kn K e h nx) (FK hC hY _ _ _ _) h1
  |true =>
   simp only;cases PL id with
   |none =>
    intro K hl;obtain⟨ea,ha,na,⟨e0,h0,n0,hi,hk⟩,hr⟩:=wY hC hY _ _ _ _ _ _ hl;obtain⟨v,h',nx',q1,q2⟩:=h1 e0 h0 n0 K hk;exact⟨v,h',nx',q1,fun K' hk'=>hr _ ⟨e0,h0,n0,hi,q2 K' hk'⟩⟩
   |some p=>exact FY (F:=fun e h nx K=>kn K e h nx) (MI hC hY) h1
 |seq a b iha ihb=>exact fun kn kx kr h1 h2 h3=>iha (fun K=>gV A T C Y tn PL (.fuel n) R b (kn K) (fun i=>kx i K) (kr K)) kx kr (ihb kn kx kr h1 h2 h3) h2 h3
 |cond c t f iht ihf =>
  intro kn kx kr h1 h2 h3 e h nx;simp only [gE,jW];intro K hl;split at hl
  ·rename_i b hb;exact x9 (iht kn kx kr h1 h2 h3 e h nx) (ihf kn kx kr h1 h2 h3 e h nx) K hl
  ·exact hl.elim
 |block id b ih =>
  intro kn kx kr h1 h2 h3;have:=ih kn (fun j=>match Nat.beq j id with|true=>kn|false=>kx j) kr h1 (fun j=>by
   cases hb:Nat.beq j id with
   |true=>simp only;exact h1
   |false=>simp only;exact h2 j) h3
  intro e h nx;have h5:=this e h nx;have heq:(fun K=>gV A T C Y tn PL (.fuel n) R (.block id b) (kn K) (fun i=>kx i K) (kr K) e h nx)=(fun K=>gV A T C Y tn PL (.fuel n) R b (kn K) (fun i=>(match Nat.beq i id with|true=>kn|false=>kx i) K) (kr K) e h nx):=by
   funext K;simp only [OF];congr 1;funext j;cases Nat.beq j id <;> rfl
  show fH (fun K=>gV A T C Y tn PL (.fuel n) R (.block id b) (kn K) (fun i=>kx i K) (kr K) e h nx);rw [heq];exact h5
 |loop b ih =>
  intro kn kx kr h1 h2 h3 e h nx;simp only [qL,aBd];exact JD (F:=fun K k=>gV A T C Y tn PL (.fuel n) R b k (fun i=>kx i K) (kr K)) (fun k hk=>ih k kx kr hk h2 h3) n e h nx
 |rangeFunc g ps as bd _ _=>exact fun kn kx kr h1 h2 h3=>hR g ps as bd kn kx kr h1 h2 h3
 |exit id=>exact fun kn kx kr _ h2 _=>h2 id
 |ret=>exact fun kn kx kr _ _ h3=>h3
 |label l=>exact fun kn kx kr h1 _ _=>h1
 |scope b ih=>exact fun kn kx kr h1 h2 h3=>ih kn kx kr h1 h2 h3
 |goto l=>exact fun _ _ _ _ _ _ _ _ _=>fB
 |refuse s=>exact fun _ _ _ _ _ _ _ _ _=>fB
theorem RV (hC:dZ C){f tn:Nat}:aGh (s9 C f tn):=by
 intro g ps as bd kn kx kr h1 h2 h3 e h nx;simp only [s9];refine iT fun gv=>?_;intro K hl;split at hl
 case h_2=>exact hl.elim
 split at hl
 case h_2=>exact hl.elim
 rename_i q first cap _ _ hfirst hcap
 refine QS (E:=C q _ _ _) (F:=fun v h' nx' K=>(match look h' (nx+1),look h' nx with
  |some (.loop l),some .deferred=>(match l.state,l.pending with
   |.busy,_=>False
   |_,none=>kn K e (gN h' nx) nx'
   |_,some (.exit id)=>kx id K e (gN h' nx) nx'
   |_,some .ret=>kr K e (gN h' nx) nx'
   |_,_=>False)
  |_,_=>False)) (hC _ _ _ _) (fun v h' nx'=>?_) K hl
 intro K hl;split at hl
 case h_2=>exact hl.elim
 split at hl
 ·exact hl.elim
 ·exact h1 _ _ _ K hl
 ·exact h2 _ _ _ _ K hl
 ·exact h3 _ _ _ K hl
 ·exact hl.elim
theorem L8 (hC:dZ C){f tn:Nat}:T2 (s9 C f tn):=by
 intro g ps as bd kn kn' kx kx' kr kr' e h nx h1 h2 h3 hl;unfold s9 at hl ⊢;obtain⟨gv,hgv,hl⟩:=cQ hl;rw [hgv];simp only [on];split at hl
 case h_2=>exact hl.elim
 split at hl
 case h_2=>exact hl.elim
 obtain⟨v,h',nx',k1,k2⟩:=hC _ _ _ _ _ hl;refine k2 _ ?_;split at k1
 case h_2=>exact k1.elim
 split at k1
 ·exact k1.elim
 ·exact h1 _ _ _ k1
 ·exact h2 _ _ _ _ k1
 ·exact h3 _ _ _ k1
 ·exact k1.elim
section
variable {A:Ar}{T:cM}{C:VC}{Y:VY}
theorem rB {e:List (Nat × Value)}{h:Heap}:∀ (l:List ResultVar),uC (fO T e h l)
 |[]=>yK
 |.tmp t::r=>by
  show uC (fun K=>fO T e h (.tmp t::r) K);simp only [mK,lF];exact jK (F:=fun v K=>fO T e h r fun l=>K (v::l)) fun v=>FH (F:=fun l K=>K (v::l)) (rB r) fun l=>yK
 |.cell a t::r=>by
  show uC (fun K=>fO T e h (.cell a t::r) K);simp only [mK,lF];exact jK (F:=fun p K=>sP T h t p fun v=>fO T e h r fun l=>K (v::l)) fun p=>FH (F:=fun v K=>fO T e h r fun l=>K (v::l)) IP fun v =>
   FH (F:=fun l K=>K (v::l)) (rB r) fun l=>yK
theorem Z1 {fn:Func}{g:Value→Heap→Nat→Value × Heap × Nat}:zK (fun K=>B7 T fn (fun v h nx=>K (g v h nx).1 (g v h nx).2.1 (g v h nx).2.2)):=by
 intro e h nx;unfold B7
 refine PZ (F:=fun l K=>match l with
  |[v]=>K (g v h nx).1 (g v h nx).2.1 (g v h nx).2.2
  |l=>match I4 l with|true=>K (g (.tuple l.toArray) h nx).1 (g (.tuple l.toArray) h nx).2.1 (g (.tuple l.toArray) h nx).2.2|false=>False) (rB _) fun l=>?_
 intro K hl;split at hl
 ·exact cK K hl
 ·split at hl
  ·exact cK K hl
  ·exact hl.elim
theorem FR {q:Nat}{j:Option Code}:zK (fun K=>v8 q K j):=by
 intro e h nx;simp only [v8];cases look h q with
 |none=>exact fB
 |some o=>cases o <;> first|exact cK|exact fB
theorem BV:aGh uR:=fun _ _ _ _ _ _ _ _ _ _ _ _ _=>fB
theorem R7 (hC:dZ C)(hY:dZ Y){PL:Nat→Nat→Option fE}{n:Nat}:dZ (rJ A T C Y PL (.fuel n)):=by
 intro q args h nx;show fH (fun K=>rJ A T C Y PL (.fuel n) q args h nx K);unfold rJ;intro K hl;split at hl
 case h_2=>exact hl.elim
 rename_i la hk;split at hl
 case h_2=>exact hl.elim
 rename_i e0 hz hpl;refine AM hC hY BV la.assign (fun K e1 h1 nx1 =>
  match look h1 q with
  |some (.loop l1)=>(match l1.state with
   |.ready=>gV A T C Y la.tn (PL la.fn) (.fuel n) uR la.body (v8 q K none) (fun id=>v8 q K (some (.exit id))) (v8 q K (some .ret)) e1 (wG h1 q (.loop { l1 with state:=.busy })) nx1
   |_=>False)
  |_=>False) (fun _ _ _ _ _=>False) (fun _ _ _ _=>False) ?_ (fun _ _ _ _=>fB) (fun _ _ _=>fB) e0 h nx K hl
 intro e1 h1 nx1 K hl;dsimp only at hl ⊢;split at hl
 case h_2=>exact hl.elim
 split at hl
 case h_2=>exact hl.elim
 exact AM hC hY BV la.body (fun K=>v8 q K none) (fun id K=>v8 q K (some (.exit id))) (fun K=>v8 q K (some .ret)) FR (fun _=>FR) FR e1 _ nx1 K hl
theorem WZ {c:ET}{n:Nat}(hC:dZ C)(hY:dZ Y)(hX:∀ f x,c.X f=some x→∀ args h nx,fH (x args h nx)):dZ (vG c (some n) C Y):=by
 intro f args h nx;show fH (fun K=>vG c (some n) C Y f args h nx K);unfold vG;intro K hl;split at hl
 ·rename_i x hx;exact hX f x hx args h nx K hl
 ·split at hl
  ·exact hl.elim
  ·rename_i fn hfn;split at hl
   case h_2=>exact hl.elim
   rename_i b hb hle;have hv:zK (fun K=>B7 c.T fn (fun v h' nx'=>K v h' nx')) :=
    Z1 (g:=fun v h' nx'=>(v,h',nx'))
   exact AM hC hY (RV hC) b (fun K=>B7 c.T fn (fun v h' nx'=>K v h' nx')) (fun _ _ _ _ _=>False) (fun K=>B7 c.T fn (fun v h' nx'=>K v h' nx')) hv (fun _ _ _ _=>fB) hv _ h nx K hl
end
def cJ (P:Program)(f:Nat)(x:List Value→Heap→Nat→KE→Prop):Prop:=(∀ args h nx K,x args h nx K→∀ ι B w,aS ι B h nx w→(∀ v∈args,eR ι nx v) →
 (∃ fn, P.funcs[f]? = some fn ∧ fn.body.isSome = true ∧ (fn.name == "runtime.NumGoroutine") = false) ∧ CallsIn Fence.wide 0 P f (args.map (tr ι)).toArray w (Ret B w ι nx K)) ∧ ∀ args h nx, fH (x args h nx)
structure rP (P:Program) (c:ET):Prop where
 ar:c.A=aB
 tab:cH P c.T
 mixed:P.follows .mixedOrders=true
 funcs : ∀ f fn, c.FT f = some fn → P.funcs[f]? = some fn ∧ (fn.name == "runtime.NumGoroutine") = false ∧ ∀ b, fn.body = some b → dT (c.PL f) b = true
 xs:∀ f x,c.X f=some x→cJ P f x
section
variable {P:Program}{c:ET}{C:VC}{Y:VY}
theorem FO (hc:rP P c)(hC:bI P C)(hY:eG P Y)(hD:dZ C)(hDY:dZ Y)(M:Option Nat):bI P (vG c M C Y):=by
 intro f args h nx K hl ι B w H hs;unfold vG at hl;split at hl
 ·rename_i x hx;exact (hc.xs f x hx).1 args h nx K hl ι B w H hs
 ·split at hl
  ·exact hl.elim
  ·rename_i fn hfn;split at hl
   case h_2=>exact hl.elim
   rename_i b hb hle;obtain⟨h1,h2,h3⟩:=hc.funcs f fn hfn;refine⟨⟨fn,h1,by rw [hb];rfl,h2⟩,?_⟩;rw [hc.ar] at hl;refine aDg (K':=K) hc.tab hC hY hD hDY hc.mixed h1 hb (h3 b hb) (by cases M with|none=>exact Nat.le_refl _|some n=>trivial) (WM hC) (L8 hD) (Nat.le_of_ble_eq_true hle) (fun v h' nx' hk=>⟨_,hk,fun k o hlk=>hlk⟩) hl H hs
theorem tO {n:Nat}{g:Heap}:∀ {h:Heap} {k:Nat} {o:aV},look (pG n g h) k=some o→look h k=some o∧n≤k∧((∃ a b c,look g k=some (.cells true a b c))∨∃ es,look g k=some (.map es))
 |[],k,o,hk=>by cases hk
 |(j,q)::r,k,o,hk=>by
  have drop:look (pG n g r) k=some o→((∃ a b c,look g j=some (.cells true a b c))→n≤j→False)→((∃ es,look g j=some (.map es))→n≤j→False)→look ((j,q)::r) k=some o∧n≤k∧((∃ a b c,look g k=some (.cells true a b c))∨∃ es,look g k=some (.map es)):=by
   intro h1 h2 h3;obtain⟨i1,i2,i3⟩:=tO h1;refine⟨?_,i2,i3⟩;rw [aE];split
   ·rename_i hb;have:=beq_true hb;subst this;rcases i3 with i3|i3
    ·exact (h2 i3 i2).elim
    ·exact (h3 i3 i2).elim
   ·exact i1
  have AD:look ((j,q)::pG n g r) k=some o→n≤j→((∃ a b c,look g j=some (.cells true a b c))∨∃ es,look g j=some (.map es))→look ((j,q)::r) k=some o∧n≤k∧((∃ a b c,look g k=some (.cells true a b c))∨∃ es,look g k=some (.map es)):=by
   intro h1 h2 h3;rw [aE] at h1 ⊢;split at h1
   ·rename_i hb;have:=beq_true hb;subst this;exact⟨h1,h2,h3⟩
   ·exact tO h1
  unfold pG at hk;split at hk
  ·rename_i a b c hn hg;exact AD hk (Nat.le_of_ble_eq_true hn) (.inl ⟨_,_,_,hg⟩)
  ·rename_i es hn hg;exact AD hk (Nat.le_of_ble_eq_true hn) (.inr ⟨_,hg⟩)
  ·rename_i n1 n2;exact drop hk (fun ⟨a,b,c,h1⟩ h2=>n1 _ _ _ (Nat.ble_eq_true_of_le h2) h1) (fun ⟨es,h1⟩ h2=>n2 _ (Nat.ble_eq_true_of_le h2) h1)
theorem aFq {PR:Nat→Bool}(hC:bI P C):bI P (frC PR C):=by
 intro f args h nx K hl ι B w H hs;unfold frC at hl;split at hl
 case h_2=>exact hC f args h nx K hl ι B w H hs
 obtain⟨c1,c2⟩:=hC f args (eJ h) nx _ hl ι w.heap.size w H.shut hs;refine⟨c1,CallsIn.mono c2 fun e w' hr=>?_⟩;cases e with
 |returned u =>
  obtain⟨v,h',nx',ι',q1,q2,q3,q4,q5,q6,q7⟩:=hr;have H':aS ι B h nx w':=H.ext q4;unfold frK at q1;split at q1
  ·rename_i hg;exact⟨v,h,nx,ι,q1,bU hg,H',q4.mono H.size,fun _ _=>rfl,Nat.le_refl _,by rw [q7,iB hg,iB hg]⟩
  ·refine⟨v,_,nx',ι',q1,q2,?_,q4.mono H.size,q5,q6,q7⟩;have Q:=q3.down H.size;have hcase:∀ k o,look (app (pG nx h' h') h) k=some o→(look h k=some o∧k<nx)∨(look h' k=some o∧nx≤k∧∀ b,(ι' k).CU=some b→w.heap.size≤b):=by
    intro k o hk;rw [gK] at hk;split at hk
    ·rename_i o1 ho;injection hk with hk;subst hk;obtain⟨a1,a2,a3⟩:=tO ho;refine .inr ⟨a1,a2,fun b hb=>?_⟩;have hob:=q3.obj k _ a1;cases hl:ι' k with
     |nil p=>rw [hl] at hb;cases hb
     |lay b2 off e =>
      rw [hl] at hb hob;have e1:b2=b:=(by simpa [Loc.CU] using hb);subst e1;rcases a3 with ⟨a,b',c,a3⟩|⟨es,a3⟩
      ·rw [a1] at a3;injection a3 with a3;subst a3;exact hob.1
      ·rw [a1] at a3;injection a3 with a3;subst a3;exact hob.1
    ·exact .inl ⟨hk,H.low k _ hk⟩
   refine⟨fun k o hk=>?_,fun k k' o o' hk hk' hne ha b hb=>?_,fun k o hk=>?_,H'.size,fun k o hk=>?_⟩
   ·rcases hcase k o hk with ⟨h2,h3⟩|⟨h2,h3,_⟩
    ·rw [q5 k h3];exact (H'.obj k o h2).names (H'.sc k o h2) q5
    ·exact Q.obj k o h2
   ·rcases hcase k o hk with ⟨h2,h3⟩|⟨h2,h3,h4⟩ <;> rcases hcase k' o' hk' with ⟨h2',h3'⟩|⟨h2',h3',h4'⟩
    ·rw [q5 k h3] at hb;rw [q5 k' h3'];exact H'.sep k k' o o' h2 h2' hne ha b hb
    ·rw [q5 k h3] at hb;intro hb';have:=h4' b hb';have:=(H.obj k o h2).lt hb;omega
    ·rw [q5 k' h3'];intro hb';have:=h4 b hb;have:=(H.obj k' o' h2').lt hb';omega
    ·exact Q.sep k k' o o' h2 h2' hne ha b hb
   ·rcases hcase k o hk with ⟨h2,h3⟩|⟨h2,h3,h4⟩
    ·omega
    ·exact Q.low k o h2
   ·rcases hcase k o hk with ⟨h2,h3⟩|⟨h2,h3,h4⟩
    ·exact (H'.sc k o h2).mono q6 q5
    ·exact Q.sc k o h2
 |_=>exact hr.elim
theorem aCp {PR:Nat→Bool}(hC:dZ C):dZ (frC PR C):=by
 intro f args h nx K hl;unfold frC at hl ⊢;cases hp:PR f with
 |false=>simp only [hp] at hl ⊢;exact hC f args h nx K hl
 |true =>
 simp only [hp] at hl ⊢;obtain⟨v,h',nx',q1,q2⟩:=hC _ _ _ _ _ hl;unfold frK at q1;split at q1
 ·rename_i hg;refine⟨v,h,nx,q1,fun K' hk=>q2 _ ?_⟩;unfold frK;rw [hg];exact hk
 ·rename_i hg;refine⟨v,_,nx',q1,fun K' hk=>q2 _ ?_⟩;unfold frK;rw [hg];exact hk
theorem kG (hc:rP P c):∀ d,bI P (r8 c d false)∧eG P (r8 c d true)∧dZ (r8 c d false)∧dZ (r8 c d true)
 |0=>⟨fun _ _ _ _ _ hl=>hl.elim,fun _ _ _ _ _ hl=>hl.elim,fun _ _ _ _ _ hl=>hl.elim,fun _ _ _ _ _ hl=>hl.elim⟩
 |d+1=>by
  obtain⟨h1,h2,h3,h4⟩:=kG hc d;refine⟨aFq (FO hc h1 h2 h3 h4 _),?_,aCp (WZ h3 h4 (fun f x hx=>(hc.xs f x hx).2)),R7 h3 h4⟩;show eG P (rJ c.A c.T (r8 c d false) (r8 c d true) c.PL (.fuel c.M));rw [hc.ar];exact VZ hc.tab h1 h2 h3 h4 hc.mixed
end
end Go.Aw
end
