/-
  Parts of a proof. No condition.
-/
import Derived.Test.YtoekkmbbbllogaaGreatQAk
import Derived.RangeFuncLeaves
set_option linter.unusedSimpArgs false
set_option linter.unusedVariables false
noncomputable section
namespace Go.Aw
open Go.RowKit
def vresults (T:Tab)(e:List (Nat × Value))(h:Heap)(l:List ResultVar):(List Value→Prop)→Prop :=
 @List.rec ResultVar (fun _=>(List Value→Prop)→Prop) (fun K=>K [])
  (fun x _ ih K=>match x with
   |.tmp t=>on (look e t) fun v=>ih fun l=>K (v::l)
   |.cell a t=>on (look e a) fun p=>vload T h t p fun v=>ih fun l=>K (v::l)) l
theorem vresults_tmp {T:Tab}{e:List (Nat × Value)}{h:Heap}{t:Nat}{r:List ResultVar}{K:List Value→Prop}:vresults T e h (.tmp t::r) K=on (look e t) fun v=>vresults T e h r fun l=>K (v::l):=rfl
theorem vresults_cell {T:Tab}{e:List (Nat × Value)}{h:Heap}{a:Nat}{t:TypeId}{r:List ResultVar}{K:List Value→Prop}:vresults T e h (.cell a t::r) K=on (look e a) fun p=>vload T h t p fun v=>vresults T e h r fun l=>K (v::l):=rfl
def noTup:List Value→Bool
 |[]=>true
 |.tuple _::_=>false
 |_::r=>noTup r
def vend (T:Tab)(fn:Func)(K:KE):KS:=fun e h nx=>vresults T e h fn.results.toList fun l =>
 match l with
 |[v]=>K v h nx
 |l=>match noTup l with|true=>K (.tuple l.toArray) h nx|false=>False
def resOne (tmps:Array Value):ResultVar→Sem Value
 |.tmp t=>pure (tmps.getD t undef)
 |.cell b t=>do loadVar t (← asAddr (tmps.getD b undef))
theorem results_eq (fn:Func)(tmps:Array Value):results fn tmps=(do let vs ← fn.results.mapM (resOne tmps);pure (if h:vs.size=1 then vs[0] else .tuple vs)):=by
 unfold results
 congr 1
section
variable {P:Program}{T:Tab}
theorem vresults_ok (hT:TabOK P T){ι:Nat→Loc}{B nx:Nat}{e:List (Nat × Value)}{h:Heap}{a:Act}(he:EnvOK ι nx e a){w:World}(H:RelH ι B h nx w):∀ (l:List ResultVar) (K:List Value→Prop),vresults T e h l K →
  ∃ vs,K vs∧vs.length=l.length∧(∀ v∈vs,scT ι nx v)∧∀ w',RelH ι B h nx w'→(l.mapM (resOne a.tmps)).run P w'=.ok (vs.map (tr ι)) w'
 |[],K,hl=>⟨[],hl,rfl,by simp,fun w' _=>by simp⟩
 |.tmp t::r,K,hl=>by
  simp only [vresults_tmp,vresults_cell] at hl
  obtain⟨v,hv,hl⟩:=on_ok hl
  obtain⟨vs,h1,h2,h3,h4⟩:=vresults_ok hT he H r _ hl
  obtain⟨e1,e2⟩:=he t v hv
  refine⟨v::vs,h1,by simp [h2],fun u hu=>?_,fun w' H'=>?_⟩
  ·rcases List.mem_cons.1 hu with rfl|hu
   ·exact e2
   ·exact h3 u hu
  ·have:=h4 w' H'
   have h6:(resOne a.tmps (.tmp t)).run P w'=.ok (tr ι v) w':=by simp [resOne,e1]
   simp only [List.mapM_cons,Sem.run_bind,Sem.run_pure,Result.andThen_ok,this,h6,List.map_cons]
 |.cell b t::r,K,hl=>by
  simp only [vresults_tmp,vresults_cell] at hl
  obtain⟨p,hp,hl⟩:=on_ok hl
  obtain⟨v,hk,hv,hrun⟩:=vload_ok (P:=P) hT hl H
  obtain⟨vs,h1,h2,h3,h4⟩:=vresults_ok hT he H r _ hk
  obtain⟨e1,e2⟩:=he b p hp
  refine⟨v::vs,h1,by simp [h2],fun u hu=>?_,fun w' H'=>?_⟩
  ·rcases List.mem_cons.1 hu with rfl|hu
   ·exact scT_of_A hv
   ·exact h3 u hu
  ·have:=h4 w' H'
   have e3:a.tmps.getD b undef=tr ι p:=by simp [e1]
   have h5:=hrun w' H'
   have hptr:∃ ad,tr ι p=.pointer (some ad):=by
    unfold vload at hl
    split at hl
    ·rename_i k o
     simp only [tr_pointer]
     split at hl
     ·rename_i ti wr g sz cs ht hlk
      have hsc:k<nx∧(ι k).isAt=true:=e2
      cases hι:ι k with
      |nil q=>rw [hι] at hsc;cases hsc.2
      |lay b o e=>exact⟨_,rfl⟩
     ·exact hl.elim
    ·exact hl.elim
   obtain⟨ad,had⟩:=hptr
   rw [had] at h5
   simp only [Instr.loadAt,Instr.sureAddr,Sem.run_bind,Sem.run_pure,Result.andThen_ok] at h5
   have h6:(resOne a.tmps (.cell b t)).run P w'=.ok (tr ι v) w':=by
    simp only [resOne,e3,had,asAddr,Sem.run_bind,Sem.run_pure,Result.andThen_ok,h5]
   simp only [List.mapM_cons,Sem.run_bind,Sem.run_pure,Result.andThen_ok,h6,this,List.map_cons]
theorem vend_ok (hT:TabOK P T){fn:Func}{K:KE}{ι:Nat→Loc}{B nx:Nat}{e:List (Nat × Value)}{h:Heap}{a:Act}(he:EnvOK ι nx e a){w:World}(H:RelH ι B h nx w)(hl:vend T fn K e h nx) :
  ∃ v,K v h nx∧scT ι nx v∧∀ w',RelH ι B h nx w'→(results fn a.tmps).run P w'=.ok (tr ι v) w':=by
 unfold vend at hl
 obtain⟨vs,h1,h2,h3,h4⟩:=vresults_ok hT he H _ _ hl
 have hres:∀ w',RelH ι B h nx w'→(results fn a.tmps).run P w'=.ok (if h:(vs.map (tr ι)).toArray.size=1 then (vs.map (tr ι)).toArray[0] else .tuple (vs.map (tr ι)).toArray) w':=by
  intro w' H'
  have:=h4 w' H'
  rw [results_eq,Array.mapM_eq_mapM_toList]
  simp only [Sem.run_bind,Sem.run_map,this,Result.andThen_ok,Sem.run_pure]
 split at h1
 ·rename_i v
  exact⟨v,h1,h3 v (by simp),fun w' H'=>by rw [hres w' H'];simp⟩
 ·rename_i hne
  split at h1
  case h_2=>exact h1.elim
  rename_i hnt
  have hA:∀ v∈vs,scA ι nx v:=by
   clear h4 hres hne h2 hl h1
   induction vs with
   |nil=>simp
   |cons x r ih =>
    intro v hv
    have hx:(∀ c,x≠.tuple c)∧noTup r=true:=by
     cases x <;> first|exact⟨fun c e=>(by cases e),hnt⟩|(simp [noTup] at hnt)
    rcases List.mem_cons.1 hv with rfl|hv
    ·exact scA_of_T hx.1 (h3 v (by simp))
    ·exact ih (fun u hu=>h3 u (by simp [hu])) hx.2 v hv
  refine⟨_,h1,fun v hv=>hA v (by simpa using hv),fun w' H'=>?_⟩
  rw [hres w' H']
  have hlen:vs.length≠1:=by
   intro e
   obtain⟨v,rfl⟩:=List.length_eq_one_iff.1 e
   exact hne v rfl
  rw [dif_neg (by simpa using hlen)]
  simp only [tr]
  congr 2
  apply Array.ext'
  simp only [List.map_toArray]
  apply List.map_congr_left
  intro v hv
  exact tr_of_A (hA v hv)
end
end Go.Aw
end

noncomputable section
namespace Go.Aw
open Go.RowKit
def afterLoop (h:Heap)(nx:Nat):Heap:=shutH (rem (rem h (nx+1)) nx)
def vrange (C:VC)(f tn:Nat):VR:=fun g ps as bd kn kx kr e h nx =>
 on (opv e g) fun gv=>match gv with
  |.func (.func q) first cap=>(match first.toList,capPtr cap.toList with
   |[],true=>C q (.func (.yield (nx+1)) #[] #[]::cap.toList)
    (hput (hput h nx .deferred) (nx+1) (.loop { state:=.ready,pending:=none,fn:=f,env:=e,tn:=tn,params:=ps.toList,assign:=as,body:=bd,defers:=nx })) (nx+2) fun _ h' nx' =>
    (match look h' (nx+1),look h' nx with
    |some (.loop l),some .deferred=>(match l.state,l.pending with
     |.busy,_=>False
     |_,none=>kn e (afterLoop h' nx) nx'
     |_,some (.exit id)=>kx id e (afterLoop h' nx) nx'
     |_,some .ret=>kr e (afterLoop h' nx) nx'
     |_,_=>False)
    |_,_=>False)
   |_,_=>False)
  |_=>False
def noRange:VR:=fun _ _ _ _ _ _ _ _ _ _=>False
def zipPut (tn:Nat):List (Nat × Value)→List Nat→List Value→Option (List (Nat × Value))
 |e,[],[]=>some e
 |e,t::ts,v::vs=>match Nat.blt t tn with|true=>zipPut tn (put e t v) ts vs|false=>none
 |_,_,_=>none
def vfin (q:Nat)(K:KE)(j:Option Code):KS:=fun _ h nx =>
 match look h q with
 |some (.loop l)=>K (.bool j.isNone) (upd h q (.loop { l with state:=if j.isNone then .ready else .done,pending:=j })) nx
 |_=>False
def vround (A:Ar)(T:Tab)(C:VC)(Y:VY)(PL:Nat→Nat→Option Plan)(M:LM):VY:=fun q args h nx K =>
 match look h q with
 |some (.loop l)=>(match zipPut l.tn l.env l.params args,plansOK (PL l.fn) l.assign&&plansOK (PL l.fn) l.body with
  |some e0,true=>vcode A T C Y l.tn (PL l.fn) M noRange l.assign (fun e1 h1 nx1 =>
   match look h1 q with
   |some (.loop l1)=>(match l1.state with
    |.ready=>vcode A T C Y l.tn (PL l.fn) M noRange l.body (vfin q K none) (fun id=>vfin q K (some (.exit id))) (vfin q K (some .ret)) e1 (upd h1 q (.loop { l1 with state:=.busy })) nx1
    |_=>False)
   |_=>False) (fun _ _ _ _=>False) (fun _ _ _=>False) e0 h nx
  |_,_=>False)
 |_=>False
def initEnv:Nat→List Value→List (Nat × Value)
 |_,[]=>[]
 |i,v::r=>(i,v)::initEnv (i+1) r
def prune (n:Nat):Heap→Heap
 |[]=>[]
 |(k,o)::r=>match Nat.blt k n with|true=>(k,o)::prune n r|false=>prune n r
structure Cfg where
 A:Ar
 T:Tab
 FT:Nat→Option Func
 PL:Nat→Nat→Option Plan
 PR:Nat→Bool
 X:Nat→Option (List Value→Heap→Nat→KE→Prop)
 M:Nat
def vbody (c:Cfg)(M:Option Nat)(C:VC)(Y:VY):VC:=fun f args h nx K =>
 match c.X f with
 |some x=>x args h nx K
 |none=>match c.FT f with
  |none=>False
  |some fn=>(match fn.body,Nat.ble args.length fn.ntmps with
   |some b,true =>
    let fin:KS:=vend c.T fn fun v h' nx'=>K v h' nx'
    vcode c.A c.T C Y fn.ntmps (c.PL f) (match M with|some n=>.fuel n|none=>.inv nx) (vrange C f fn.ntmps) b fin (fun _ _ _ _=>False) fin (initEnv 0 args) h nx
   |_,_=>False)
def app:Heap→Heap→Heap
 |[],l=>l
 |x::r,l=>x::app r l
theorem look_app (h l:Heap)(k:Nat):look (app h l) k=match look h k with|some o=>some o|none=>look l k:=by
 induction h with
 |nil=>rfl
 |cons x r ih =>
  obtain⟨j,o⟩:=x
  simp only [app,look_cons]
  cases Nat.beq j k with
  |true=>rfl
  |false=>exact ih
def newOwn (n:Nat)(g:Heap):Heap→Heap
 |[]=>[]
 |(k,o)::r=>match Nat.ble n k,look g k with
  |true,some (.cells true _ _ _)=>(k,o)::newOwn n g r
  |true,some (.map _)=>(k,o)::newOwn n g r
  |_,_=>newOwn n g r
def frK (h:Heap)(nx:Nat)(K:KE):KE:=fun v h' nx'=>match gT v with
 |true=>K v h nx
 |false=>K v (app (newOwn nx h' h') h) nx'
def frC (PR:Nat→Bool)(C:VC):VC:=fun f args h nx K=>match PR f with
 |true=>C f args (shutH h) nx (frK h nx K)
 |false=>C f args h nx K
def vcall (c:Cfg):Nat→Bool→VC
 |0,_=>fun _ _ _ _ _=>False
 |d+1,false=>frC c.PR (vbody c (some c.M) (vcall c d false) (vcall c d true))
 |d+1,true=>vround c.A c.T (vcall c d false) (vcall c d true) c.PL (.fuel c.M)
section
variable {P:Program}{T:Tab}
theorem RelH.down {ι:Nat→Loc}{B B0 nx:Nat}{h:Heap}{w:World}(H:RelH ι B h nx w)(hB:B0≤B):RelH ι B0 h nx w:=by
 refine⟨fun k o hk=>?_,H.sep,H.low,Nat.le_trans hB H.size,H.sc⟩
 have ho:=H.obj k o hk
 cases hι:ι k with
 |nil p=>rw [hι] at ho;cases o <;> first|exact ho|exact ho.elim
 |lay b off e =>
  rw [hι] at ho
  cases o with
  |cells wr g sz cs =>
   cases wr with
   |true=>exact⟨Nat.le_trans hB ho.1,ho.2⟩
   |false=>exact ho
  |map es=>exact⟨Nat.le_trans hB ho.1,ho.2⟩
  |loop l=>exact⟨Nat.le_trans hB ho.1,ho.2⟩
  |deferred=>exact⟨Nat.le_trans hB ho.1,ho.2⟩
  |zero=>exact ho
  |iter m s t q=>exact⟨Nat.le_trans hB ho.1,ho.2⟩
theorem RelH.taken {ι:Nat→Loc}{B nx:Nat}{h:Heap}{w:World}(H:RelH ι B h nx w){b:Nat}(hb:b<B){ds:Option (List Deferred)}(hd:w.heap[b]? = some (.deferred ds))(o:Obj) :
  RelH ι B h nx { w with heap:=w.heap.setIfInBounds b o }:=by
 have hother:∀ c,c≠b→(w.heap.setIfInBounds b o)[c]? = w.heap[c]? := fun c hc=>by rw [Array.getElem?_setIfInBounds_ne (fun e=>hc e.symm)]
 refine⟨fun k q hk=>?_,H.sep,H.low,by simpa using H.size,H.sc⟩
 have hq:=H.obj k q hk
 by_cases hkb:(ι k).blk=some b
 ·-- only what is read,and that is empty
  cases hι:ι k with
  |nil p=>rw [hι] at hkb;cases hkb
  |lay c off e =>
   have hcb:c=b:=by rw [hι] at hkb;simpa [Loc.blk] using hkb
   subst hcb
   rw [hι] at hq
   cases q with
   |cells wr g sz cs =>
    cases wr with
    |true=>have:=hq.1;omega
    |false =>
     refine⟨by simpa using hq.1,hq.2.1,fun i v hv=>?_⟩
     have:=hq.2.2 i v hv
     simp [World.cell?,hd] at this
   |map es=>have:=hq.1;omega
   |loop l=>have:=hq.1;omega
   |deferred=>have:=hq.1;omega
   |zero=>exact hq.elim
   |iter m s t q=>have:=hq.1;omega
 ·exact hq.keep (fun c hc=>hother c (fun e=>hkb (e▸hc))) (by simp)
theorem leaves_marks {ι:Nat→Loc}{B B0 nx:Nat}{h:Heap}{fn:Func}{tmps:Array Value}{Rr:Ending→World→Prop}:∀ (bs:List Nat) (w:World),bs.Nodup→(∀ b∈bs,B0≤b∧b<B∧w.heap[b]? = some (.deferred (some [])))→RelH ι B h nx w →
  (∀ w',RelH ι B h nx w'→Bel B0 w w'→∃ u,(results fn tmps).run P w'=.ok u w'∧Rr (.returned u) w')→LeavesInM Fence.wide 0 P fn tmps Rr (bs.map markOf) .returning w
 |[],w,_,_,H,hR=>hR w H (Bel.refl _ _)
 |b::bs,w,hn,hb,H,hR=>by
  rw [List.nodup_cons] at hn
  obtain⟨h1,h2,h3⟩:=hb b (by simp)
  have hlt:=(Array.getElem?_eq_some_iff.1 h3).1
  have hbel:Bel B0 w { w with heap:=w.heap.setIfInBounds b (.deferred none) }:=⟨rfl,rfl,rfl,by simp,fun c hc=>by
   simp [Array.getElem?_setIfInBounds_ne (show b≠c by omega)],Nat.le_refl _⟩
  refine⟨by simp,.inl ⟨b,{ w with heap:=w.heap.setIfInBounds b (.deferred none) },rfl,?_,?_⟩⟩
  ·simp [Instr.takeDeferred,getObj,setObj,Sem.run,h3]
  ·refine leaves_marks bs _ hn.2 (fun c hc=>?_) (H.taken h2 h3 _) (fun w' H' hb'=>hR w' H' (hbel.trans hb'))
   obtain⟨k1,k2,k3⟩:=hb c (by simp [hc])
   have hne:b≠c:=fun e=>hn.1 (e▸hc)
   exact⟨k1,k2,by simp [Array.getElem?_setIfInBounds_ne hne,k3]⟩
end
end Go.Aw
end

noncomputable section
namespace Go.Aw
open Go.RowKit
section
variable {P:Program}{T:Tab}{C:VC}{Y:VY}
theorem initEnv_look:∀ (l:List Value) (i t:Nat) (v:Value),look (initEnv i l) t=some v→i≤t∧l[t - i]? = some v
 |[],i,t,v,h=>by cases h
 |x::r,i,t,v,h=>by
  simp only [initEnv,look_cons] at h
  split at h
  ·rename_i hb
   have:=beq_true hb
   subst this
   injection h with h
   subst h
   exact⟨Nat.le_refl _,by simp⟩
  ·obtain⟨h1,h2⟩:=initEnv_look r (i+1) t v h
   refine⟨by omega,?_⟩
   rw [show t - i=(t - (i+1))+1 by omega]
   simpa using h2
theorem initEnv_ok {ι:Nat→Loc}{n:Nat}{args:List Value}(hs:∀ v∈args,scT ι n v){k:Nat}{ds:List Deferred}:EnvOK ι n (initEnv 0 args) { tmps:=(args.map (tr ι)).toArray++Array.replicate k undef,defers:=ds }:=by
 intro t v h
 obtain⟨_,h2⟩:=initEnv_look args 0 t v h
 rw [Nat.sub_zero] at h2
 have hlt:=(List.getElem?_eq_some_iff.1 h2).1
 refine⟨?_,hs v (List.mem_of_getElem? h2)⟩
 rw [Array.getElem?_append_left (by simpa using hlt)]
 simp [h2]
theorem body_ok (hT:TabOK P T)(hC:CallsOK P C)(hY:YieldsOK P Y)(hD:DetC C)(hDY:DetC Y)(hm:P.follows .mixedOrders=true){f:FuncId}{fn:Func}{b:Code}(hf:P.funcs[f]? = some fn)(hb:fn.body=some b){nx:Nat}{PL:Nat→Option Plan}(hp:plansOK PL b=true)
  {M:LM} (hM:M.low nx) {R:VR} (hR:RangeOK P none fn.ntmps R) (hRm:RMono R) {args:List Value} (ha:args.length≤fn.ntmps) {h:Heap} {K K':KE} (hK:∀ v h' nx',K' v h' nx'→∃ h'',K v h'' nx'∧∀ k o,look h'' k=some o→look h' k=some o)
  (hl:vcode std T C Y fn.ntmps PL M R b (vend T fn K') (fun _ _ _ _=>False) (vend T fn K') (initEnv 0 args) h nx) {ι:Nat→Loc} {B:Nat} {w:World} (H:RelH ι B h nx w) (hs:∀ v∈args,scT ι nx v) :
  CallsIn Fence.wide 0 P f (args.map (tr ι)).toArray w (Ret B w ι nx K):=by
 refine callsIn_of_wp_marks hf hb trivial ?_ rfl
 have hend:∀ ι' e h' nx' a w',vend T fn K' e h' nx'→CInv B w ι nx fn.ntmps ι' e h' nx' a w'→LeavesInM Fence.wide 0 P fn a.tmps (Ret B w ι nx K) a.defers .returning w':=by
  intro ι' e h' nx' a w' hv I
  obtain⟨B1,w1,ι1,nx1,ds,h1,h2,h3,h4,⟨bs,rfl,hnd,hbs⟩,J⟩:=I
  rw [J.defers]
  obtain⟨v,k1,k2,k3⟩:=vend_ok hT J.env J.heap hv
  obtain⟨h'',k4,k5⟩:=hK v h' nx' k1
  refine leaves_marks (B:=B1) (B0:=B) bs w' hnd (fun x hx=>?_) J.heap (fun w2 H2 hb2=>⟨_,k3 w2 H2,v,h'',nx',ι',k4,k2,(H2.down h1).sub k5,?_,fun k hk=>(J.old k (Nat.lt_of_lt_of_le hk h4)).trans (h3 k hk),Nat.le_trans h4 J.le,rfl⟩)
  ·obtain⟨q1,q2,q3⟩:=hbs x hx
   exact⟨q1,q2,by rw [J.below.block x q2];exact q3⟩
  ·exact (h2.trans (J.below.mono h1)).trans hb2
 refine vcode_ok hT hC hY hD hDY hm none hR hRm b hp _ _ _ _ h nx hl B w ι nx _ hM ⟨?_,?_,?_⟩ ι _ w ?_
 ·exact fun ι' e h' nx' a w' hv I=>hend ι' e h' nx' a w' hv I
 ·exact fun id ι' e h' nx' a w' hv I=>hv.elim
 ·exact fun ι' e h' nx' a w' hv I=>hend ι' e h' nx' a w' hv I
 ·refine⟨B,w,ι,nx,[],Nat.le_refl _,Bel.refl _ _,fun _ _=>rfl,Nat.le_refl _,⟨[],rfl,by simp,by simp⟩,initEnv_ok hs,H,Bel.refl _ _,fun _ _=>rfl,Nat.le_refl _,?_,rfl⟩
  simp
  omega
end
end Go.Aw
end

noncomputable section
namespace Go.Aw
open Go.RowKit
section
variable {P:Program}{T:Tab}{C:VC}{Y:VY}
theorem run_getLoop {w:World}{l:Nat}{r:Loop}(h:w.heap[l]? = some (.loop r)):(Instr.getLoop l).run P w=.ok r w:=by
 simp [Instr.getLoop,getObj,Sem.run,h]
theorem run_setLoop {w:World}{l:Nat}{r:Loop}(h:w.heap[l]? = some (.loop r))(o:Obj):(setObj l o).run P w=.ok () { w with heap:=w.heap.setIfInBounds l o }:=by
 simp [setObj,Sem.run,h]
theorem vrange_ok (hC:CallsOK P C){f tn:Nat}:RangeOK P none tn (vrange C f tn):=by
 intro g ps as bd kn kx kr e h nx hl B0 w0 ι0 nx0 Q E ι a w I
 obtain⟨B,w1,ι1,nx1,ds,h1,h2,h3,h4,⟨bs,hds,hnd,hbs⟩,J⟩:=I
 unfold vrange at hl
 obtain⟨gv,hgv,hl⟩:=on_ok hl
 obtain⟨e1,e2⟩:=J.env.opv hgv
 split at hl
 case h_2=>exact hl.elim
 rename_i q first cap
 split at hl
 case h_2=>exact hl.elim
 rename_i hfirst hcap
 obtain⟨first⟩:=first
 simp only at hfirst
 subst hfirst
 refine wpIn_rangeFunc fun fnid _=>?_
 -- the records
 have H:=J.heap
 have hA:=H.new (.deferred (some [])) .deferred ⟨H.size,(MapKept.heap_alloc w _).1⟩ trivial
 generalize hι2:ins ι nx (.lay w.heap.size 0 0)=ι2 at hA
 generalize hwA:w.alloc (.deferred (some []))=wA at hA
 have hbA:Bel w.heap.size w wA:=by rw [← hwA];exact below_alloc w _
 have hi2:∀ k,k<nx→ι2 k=ι k:=fun k hk=>by rw [← hι2];exact ins_lt _ _ hk
 have hmark:ι2 nx=.lay w.heap.size 0 0:=by rw [← hι2];exact ins_same _ _ _
 let rec_:Loop:={ state:=.ready,pending:=none,fn:=fnid,tmps:=a.tmps,params:=ps,assign:=as,body:=bd,defers:=w.heap.size }
 let la:LoopA:={ state:=.ready,pending:=none,fn:=f,env:=e,tn:=tn,params:=ps.toList,assign:=as,body:=bd,defers:=nx }
 have hi3':∀ k,k<nx→ins ι2 (nx+1) (.lay wA.heap.size 0 0) k=ι k:=fun k hk=>by rw [ins_lt _ _ (by omega)];exact hi2 k hk
 have hB:=hA.new (.loop rec_) (.loop la) (by
  refine⟨hA.size,rec_,(MapKept.heap_alloc wA _).1,rfl,rfl,trivial,J.size,fun t v hv=>?_,rfl,rfl,rfl,?_⟩
  ·obtain⟨k1,k2⟩:=J.env t v hv
   rw [tr_eq hi3' k2]
   exact k1
  ·show (ins ι2 (nx+1) (.lay wA.heap.size 0 0) nx).blk=some w.heap.size
   rw [ins_lt _ _ (by omega),hmark]
   rfl) ⟨fun t v hv=>scT_mono (by omega) hi3' (J.env t v hv).2,by show nx<nx+1+1;omega⟩
 generalize hι3:ins ι2 (nx+1) (.lay wA.heap.size 0 0)=ι3 at hB hi3'
 generalize hwB:wA.alloc (.loop rec_)=wB at hB
 have hbB:Bel wA.heap.size wA wB:=by rw [← hwB];exact below_alloc wA _
 have hl3:ι3 (nx+1)=.lay wA.heap.size 0 0:=by rw [← hι3];exact ins_same _ _ _
 have hm3:ι3 nx=.lay w.heap.size 0 0:=by rw [← hι3,ins_lt _ _ (by omega)];exact hmark
 have hwA1:w.heap.size<wA.heap.size:=by rw [← hwA];exact (Array.getElem?_eq_some_iff.1 (MapKept.heap_alloc w _).1).1
 -- the call
 obtain⟨⟨fn,hfn,hbody,hname⟩,hcalls⟩:=hC q _ _ _ _ hl ι3 B wB hB (by
  intro v hv
  rcases List.mem_cons.1 hv with rfl|hv
  ·simp [scT,scA,scS,scFn,hl3,Loc.isAt]
  ·obtain⟨p,rfl⟩:=capPtr_spec hcap v hv
   exact scT_mono (by omega) hi3' (show scT ι nx (.pointer (some p)) from e2.2 _ hv))
 have hcapm:cap.map (trP ι)=(cap.toList.map (tr ι3)).toArray:=by
  apply Array.ext'
  simp only [Array.toList_map]
  apply List.map_congr_left
  intro v hv
  obtain⟨p,rfl⟩:=capPtr_spec hcap v hv
  exact (tr_eq hi3' (show scT ι nx (.pointer (some p)) from e2.2 _ hv)).symm
 have hy:tr ι3 (.func (.yield (nx+1)) #[] #[])=.func (.yield wA.heap.size) #[] #[]:=by simp [tr,trA,trS,trFn,hl3]
 obtain⟨bdy,hb'⟩:=Option.isSome_iff_exists.1 hbody
 have hname' : fn.name ≠ "runtime.NumGoroutine" := by simpa using hname
 refine⟨wA.heap.size,[markOf w.heap.size],wB,{ target:=.fn (.func q) (cap.map (trP ι)),args:=#[.func (.yield wA.heap.size) #[] #[]] },wB,q,((Value.func (.yield (nx+1)) #[] #[]::cap.toList).map (tr ι3)).toArray,wB,?_,?_,fun _ _=>trivial,?_,fun hdep=>absurd hdep (by simp [Fr,Fence.wide]),?_⟩
 ·have hr:(Fr none).round=none:=rfl
  rw [hr]
  subst hwB
  subst hwA
  simp [Instr.enterLoop,markOf,rec_]
 ·have he1:a.eval g=.func (.func q) #[] (cap.map (trP ι)):=e1
  have hc:∀ v,a.eval (.const v)=v:=fun _=>rfl
  simp [resolve,rangeCall,he1,hc,Deferred.ofValue]
 ·simp [invoke,callFunc,hfn,hname',hb',hcapm,hy]
 ·refine CallsIn.mono (F:=Fence.wide) hcalls fun en w3 hret=>?_
  cases en with
  |panicked c=>exact hret.elim
  |outgrown=>exact hret.elim
  |returned u =>
   obtain⟨v,h',nx',ι',k1,k2,k3,k4,k5,k6,rfl⟩:=hret
   split at k1
   case h_2=>exact k1.elim
   rename_i l' hl1 hl2
   have hι'l:ι' (nx+1)=.lay wA.heap.size 0 0:=(k5 _ (by omega)).trans hl3
   have hι'm:ι' nx=.lay w.heap.size 0 0:=(k5 _ (by omega)).trans hm3
   have ho:=k3.obj _ _ hl1
   rw [hι'l] at ho
   obtain⟨o1,r',o2,o3,o4,_⟩:=ho
   have hd:=k3.obj _ _ hl2
   rw [hι'm] at hd
   have hnb:l'.state≠.busy:=by
    intro hs
    simp [hs] at k1
   have hend:(Instr.endLoop wA.heap.size).run P w3=.ok l'.pending { w3 with heap:=w3.heap.setIfInBounds wA.heap.size (.loop { r' with state:=.exhausted }) }:=by
    have hne:r'.state≠.busy:=by rw [o3];exact hnb
    have hbeq:(r'.state == .busy)=false:=by simpa using hne
    simp [Instr.endLoop,run_getLoop o2,run_setLoop o2,hbeq,o4]
    exact fun h=>absurd h hne
   -- past it
   generalize hw4:({ w3 with heap:=w3.heap.setIfInBounds wA.heap.size (.loop { r' with state:=.exhausted }) }:World)=w4 at hend
   have hoth:∀ c,c≠wA.heap.size→w4.heap[c]? = w3.heap[c]? := fun c hc=>by rw [← hw4];simp [Array.getElem?_setIfInBounds_ne (fun e=>hc e.symm)]
   have hsz4:w4.heap.size=w3.heap.size:=by rw [← hw4];simp
   have hb4:Bel B w3 w4:=⟨by rw [← hw4],by rw [← hw4],by rw [← hw4],by omega,fun c hc=>hoth c (by omega),by rw [← hw4];exact Nat.le_refl _⟩
   have hR:RelH ι' B (rem (rem h' (nx+1)) nx) nx' w4:=by
    refine ((k3.rem (nx+1)).rem nx).keep (fun k o b hk hkb=>hoth b fun e=>?_) (by omega)
    rw [look_rem] at hk
    split at hk
    ·cases hk
    ·rw [look_rem] at hk
     split at hk
     ·cases hk
     ·rename_i hne
      exact k3.sep (nx+1) k _ o hl1 hk (fun e=>hne e.symm) rfl wA.heap.size (by rw [hι'l];rfl) (by rw [hkb,e])
   have hBw:Bel B w w4:=((hbA.mono H.size).trans (hbB.mono hA.size)).trans (k4.trans hb4)
   have hi':∀ k,k<nx→ι' k=ι k:=fun k hk=>(k5 k (by omega)).trans (hi3' k hk)
   have I':CInv B0 w0 ι0 nx0 tn ι' e (afterLoop h' nx) nx' { a with defers:=[markOf w.heap.size]++a.defers } w4:=by
    refine⟨w4.heap.size,w4,ι',nx',markOf w.heap.size::ds,?_,?_,fun k hk=>?_,?_,⟨w.heap.size::bs,by rw [hds];rfl,?_,fun b hb=>?_⟩,J.env.names (by omega) hi',hR.shut,Bel.refl _ _,fun _ _=>rfl,Nat.le_refl _,J.size,by rw [← J.defers];rfl⟩
    ·exact Nat.le_trans h1 hR.size
    ·exact h2.trans ((J.below.mono h1).trans (hBw.mono h1))
    ·have q1:k<nx1:=Nat.lt_of_lt_of_le hk h4
     exact (hi' k (Nat.lt_of_lt_of_le q1 J.le)).trans ((J.old k q1).trans (h3 k hk))
    ·have:=J.le;omega
    ·rw [List.nodup_cons]
     refine⟨fun hm=>?_,hnd⟩
     have:=(hbs _ hm).2.1
     have:=H.size
     omega
    ·rcases List.mem_cons.1 hb with rfl|hb
     ·have:=H.size
      have hsz:=hBw.size
      have hk:=k4.size
      have hk2:=hbB.size
      refine⟨by omega,by omega,?_⟩
      rw [hoth _ (by omega)]
      exact hd.2
     ·obtain⟨q1,q2,q3⟩:=hbs b hb
      have:=hR.size
      refine⟨q1,by omega,?_⟩
      rw [hBw.block b q2,J.below.block b q2]
      exact q3
   refine⟨_,w4,hend,?_⟩
   split at k1
   ·exact k1.elim
   ·rename_i hp _;rw [hp];exact E.n _ _ _ _ _ _ k1 I'
   ·rename_i hp _;rw [hp];exact wpIn_exit (E.x _ _ _ _ _ _ _ k1 I')
   ·rename_i hp _;rw [hp];exact wpIn_ret (E.r _ _ _ _ _ _ k1 I')
   ·exact k1.elim
end
end Go.Aw
end

noncomputable section
namespace Go.Aw
open Go.RowKit
section
variable {P:Program}{T:Tab}{C:VC}{Y:VY}
theorem loop_set {ι:Nat→Loc}{B nx:Nat}{h:Heap}{w:World}(H:RelH ι B h nx w){l:Nat}{la:LoopA}(hl:look h l=some (.loop la)){b o e:Nat}(hι:ι l=.lay b o e) :
  ∃ r:Loop,w.heap[b]? = some (.loop r)∧r.state=la.state∧r.pending=la.pending∧B≤b∧∀ st pd,RelH ι B (upd h l (.loop { la with state:=st,pending:=pd })) nx { w with heap:=w.heap.setIfInBounds b (.loop { r with state:=st,pending:=pd }) } ∧
    Bel B w { w with heap:=w.heap.setIfInBounds b (.loop { r with state:=st,pending:=pd }) }:=by
 have ho:=H.obj l _ hl
 rw [hι] at ho
 obtain⟨h0,r,h1,h2,h3,h4,h5,h6,h7,h8,h9,h10⟩:=ho
 have hlt:=(Array.getElem?_eq_some_iff.1 h1).1
 refine⟨r,h1,h2,h3,h0,fun st pd=>⟨?_,⟨rfl,rfl,rfl,by simp,fun c hc=>by simp [Array.getElem?_setIfInBounds_ne (show b≠c by omega)],Nat.le_refl _⟩⟩⟩
 refine H.set hl rfl ?_ (show OSc ι nx (.loop { la with state:=st,pending:=pd }) from ⟨(H.sc l _ hl).1,(H.sc l _ hl).2⟩) rfl (fun c hc=>?_) (by simp)
 ·rw [hι]
  exact⟨h0,{ r with state:=st,pending:=pd },by simp [Array.getElem?_setIfInBounds_self_of_lt hlt],rfl,rfl,trivial,h5,h6,h7,h8,h9,h10⟩
 ·have:b≠c:=fun e=>hc (by rw [hι,e];rfl)
  simp [Array.getElem?_setIfInBounds_ne this]
theorem zipPut_ok {ι:Nat→Loc}{n tn:Nat}:∀ (ps:List Nat) (args:List Value) (e e0:List (Nat × Value)) (tm:Array Value) (ds:List Deferred),zipPut tn e ps args=some e0→EnvOK ι n e { tmps:=tm,defers:=ds }→tm.size=tn→(∀ v∈args,scT ι n v) →
  ps.length=args.length∧EnvOK ι n e0 { tmps:=(ps.zip (args.map (tr ι))).foldl (fun tmps q=>tmps.setIfInBounds q.1 q.2) tm,defers:=ds }∧((ps.zip (args.map (tr ι))).foldl (fun tmps q=>tmps.setIfInBounds q.1 q.2) tm).size=tn
 |[],[],e,e0,tm,ds,h,he,hs,_=>by simp [zipPut] at h;subst h;exact⟨rfl,he,hs⟩
 |[],_::_,_,_,_,_,h,_,_,_=>by simp [zipPut] at h
 |_::_,[],_,_,_,_,h,_,_,_=>by simp [zipPut] at h
 |t::ts,v::vs,e,e0,tm,ds,h,he,hs,ha=>by
  simp only [zipPut] at h
  split at h
  ·rename_i ht
   have ht:=blt_true ht
   have:=he.upd (d:=t) (v:=v) (by show t<tm.size;omega) (ha v (by simp))
   obtain⟨h1,h2,h3⟩:=zipPut_ok ts vs (put e t v) e0 (tm.setIfInBounds t (tr ι v)) ds h this (by simp [hs]) (fun u hu=>ha u (by simp [hu]))
   exact⟨by simp [h1],h2,h3⟩
  ·cases h
theorem vfin_ok {ι0 ι:Nat→Loc}{B0 nx0 nx tn:Nat}{w0:World}{e:List (Nat × Value)}{h:Heap}{a:Act}{w:World}(I:CInv B0 w0 ι0 nx0 tn ι e h nx a w){q:Nat}{K:KE}{j:Option Code}{b o ex:Nat}(hq:q<nx0)(hι:ι0 q=.lay b o ex)(hl:vfin q K j e h nx) :
  ∃ v w',(Instr.endRound b j).run P w=.ok v w'∧Ret B0 w0 ι0 nx0 K (.returned v) w':=by
 obtain⟨B,w1,ι1,nx1,ds,h1,h2,h3,h4,h5,J⟩:=I
 unfold vfin at hl
 split at hl
 case h_2=>exact hl.elim
 rename_i la hk
 have hold:∀ k,k<nx0→ι k=ι0 k:=fun k hk=>(J.old k (Nat.lt_of_lt_of_le hk h4)).trans (h3 k hk)
 obtain⟨r,k1,k2,k3,k4,k5⟩:=loop_set J.heap hk ((hold q hq).trans hι)
 obtain⟨k6,k7⟩:=k5 (if j.isNone then .ready else .done) j
 refine⟨.bool j.isNone,_,?_,.bool j.isNone,_,nx,ι,hl,by simp [scT,scA,scS,scP],k6.down h1,?_,hold,Nat.le_trans h4 J.le,rfl⟩
 ·simp only [Instr.endRound,Sem.run_bind,run_getLoop k1,Result.andThen_ok,run_setLoop k1,Sem.run_pure]
 ·exact h2.trans ((J.below.trans k7).mono h1)
theorem noRange_ok {r:Option Nat}{tn:Nat}:RangeOK P r tn noRange:=fun g ps as bd kn kx kr e h nx hl=>hl.elim
theorem noRange_mono:RMono noRange:=fun g ps as bd kn kn' kx kx' kr kr' e h nx _ _ _ hl=>hl.elim
theorem vround_ok (hT:TabOK P T)(hC:CallsOK P C)(hY:YieldsOK P Y)(hD:DetC C)(hDY:DetC Y)(hm:P.follows .mixedOrders=true){PL:Nat→Nat→Option Plan}{M:Nat}:YieldsOK P (vround std T C Y PL (.fuel M)):=by
 intro q args h nx K hl ι B w H hs b o ex hι
 unfold vround at hl
 split at hl
 case h_2=>exact hl.elim
 rename_i la hk
 split at hl
 case h_2=>exact hl.elim
 rename_i e0 hz hpl
 simp only [Bool.and_eq_true] at hpl
 have hq:q<nx:=H.low q _ hk
 have ho:=H.obj q _ hk
 rw [hι] at ho
 obtain⟨g0,r,g1,g2,g3,g4,g5,g6,g7,g8,g9,g10⟩:=ho
 have henv:EnvOK ι nx la.env { tmps:=r.tmps,defers:=[] }:=fun t v hv=>⟨g6 t v hv,(H.sc q _ hk).1 t v hv⟩
 obtain⟨z1,z2,z3⟩:=zipPut_ok la.params args la.env e0 r.tmps [] hz henv g5 hs
 have hsz:(args.map (tr ι)).toArray.size=r.params.size:=by
  rw [← Array.length_toList (xs:=r.params),g7]
  simp [z1]
 refine⟨r.fn,(la.params.zip (args.map (tr ι))).foldl (fun tmps q=>tmps.setIfInBounds q.1 q.2) r.tmps,r.assign,r.body,?_,?_⟩
 ·have hf:(r.params.zip (args.map (tr ι)).toArray).foldl (fun tmps x=>match x with|(t,a)=>tmps.setIfInBounds t a) r.tmps=(la.params.zip (args.map (tr ι))).foldl (fun tmps q=>tmps.setIfInBounds q.1 q.2) r.tmps:=by
   rw [← Array.foldl_toList,← g7]
   simp
  simp only [Instr.yield,Sem.run_bind,run_getLoop g1,Result.andThen_ok,hsz,ne_eq,not_true_eq_false,if_false,Sem.run_ite,Sem.run_pure]
  rw [← hf]
 ·refine roundIn_of_wpIn trivial ?_
  rw [g8]
  have hbase:CInv B w ι nx la.tn ι e0 h nx { tmps:=(la.params.zip (args.map (tr ι))).foldl (fun tmps q=>tmps.setIfInBounds q.1 q.2) r.tmps,defers:=[] } w :=
   ⟨B,w,ι,nx,[],Nat.le_refl _,Bel.refl _ _,fun _ _=>rfl,Nat.le_refl _,⟨[],rfl,by simp,by simp⟩,z2,H,Bel.refl _ _,fun _ _=>rfl,Nat.le_refl _,z3,rfl⟩
  refine vcode_ok hT hC hY hD hDY hm (some b) noRange_ok noRange_mono la.assign hpl.1 _ _ _ e0 h nx hl B w ι nx _ trivial ⟨?_,fun id ι e h nx a w hk _=>hk.elim,fun ι e h nx a w hk _=>hk.elim⟩ ι _ w hbase
  intro ι1 e1 h1 nx1 a1 w1 hk1 I1
  obtain⟨B1,wb,ιb,nxb,ds,i1,i2,i3,i4,i5,J⟩:=I1
  split at hk1
  case h_2=>exact hk1.elim
  rename_i l1 hl1
  split at hk1
  case h_2=>exact hk1.elim
  rename_i hst
  have hold:∀ k,k<nx→ι1 k=ι k:=fun k hk=>(J.old k (Nat.lt_of_lt_of_le hk i4)).trans (i3 k hk)
  obtain⟨r1,k1,k2,k3,k4,k5⟩:=loop_set J.heap hl1 ((hold q hq).trans hι)
  obtain⟨k6,k7⟩:=k5 .busy r1.pending
  rw [show ({ l1 with state:=.busy,pending:=r1.pending }:LoopA)={ l1 with state:=.busy } by rw [k3]] at k6
  refine⟨{ w1 with heap:=w1.heap.setIfInBounds b (.loop { r1 with state:=.busy }) },?_,?_⟩
  ·have hr:r1.state=.ready:=k2.trans hst
   simp [Instr.beginRound,run_getLoop k1,run_setLoop k1,hr]
  ·rw [g9]
   have I2:CInv B w ι nx la.tn ι1 e1 (upd h1 q (.loop { l1 with state:=.busy })) nx1 a1 { w1 with heap:=w1.heap.setIfInBounds b (.loop { r1 with state:=.busy }) } :=
    ⟨B1,wb,ιb,nxb,ds,i1,i2,i3,i4,i5,J.step J.env k6 k7 (fun _ _=>rfl) (Nat.le_refl _) J.size rfl⟩
   refine vcode_ok hT hC hY hD hDY hm (some b) noRange_ok noRange_mono la.body hpl.2 _ _ _ e1 _ nx1 hk1 B w ι nx _ trivial ⟨?_,?_,?_⟩ ι1 a1 _ I2
   ·exact fun ι e h nx a w hk I=>vfin_ok I hq hι hk
   ·exact fun id ι e h nx a w hk I=>vfin_ok I hq hι hk
   ·exact fun ι e h nx a w hk I=>vfin_ok I hq hι hk
end
end Go.Aw
end

noncomputable section
namespace Go.Aw
open Go.RowKit
theorem detE_bindS {E:KS→Prop}{F:List (Nat × Value)→Heap→Nat→KE→Prop}(hE:DetS E)(hF:∀ v h nx,DetE (F v h nx)):DetE (fun K=>E (fun v h nx=>F v h nx K)):=by
 intro K hl
 obtain⟨v,h,nx,h1,h2⟩:=hE _ hl
 obtain⟨e,h',nx',h3,h4⟩:=hF v h nx K h1
 exact⟨e,h',nx',h3,fun K' hk=>h2 _ (h4 K' hk)⟩
theorem detE_bindE {E:KE→Prop}{F:Value→Heap→Nat→KE→Prop}(hE:DetE E)(hF:∀ v h nx,DetE (F v h nx)):DetE (fun K=>E (fun v h nx=>F v h nx K)):=by
 intro K hl
 obtain⟨v,h,nx,h1,h2⟩:=hE _ hl
 obtain⟨e,h',nx',h3,h4⟩:=hF v h nx K h1
 exact⟨e,h',nx',h3,fun K' hk=>h2 _ (h4 K' hk)⟩
theorem detE_bind1 {α:Type}{E:(α→Prop)→Prop}{F:α→KE→Prop}(hE:Det E)(hF:∀ v,DetE (F v)):DetE (fun K=>E (fun v=>F v K)):=by
 intro K hl
 obtain⟨v,h1,h2⟩:=hE _ hl
 obtain⟨e,h',nx',h3,h4⟩:=hF v K h1
 exact⟨e,h',nx',h3,fun K' hk=>h2 _ (h4 K' hk)⟩
def DetK (f:KE→KS):Prop:=∀ e h nx,DetE (fun K=>f K e h nx)
variable {A:Ar}{T:Tab}{C:VC}{Y:VY}
def RDet (R:VR):Prop:=∀ g ps as bd (kn:KE→KS) (kx:Nat→KE→KS) (kr:KE→KS),DetK kn→(∀ i,DetK (kx i))→DetK kr→DetK (fun K=>R g ps as bd (kn K) (fun i=>kx i K) (kr K))
theorem det_viter {F:KE→KS→KS}(hF:∀ k:KE→KS,DetK k→DetK (fun K=>F K (k K))):∀ m,DetK (fun K=>viter (F K) m)
 |0=>fun _ _ _=>detE_false
 |m+1=>hF (fun K=>viter (F K) m) (det_viter hF m)
theorem det_vcode (hC:DetC C)(hY:DetC Y){tn:Nat}{PL:Nat→Option Plan}{n:Nat}{R:VR}(hR:RDet R):∀ (c:Code) (kn:KE→KS) (kx:Nat→KE→KS) (kr:KE→KS),DetK kn→(∀ i,DetK (kx i))→DetK kr →
  DetK (fun K=>vcode A T C Y tn PL (.fuel n) R c (kn K) (fun i=>kx i K) (kr K)):=by
 intro c
 induction c with
 |skip=>exact fun kn kx kr h1 _ _=>h1
 |region id ops draw =>
  intro kn kx kr h1 _ _ e h nx
  simp only [vcode_region,vcode_cond]
  cases draw with
  |false=>exact detE_bindS (F:=fun e h nx K=>kn K e h nx) (det_vregS hC hY) h1
  |true =>
   simp only
   cases PL id with
   |none =>
    intro K hl
    obtain⟨ea,ha,na,⟨e0,h0,n0,hi,hk⟩,hr⟩:=det_vfirst hC hY _ _ _ _ _ _ hl
    obtain⟨v,h',nx',q1,q2⟩:=h1 e0 h0 n0 K hk
    exact⟨v,h',nx',q1,fun K' hk'=>hr _ ⟨e0,h0,n0,hi,q2 K' hk'⟩⟩
   |some p=>exact detE_bindS (F:=fun e h nx K=>kn K e h nx) (det_vregion hC hY) h1
 |seq a b iha ihb=>exact fun kn kx kr h1 h2 h3=>iha (fun K=>vcode A T C Y tn PL (.fuel n) R b (kn K) (fun i=>kx i K) (kr K)) kx kr (ihb kn kx kr h1 h2 h3) h2 h3
 |cond c t f iht ihf =>
  intro kn kx kr h1 h2 h3 e h nx
  simp only [vcode_region,vcode_cond]
  intro K hl
  split at hl
  ·rename_i b hb
   exact detE_br (iht kn kx kr h1 h2 h3 e h nx) (ihf kn kx kr h1 h2 h3 e h nx) K hl
  ·exact hl.elim
 |block id b ih =>
  intro kn kx kr h1 h2 h3
  have:=ih kn (fun j=>match Nat.beq j id with|true=>kn|false=>kx j) kr h1 (fun j=>by
   cases hb:Nat.beq j id with
   |true=>simp only;exact h1
   |false=>simp only;exact h2 j) h3
  intro e h nx
  have h5:=this e h nx
  have heq:(fun K=>vcode A T C Y tn PL (.fuel n) R (.block id b) (kn K) (fun i=>kx i K) (kr K) e h nx)=(fun K=>vcode A T C Y tn PL (.fuel n) R b (kn K) (fun i=>(match Nat.beq i id with|true=>kn|false=>kx i) K) (kr K) e h nx):=by
   funext K
   simp only [vcode_block]
   congr 1
   funext j
   cases Nat.beq j id <;> rfl
  show DetE (fun K=>vcode A T C Y tn PL (.fuel n) R (.block id b) (kn K) (fun i=>kx i K) (kr K) e h nx)
  rw [heq]
  exact h5
 |loop b ih =>
  intro kn kx kr h1 h2 h3 e h nx
  simp only [vcode_loop,vloop]
  exact det_viter (F:=fun K k=>vcode A T C Y tn PL (.fuel n) R b k (fun i=>kx i K) (kr K)) (fun k hk=>ih k kx kr hk h2 h3) n e h nx
 |rangeFunc g ps as bd _ _=>exact fun kn kx kr h1 h2 h3=>hR g ps as bd kn kx kr h1 h2 h3
 |exit id=>exact fun kn kx kr _ h2 _=>h2 id
 |ret=>exact fun kn kx kr _ _ h3=>h3
 |label l=>exact fun kn kx kr h1 _ _=>h1
 |scope b ih=>exact fun kn kx kr h1 h2 h3=>ih kn kx kr h1 h2 h3
 |goto l=>exact fun _ _ _ _ _ _ _ _ _=>detE_false
 |refuse s=>exact fun _ _ _ _ _ _ _ _ _=>detE_false
theorem det_vrange (hC:DetC C){f tn:Nat}:RDet (vrange C f tn):=by
 intro g ps as bd kn kx kr h1 h2 h3 e h nx
 simp only [vrange]
 refine detE_on fun gv=>?_
 intro K hl
 split at hl
 case h_2=>exact hl.elim
 split at hl
 case h_2=>exact hl.elim
 rename_i q first cap _ _ hfirst hcap
 refine detE_bindE (E:=C q _ _ _) (F:=fun v h' nx' K=>(match look h' (nx+1),look h' nx with
  |some (.loop l),some .deferred=>(match l.state,l.pending with
   |.busy,_=>False
   |_,none=>kn K e (afterLoop h' nx) nx'
   |_,some (.exit id)=>kx id K e (afterLoop h' nx) nx'
   |_,some .ret=>kr K e (afterLoop h' nx) nx'
   |_,_=>False)
  |_,_=>False)) (hC _ _ _ _) (fun v h' nx'=>?_) K hl
 intro K hl
 split at hl
 case h_2=>exact hl.elim
 split at hl
 ·exact hl.elim
 ·exact h1 _ _ _ K hl
 ·exact h2 _ _ _ _ K hl
 ·exact h3 _ _ _ K hl
 ·exact hl.elim
theorem vrange_mono (hC:DetC C){f tn:Nat}:RMono (vrange C f tn):=by
 intro g ps as bd kn kn' kx kx' kr kr' e h nx h1 h2 h3 hl
 unfold vrange at hl ⊢
 obtain⟨gv,hgv,hl⟩:=on_ok hl
 rw [hgv]
 simp only [on]
 split at hl
 case h_2=>exact hl.elim
 split at hl
 case h_2=>exact hl.elim
 obtain⟨v,h',nx',k1,k2⟩:=hC _ _ _ _ _ hl
 refine k2 _ ?_
 split at k1
 case h_2=>exact k1.elim
 split at k1
 ·exact k1.elim
 ·exact h1 _ _ _ k1
 ·exact h2 _ _ _ _ k1
 ·exact h3 _ _ _ k1
 ·exact k1.elim
end Go.Aw
end
