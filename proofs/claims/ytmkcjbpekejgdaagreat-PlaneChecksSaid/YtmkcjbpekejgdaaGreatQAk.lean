/-
  Parts of a proof. No condition.
-/
import Derived.Test.YtmkcjbpekejgdaaGreatQAj
set_option linter.unusedSimpArgs false
set_option linter.unusedVariables false
noncomputable section
namespace Go.Aw
open Go.RowKit
section
variable {P:Program}{T:Tab}{C:VC}{Y:VY}
theorem run_getLoop {w:World}{l:Nat}{r:Loop}(h:w.heap[l]? = some (.loop r)):(Instr.getLoop l).run P w=.ok r w:=by
 simp [Instr.getLoop,getObj,Sem.run,h]
theorem run_setLoop {w:World}{l:Nat}{r:Loop}(h:w.heap[l]? = some (.loop r))(o:Obj):(setObj l o).run P w=.ok () { w with heap:=w.heap.setIfInBounds l o }:=by
 simp [setObj,Sem.run,h]
theorem vrange_ok (hC:CallsOK P C){f tn:Nat}:RangeOK P none tn (vrange C f tn):=by
 intro g ps as bd kn kx kr e h nx hl B0 w0 ι0 nx0 Q E ι a w I
 obtain⟨B,w1,ι1,nx1,ds,h1,h2,h3,h4,⟨bs,hds,hnd,hbs⟩,J⟩:=I
 unfold vrange at hl
 obtain⟨gv,hgv,hl⟩:=on_ok hl
 obtain⟨e1,e2⟩:=J.env.opv hgv
 split at hl
 case h_2=>exact hl.elim
 rename_i q first cap
 split at hl
 case h_2=>exact hl.elim
 rename_i hfirst hcap
 obtain⟨first⟩:=first
 simp only at hfirst
 subst hfirst
 refine wpIn_rangeFunc fun fnid _=>?_
 -- the records
 have H:=J.heap
 have hA:=H.new (.deferred (some [])) .deferred ⟨H.size,(MapKept.heap_alloc w _).1⟩ trivial
 generalize hι2:ins ι nx (.lay w.heap.size 0 0)=ι2 at hA
 generalize hwA:w.alloc (.deferred (some []))=wA at hA
 have hbA:Bel w.heap.size w wA:=by rw [← hwA];exact below_alloc w _
 have hi2:∀ k,k<nx→ι2 k=ι k:=fun k hk=>by rw [← hι2];exact ins_lt _ _ hk
 have hmark:ι2 nx=.lay w.heap.size 0 0:=by rw [← hι2];exact ins_same _ _ _
 let rec_:Loop:={ state:=.ready,pending:=none,fn:=fnid,tmps:=a.tmps,params:=ps,assign:=as,body:=bd,defers:=w.heap.size }
 let la:LoopA:={ state:=.ready,pending:=none,fn:=f,env:=e,tn:=tn,params:=ps.toList,assign:=as,body:=bd,defers:=nx }
 have hi3':∀ k,k<nx→ins ι2 (nx+1) (.lay wA.heap.size 0 0) k=ι k:=fun k hk=>by rw [ins_lt _ _ (by omega)];exact hi2 k hk
 have hB:=hA.new (.loop rec_) (.loop la) (by
  refine⟨hA.size,rec_,(MapKept.heap_alloc wA _).1,rfl,rfl,trivial,J.size,fun t v hv=>?_,rfl,rfl,rfl,?_⟩
  ·obtain⟨k1,k2⟩:=J.env t v hv
   rw [tr_eq hi3' k2]
   exact k1
  ·show (ins ι2 (nx+1) (.lay wA.heap.size 0 0) nx).blk=some w.heap.size
   rw [ins_lt _ _ (by omega),hmark]
   rfl) ⟨fun t v hv=>scT_mono (by omega) hi3' (J.env t v hv).2,by show nx<nx+1+1;omega⟩
 generalize hι3:ins ι2 (nx+1) (.lay wA.heap.size 0 0)=ι3 at hB hi3'
 generalize hwB:wA.alloc (.loop rec_)=wB at hB
 have hbB:Bel wA.heap.size wA wB:=by rw [← hwB];exact below_alloc wA _
 have hl3:ι3 (nx+1)=.lay wA.heap.size 0 0:=by rw [← hι3];exact ins_same _ _ _
 have hm3:ι3 nx=.lay w.heap.size 0 0:=by rw [← hι3,ins_lt _ _ (by omega)];exact hmark
 have hwA1:w.heap.size<wA.heap.size:=by rw [← hwA];exact (Array.getElem?_eq_some_iff.1 (MapKept.heap_alloc w _).1).1
 -- the call
 obtain⟨⟨fn,hfn,hbody,hname⟩,hcalls⟩:=hC q _ _ _ _ hl ι3 B wB hB (by
  intro v hv
  rcases List.mem_cons.1 hv with rfl|hv
  ·simp [scT,scA,scS,scFn,hl3,Loc.isAt]
  ·obtain⟨p,rfl⟩:=capPtr_spec hcap v hv
   exact scT_mono (by omega) hi3' (show scT ι nx (.pointer (some p)) from e2.2 _ hv))
 have hcapm:cap.map (trP ι)=(cap.toList.map (tr ι3)).toArray:=by
  apply Array.ext'
  simp only [Array.toList_map]
  apply List.map_congr_left
  intro v hv
  obtain⟨p,rfl⟩:=capPtr_spec hcap v hv
  exact (tr_eq hi3' (show scT ι nx (.pointer (some p)) from e2.2 _ hv)).symm
 have hy:tr ι3 (.func (.yield (nx+1)) #[] #[])=.func (.yield wA.heap.size) #[] #[]:=by simp [tr,trA,trS,trFn,hl3]
 obtain⟨bdy,hb'⟩:=Option.isSome_iff_exists.1 hbody
 have hname' : fn.name ≠ "runtime.NumGoroutine" := by simpa using hname
 refine⟨wA.heap.size,[markOf w.heap.size],wB,{ target:=.fn (.func q) (cap.map (trP ι)),args:=#[.func (.yield wA.heap.size) #[] #[]] },wB,q,((Value.func (.yield (nx+1)) #[] #[]::cap.toList).map (tr ι3)).toArray,wB,?_,?_,fun _ _=>trivial,?_,fun hdep=>absurd hdep (by simp [Fr,Fence.wide]),?_⟩
 ·have hr:(Fr none).round=none:=rfl
  rw [hr]
  subst hwB
  subst hwA
  simp [Instr.enterLoop,markOf,rec_]
 ·have he1:a.eval g=.func (.func q) #[] (cap.map (trP ι)):=e1
  have hc:∀ v,a.eval (.const v)=v:=fun _=>rfl
  simp [resolve,rangeCall,he1,hc,Deferred.ofValue]
 ·simp [invoke,callFunc,hfn,hname',hb',hcapm,hy]
 ·refine CallsIn.mono (F:=Fence.wide) hcalls fun en w3 hret=>?_
  cases en with
  |panicked c=>exact hret.elim
  |outgrown=>exact hret.elim
  |returned u =>
   obtain⟨v,h',nx',ι',k1,k2,k3,k4,k5,k6,rfl⟩:=hret
   split at k1
   case h_2=>exact k1.elim
   rename_i l' hl1 hl2
   have hι'l:ι' (nx+1)=.lay wA.heap.size 0 0:=(k5 _ (by omega)).trans hl3
   have hι'm:ι' nx=.lay w.heap.size 0 0:=(k5 _ (by omega)).trans hm3
   have ho:=k3.obj _ _ hl1
   rw [hι'l] at ho
   obtain⟨o1,r',o2,o3,o4,_⟩:=ho
   have hd:=k3.obj _ _ hl2
   rw [hι'm] at hd
   have hnb:l'.state≠.busy:=by
    intro hs
    simp [hs] at k1
   have hend:(Instr.endLoop wA.heap.size).run P w3=.ok l'.pending { w3 with heap:=w3.heap.setIfInBounds wA.heap.size (.loop { r' with state:=.exhausted }) }:=by
    have hne:r'.state≠.busy:=by rw [o3];exact hnb
    have hbeq:(r'.state == .busy)=false:=by simpa using hne
    simp [Instr.endLoop,run_getLoop o2,run_setLoop o2,hbeq,o4]
    exact fun h=>absurd h hne
   -- past it
   generalize hw4:({ w3 with heap:=w3.heap.setIfInBounds wA.heap.size (.loop { r' with state:=.exhausted }) }:World)=w4 at hend
   have hoth:∀ c,c≠wA.heap.size→w4.heap[c]? = w3.heap[c]? := fun c hc=>by rw [← hw4];simp [Array.getElem?_setIfInBounds_ne (fun e=>hc e.symm)]
   have hsz4:w4.heap.size=w3.heap.size:=by rw [← hw4];simp
   have hb4:Bel B w3 w4:=⟨by rw [← hw4],by rw [← hw4],by rw [← hw4],by omega,fun c hc=>hoth c (by omega),by rw [← hw4];exact Nat.le_refl _⟩
   have hR:RelH ι' B (rem (rem h' (nx+1)) nx) nx' w4:=by
    refine ((k3.rem (nx+1)).rem nx).keep (fun k o b hk hkb=>hoth b fun e=>?_) (by omega)
    rw [look_rem] at hk
    split at hk
    ·cases hk
    ·rw [look_rem] at hk
     split at hk
     ·cases hk
     ·rename_i hne
      exact k3.sep (nx+1) k _ o hl1 hk (fun e=>hne e.symm) rfl wA.heap.size (by rw [hι'l];rfl) (by rw [hkb,e])
   have hBw:Bel B w w4:=((hbA.mono H.size).trans (hbB.mono hA.size)).trans (k4.trans hb4)
   have hi':∀ k,k<nx→ι' k=ι k:=fun k hk=>(k5 k (by omega)).trans (hi3' k hk)
   have I':CInv B0 w0 ι0 nx0 tn ι' e (afterLoop h' nx) nx' { a with defers:=[markOf w.heap.size]++a.defers } w4:=by
    refine⟨w4.heap.size,w4,ι',nx',markOf w.heap.size::ds,?_,?_,fun k hk=>?_,?_,⟨w.heap.size::bs,by rw [hds];rfl,?_,fun b hb=>?_⟩,J.env.names (by omega) hi',hR.shut,Bel.refl _ _,fun _ _=>rfl,Nat.le_refl _,J.size,by rw [← J.defers];rfl⟩
    ·exact Nat.le_trans h1 hR.size
    ·exact h2.trans ((J.below.mono h1).trans (hBw.mono h1))
    ·have q1:k<nx1:=Nat.lt_of_lt_of_le hk h4
     exact (hi' k (Nat.lt_of_lt_of_le q1 J.le)).trans ((J.old k q1).trans (h3 k hk))
    ·have:=J.le;omega
    ·rw [List.nodup_cons]
     refine⟨fun hm=>?_,hnd⟩
     have:=(hbs _ hm).2.1
     have:=H.size
     omega
    ·rcases List.mem_cons.1 hb with rfl|hb
     ·have:=H.size
      have hsz:=hBw.size
      have hk:=k4.size
      have hk2:=hbB.size
      refine⟨by omega,by omega,?_⟩
      rw [hoth _ (by omega)]
      exact hd.2
     ·obtain⟨q1,q2,q3⟩:=hbs b hb
      have:=hR.size
      refine⟨q1,by omega,?_⟩
      rw [hBw.block b q2,J.below.block b q2]
      exact q3
   refine⟨_,w4,hend,?_⟩
   split at k1
   ·exact k1.elim
   ·rename_i hp _;rw [hp];exact E.n _ _ _ _ _ _ k1 I'
   ·rename_i hp _;rw [hp];exact wpIn_exit (E.x _ _ _ _ _ _ _ k1 I')
   ·rename_i hp _;rw [hp];exact wpIn_ret (E.r _ _ _ _ _ _ k1 I')
   ·exact k1.elim
end
end Go.Aw
end

noncomputable section
namespace Go.Aw
open Go.RowKit
section
variable {P:Program}{T:Tab}{C:VC}{Y:VY}
theorem loop_set {ι:Nat→Loc}{B nx:Nat}{h:Heap}{w:World}(H:RelH ι B h nx w){l:Nat}{la:LoopA}(hl:look h l=some (.loop la)){b o e:Nat}(hι:ι l=.lay b o e) :
  ∃ r:Loop,w.heap[b]? = some (.loop r)∧r.state=la.state∧r.pending=la.pending∧B≤b∧∀ st pd,RelH ι B (upd h l (.loop { la with state:=st,pending:=pd })) nx { w with heap:=w.heap.setIfInBounds b (.loop { r with state:=st,pending:=pd }) } ∧
    Bel B w { w with heap:=w.heap.setIfInBounds b (.loop { r with state:=st,pending:=pd }) }:=by
 have ho:=H.obj l _ hl
 rw [hι] at ho
 obtain⟨h0,r,h1,h2,h3,h4,h5,h6,h7,h8,h9,h10⟩:=ho
 have hlt:=(Array.getElem?_eq_some_iff.1 h1).1
 refine⟨r,h1,h2,h3,h0,fun st pd=>⟨?_,⟨rfl,rfl,rfl,by simp,fun c hc=>by simp [Array.getElem?_setIfInBounds_ne (show b≠c by omega)],Nat.le_refl _⟩⟩⟩
 refine H.set hl rfl ?_ (show OSc ι nx (.loop { la with state:=st,pending:=pd }) from ⟨(H.sc l _ hl).1,(H.sc l _ hl).2⟩) rfl (fun c hc=>?_) (by simp)
 ·rw [hι]
  exact⟨h0,{ r with state:=st,pending:=pd },by simp [Array.getElem?_setIfInBounds_self_of_lt hlt],rfl,rfl,trivial,h5,h6,h7,h8,h9,h10⟩
 ·have:b≠c:=fun e=>hc (by rw [hι,e];rfl)
  simp [Array.getElem?_setIfInBounds_ne this]
theorem zipPut_ok {ι:Nat→Loc}{n tn:Nat}:∀ (ps:List Nat) (args:List Value) (e e0:List (Nat × Value)) (tm:Array Value) (ds:List Deferred),zipPut tn e ps args=some e0→EnvOK ι n e { tmps:=tm,defers:=ds }→tm.size=tn→(∀ v∈args,scT ι n v) →
  ps.length=args.length∧EnvOK ι n e0 { tmps:=(ps.zip (args.map (tr ι))).foldl (fun tmps q=>tmps.setIfInBounds q.1 q.2) tm,defers:=ds }∧((ps.zip (args.map (tr ι))).foldl (fun tmps q=>tmps.setIfInBounds q.1 q.2) tm).size=tn
 |[],[],e,e0,tm,ds,h,he,hs,_=>by simp [zipPut] at h;subst h;exact⟨rfl,he,hs⟩
 |[],_::_,_,_,_,_,h,_,_,_=>by simp [zipPut] at h
 |_::_,[],_,_,_,_,h,_,_,_=>by simp [zipPut] at h
 |t::ts,v::vs,e,e0,tm,ds,h,he,hs,ha=>by
  simp only [zipPut] at h
  split at h
  ·rename_i ht
   have ht:=blt_true ht
   have:=he.upd (d:=t) (v:=v) (by show t<tm.size;omega) (ha v (by simp))
   obtain⟨h1,h2,h3⟩:=zipPut_ok ts vs (put e t v) e0 (tm.setIfInBounds t (tr ι v)) ds h this (by simp [hs]) (fun u hu=>ha u (by simp [hu]))
   exact⟨by simp [h1],h2,h3⟩
  ·cases h
theorem vfin_ok {ι0 ι:Nat→Loc}{B0 nx0 nx tn:Nat}{w0:World}{e:List (Nat × Value)}{h:Heap}{a:Act}{w:World}(I:CInv B0 w0 ι0 nx0 tn ι e h nx a w){q:Nat}{K:KE}{j:Option Code}{b o ex:Nat}(hq:q<nx0)(hι:ι0 q=.lay b o ex)(hl:vfin q K j e h nx) :
  ∃ v w',(Instr.endRound b j).run P w=.ok v w'∧Ret B0 w0 ι0 nx0 K (.returned v) w':=by
 obtain⟨B,w1,ι1,nx1,ds,h1,h2,h3,h4,h5,J⟩:=I
 unfold vfin at hl
 split at hl
 case h_2=>exact hl.elim
 rename_i la hk
 have hold:∀ k,k<nx0→ι k=ι0 k:=fun k hk=>(J.old k (Nat.lt_of_lt_of_le hk h4)).trans (h3 k hk)
 obtain⟨r,k1,k2,k3,k4,k5⟩:=loop_set J.heap hk ((hold q hq).trans hι)
 obtain⟨k6,k7⟩:=k5 (if j.isNone then .ready else .done) j
 refine⟨.bool j.isNone,_,?_,.bool j.isNone,_,nx,ι,hl,by simp [scT,scA,scS,scP],k6.down h1,?_,hold,Nat.le_trans h4 J.le,rfl⟩
 ·simp only [Instr.endRound,Sem.run_bind,run_getLoop k1,Result.andThen_ok,run_setLoop k1,Sem.run_pure]
 ·exact h2.trans ((J.below.trans k7).mono h1)
theorem noRange_ok {r:Option Nat}{tn:Nat}:RangeOK P r tn noRange:=fun g ps as bd kn kx kr e h nx hl=>hl.elim
theorem noRange_mono:RMono noRange:=fun g ps as bd kn kn' kx kx' kr kr' e h nx _ _ _ hl=>hl.elim
theorem vround_ok (hT:TabOK P T)(hC:CallsOK P C)(hY:YieldsOK P Y)(hD:DetC C)(hDY:DetC Y)(hm:P.follows .mixedOrders=true){PL:Nat→Nat→Option Plan}{M:Nat}:YieldsOK P (vround std T C Y PL (.fuel M)):=by
 intro q args h nx K hl ι B w H hs b o ex hι
 unfold vround at hl
 split at hl
 case h_2=>exact hl.elim
 rename_i la hk
 split at hl
 case h_2=>exact hl.elim
 rename_i e0 hz hpl
 simp only [Bool.and_eq_true] at hpl
 have hq:q<nx:=H.low q _ hk
 have ho:=H.obj q _ hk
 rw [hι] at ho
 obtain⟨g0,r,g1,g2,g3,g4,g5,g6,g7,g8,g9,g10⟩:=ho
 have henv:EnvOK ι nx la.env { tmps:=r.tmps,defers:=[] }:=fun t v hv=>⟨g6 t v hv,(H.sc q _ hk).1 t v hv⟩
 obtain⟨z1,z2,z3⟩:=zipPut_ok la.params args la.env e0 r.tmps [] hz henv g5 hs
 have hsz:(args.map (tr ι)).toArray.size=r.params.size:=by
  rw [← Array.length_toList (xs:=r.params),g7]
  simp [z1]
 refine⟨r.fn,(la.params.zip (args.map (tr ι))).foldl (fun tmps q=>tmps.setIfInBounds q.1 q.2) r.tmps,r.assign,r.body,?_,?_⟩
 ·have hf:(r.params.zip (args.map (tr ι)).toArray).foldl (fun tmps x=>match x with|(t,a)=>tmps.setIfInBounds t a) r.tmps=(la.params.zip (args.map (tr ι))).foldl (fun tmps q=>tmps.setIfInBounds q.1 q.2) r.tmps:=by
   rw [← Array.foldl_toList,← g7]
   simp
  simp only [Instr.yield,Sem.run_bind,run_getLoop g1,Result.andThen_ok,hsz,ne_eq,not_true_eq_false,if_false,Sem.run_ite,Sem.run_pure]
  rw [← hf]
 ·refine roundIn_of_wpIn trivial ?_
  rw [g8]
  have hbase:CInv B w ι nx la.tn ι e0 h nx { tmps:=(la.params.zip (args.map (tr ι))).foldl (fun tmps q=>tmps.setIfInBounds q.1 q.2) r.tmps,defers:=[] } w :=
   ⟨B,w,ι,nx,[],Nat.le_refl _,Bel.refl _ _,fun _ _=>rfl,Nat.le_refl _,⟨[],rfl,by simp,by simp⟩,z2,H,Bel.refl _ _,fun _ _=>rfl,Nat.le_refl _,z3,rfl⟩
  refine vcode_ok hT hC hY hD hDY hm (some b) noRange_ok noRange_mono la.assign hpl.1 _ _ _ e0 h nx hl B w ι nx _ trivial ⟨?_,fun id ι e h nx a w hk _=>hk.elim,fun ι e h nx a w hk _=>hk.elim⟩ ι _ w hbase
  intro ι1 e1 h1 nx1 a1 w1 hk1 I1
  obtain⟨B1,wb,ιb,nxb,ds,i1,i2,i3,i4,i5,J⟩:=I1
  split at hk1
  case h_2=>exact hk1.elim
  rename_i l1 hl1
  split at hk1
  case h_2=>exact hk1.elim
  rename_i hst
  have hold:∀ k,k<nx→ι1 k=ι k:=fun k hk=>(J.old k (Nat.lt_of_lt_of_le hk i4)).trans (i3 k hk)
  obtain⟨r1,k1,k2,k3,k4,k5⟩:=loop_set J.heap hl1 ((hold q hq).trans hι)
  obtain⟨k6,k7⟩:=k5 .busy r1.pending
  rw [show ({ l1 with state:=.busy,pending:=r1.pending }:LoopA)={ l1 with state:=.busy } by rw [k3]] at k6
  refine⟨{ w1 with heap:=w1.heap.setIfInBounds b (.loop { r1 with state:=.busy }) },?_,?_⟩
  ·have hr:r1.state=.ready:=k2.trans hst
   simp [Instr.beginRound,run_getLoop k1,run_setLoop k1,hr]
  ·rw [g9]
   have I2:CInv B w ι nx la.tn ι1 e1 (upd h1 q (.loop { l1 with state:=.busy })) nx1 a1 { w1 with heap:=w1.heap.setIfInBounds b (.loop { r1 with state:=.busy }) } :=
    ⟨B1,wb,ιb,nxb,ds,i1,i2,i3,i4,i5,J.step J.env k6 k7 (fun _ _=>rfl) (Nat.le_refl _) J.size rfl⟩
   refine vcode_ok hT hC hY hD hDY hm (some b) noRange_ok noRange_mono la.body hpl.2 _ _ _ e1 _ nx1 hk1 B w ι nx _ trivial ⟨?_,?_,?_⟩ ι1 a1 _ I2
   ·exact fun ι e h nx a w hk I=>vfin_ok I hq hι hk
   ·exact fun id ι e h nx a w hk I=>vfin_ok I hq hι hk
   ·exact fun ι e h nx a w hk I=>vfin_ok I hq hι hk
end
end Go.Aw
end

noncomputable section
namespace Go.Aw
open Go.RowKit
theorem detE_bindS {E:KS→Prop}{F:List (Nat × Value)→Heap→Nat→KE→Prop}(hE:DetS E)(hF:∀ v h nx,DetE (F v h nx)):DetE (fun K=>E (fun v h nx=>F v h nx K)):=by
 intro K hl
 obtain⟨v,h,nx,h1,h2⟩:=hE _ hl
 obtain⟨e,h',nx',h3,h4⟩:=hF v h nx K h1
 exact⟨e,h',nx',h3,fun K' hk=>h2 _ (h4 K' hk)⟩
theorem detE_bindE {E:KE→Prop}{F:Value→Heap→Nat→KE→Prop}(hE:DetE E)(hF:∀ v h nx,DetE (F v h nx)):DetE (fun K=>E (fun v h nx=>F v h nx K)):=by
 intro K hl
 obtain⟨v,h,nx,h1,h2⟩:=hE _ hl
 obtain⟨e,h',nx',h3,h4⟩:=hF v h nx K h1
 exact⟨e,h',nx',h3,fun K' hk=>h2 _ (h4 K' hk)⟩
theorem detE_bind1 {α:Type}{E:(α→Prop)→Prop}{F:α→KE→Prop}(hE:Det E)(hF:∀ v,DetE (F v)):DetE (fun K=>E (fun v=>F v K)):=by
 intro K hl
 obtain⟨v,h1,h2⟩:=hE _ hl
 obtain⟨e,h',nx',h3,h4⟩:=hF v K h1
 exact⟨e,h',nx',h3,fun K' hk=>h2 _ (h4 K' hk)⟩
def DetK (f:KE→KS):Prop:=∀ e h nx,DetE (fun K=>f K e h nx)
variable {A:Ar}{T:Tab}{C:VC}{Y:VY}
def RDet (R:VR):Prop:=∀ g ps as bd (kn:KE→KS) (kx:Nat→KE→KS) (kr:KE→KS),DetK kn→(∀ i,DetK (kx i))→DetK kr→DetK (fun K=>R g ps as bd (kn K) (fun i=>kx i K) (kr K))
theorem det_viter {F:KE→KS→KS}(hF:∀ k:KE→KS,DetK k→DetK (fun K=>F K (k K))):∀ m,DetK (fun K=>viter (F K) m)
 |0=>fun _ _ _=>detE_false
 |m+1=>hF (fun K=>viter (F K) m) (det_viter hF m)
theorem det_vcode (hC:DetC C)(hY:DetC Y){tn:Nat}{PL:Nat→Option Plan}{n:Nat}{R:VR}(hR:RDet R):∀ (c:Code) (kn:KE→KS) (kx:Nat→KE→KS) (kr:KE→KS),DetK kn→(∀ i,DetK (kx i))→DetK kr →
  DetK (fun K=>vcode A T C Y tn PL (.fuel n) R c (kn K) (fun i=>kx i K) (kr K)):=by
 intro c
 induction c with
 |skip=>exact fun kn kx kr h1 _ _=>h1
 |region id ops draw =>
  intro kn kx kr h1 _ _ e h nx
  simp only [vcode_region,vcode_cond]
  cases draw with
  |false=>exact detE_bindS (F:=fun e h nx K=>kn K e h nx) (det_vregS hC hY) h1
  |true =>
   simp only
   cases PL id with
   |none =>
    intro K hl
    obtain⟨ea,ha,na,⟨e0,h0,n0,hi,hk⟩,hr⟩:=det_vfirst hC hY _ _ _ _ _ _ hl
    obtain⟨v,h',nx',q1,q2⟩:=h1 e0 h0 n0 K hk
    exact⟨v,h',nx',q1,fun K' hk'=>hr _ ⟨e0,h0,n0,hi,q2 K' hk'⟩⟩
   |some p=>exact detE_bindS (F:=fun e h nx K=>kn K e h nx) (det_vregion hC hY) h1
 |seq a b iha ihb=>exact fun kn kx kr h1 h2 h3=>iha (fun K=>vcode A T C Y tn PL (.fuel n) R b (kn K) (fun i=>kx i K) (kr K)) kx kr (ihb kn kx kr h1 h2 h3) h2 h3
 |cond c t f iht ihf =>
  intro kn kx kr h1 h2 h3 e h nx
  simp only [vcode_region,vcode_cond]
  intro K hl
  split at hl
  ·rename_i b hb
   exact detE_br (iht kn kx kr h1 h2 h3 e h nx) (ihf kn kx kr h1 h2 h3 e h nx) K hl
  ·exact hl.elim
 |block id b ih =>
  intro kn kx kr h1 h2 h3
  have:=ih kn (fun j=>match Nat.beq j id with|true=>kn|false=>kx j) kr h1 (fun j=>by
   cases hb:Nat.beq j id with
   |true=>simp only;exact h1
   |false=>simp only;exact h2 j) h3
  intro e h nx
  have h5:=this e h nx
  have heq:(fun K=>vcode A T C Y tn PL (.fuel n) R (.block id b) (kn K) (fun i=>kx i K) (kr K) e h nx)=(fun K=>vcode A T C Y tn PL (.fuel n) R b (kn K) (fun i=>(match Nat.beq i id with|true=>kn|false=>kx i) K) (kr K) e h nx):=by
   funext K
   simp only [vcode_block]
   congr 1
   funext j
   cases Nat.beq j id <;> rfl
  show DetE (fun K=>vcode A T C Y tn PL (.fuel n) R (.block id b) (kn K) (fun i=>kx i K) (kr K) e h nx)
  rw [heq]
  exact h5
 |loop b ih =>
  intro kn kx kr h1 h2 h3 e h nx
  simp only [vcode_loop,vloop]
  exact det_viter (F:=fun K k=>vcode A T C Y tn PL (.fuel n) R b k (fun i=>kx i K) (kr K)) (fun k hk=>ih k kx kr hk h2 h3) n e h nx
 |rangeFunc g ps as bd _ _=>exact fun kn kx kr h1 h2 h3=>hR g ps as bd kn kx kr h1 h2 h3
 |exit id=>exact fun kn kx kr _ h2 _=>h2 id
 |ret=>exact fun kn kx kr _ _ h3=>h3
 |label l=>exact fun kn kx kr h1 _ _=>h1
 |scope b ih=>exact fun kn kx kr h1 h2 h3=>ih kn kx kr h1 h2 h3
 |goto l=>exact fun _ _ _ _ _ _ _ _ _=>detE_false
 |refuse s=>exact fun _ _ _ _ _ _ _ _ _=>detE_false
theorem det_vrange (hC:DetC C){f tn:Nat}:RDet (vrange C f tn):=by
 intro g ps as bd kn kx kr h1 h2 h3 e h nx
 simp only [vrange]
 refine detE_on fun gv=>?_
 intro K hl
 split at hl
 case h_2=>exact hl.elim
 split at hl
 case h_2=>exact hl.elim
 rename_i q first cap _ _ hfirst hcap
 refine detE_bindE (E:=C q _ _ _) (F:=fun v h' nx' K=>(match look h' (nx+1),look h' nx with
  |some (.loop l),some .deferred=>(match l.state,l.pending with
   |.busy,_=>False
   |_,none=>kn K e (afterLoop h' nx) nx'
   |_,some (.exit id)=>kx id K e (afterLoop h' nx) nx'
   |_,some .ret=>kr K e (afterLoop h' nx) nx'
   |_,_=>False)
  |_,_=>False)) (hC _ _ _ _) (fun v h' nx'=>?_) K hl
 intro K hl
 split at hl
 case h_2=>exact hl.elim
 split at hl
 ·exact hl.elim
 ·exact h1 _ _ _ K hl
 ·exact h2 _ _ _ _ K hl
 ·exact h3 _ _ _ K hl
 ·exact hl.elim
theorem vrange_mono (hC:DetC C){f tn:Nat}:RMono (vrange C f tn):=by
 intro g ps as bd kn kn' kx kx' kr kr' e h nx h1 h2 h3 hl
 unfold vrange at hl ⊢
 obtain⟨gv,hgv,hl⟩:=on_ok hl
 rw [hgv]
 simp only [on]
 split at hl
 case h_2=>exact hl.elim
 split at hl
 case h_2=>exact hl.elim
 obtain⟨v,h',nx',k1,k2⟩:=hC _ _ _ _ _ hl
 refine k2 _ ?_
 split at k1
 case h_2=>exact k1.elim
 split at k1
 ·exact k1.elim
 ·exact h1 _ _ _ k1
 ·exact h2 _ _ _ _ k1
 ·exact h3 _ _ _ k1
 ·exact k1.elim
end Go.Aw
end

noncomputable section
namespace Go.Aw
open Go.RowKit
section
variable {A:Ar}{T:Tab}{C:VC}{Y:VY}
theorem det_vresults {e:List (Nat × Value)}{h:Heap}:∀ (l:List ResultVar),Det (vresults T e h l)
 |[]=>det_pure
 |.tmp t::r=>by
  show Det (fun K=>vresults T e h (.tmp t::r) K)
  simp only [vresults_tmp,vresults_cell]
  exact det_on (F:=fun v K=>vresults T e h r fun l=>K (v::l)) fun v=>det_bind (F:=fun l K=>K (v::l)) (det_vresults r) fun l=>det_pure
 |.cell a t::r=>by
  show Det (fun K=>vresults T e h (.cell a t::r) K)
  simp only [vresults_tmp,vresults_cell]
  exact det_on (F:=fun p K=>vload T h t p fun v=>vresults T e h r fun l=>K (v::l)) fun p=>det_bind (F:=fun v K=>vresults T e h r fun l=>K (v::l)) det_vload fun v =>
   det_bind (F:=fun l K=>K (v::l)) (det_vresults r) fun l=>det_pure
theorem det_vend {fn:Func}{g:Value→Heap→Nat→Value × Heap × Nat}:DetK (fun K=>vend T fn (fun v h nx=>K (g v h nx).1 (g v h nx).2.1 (g v h nx).2.2)):=by
 intro e h nx
 unfold vend
 refine detE_bind1 (F:=fun l K=>match l with
  |[v]=>K (g v h nx).1 (g v h nx).2.1 (g v h nx).2.2
  |l=>match noTup l with|true=>K (g (.tuple l.toArray) h nx).1 (g (.tuple l.toArray) h nx).2.1 (g (.tuple l.toArray) h nx).2.2|false=>False) (det_vresults _) fun l=>?_
 intro K hl
 split at hl
 ·exact detE_pure K hl
 ·split at hl
  ·exact detE_pure K hl
  ·exact hl.elim
theorem det_vfin {q:Nat}{j:Option Code}:DetK (fun K=>vfin q K j):=by
 intro e h nx
 simp only [vfin]
 cases look h q with
 |none=>exact detE_false
 |some o=>cases o <;> first|exact detE_pure|exact detE_false
theorem noRange_det:RDet noRange:=fun _ _ _ _ _ _ _ _ _ _ _ _ _=>detE_false
theorem det_vround (hC:DetC C)(hY:DetC Y){PL:Nat→Nat→Option Plan}{n:Nat}:DetC (vround A T C Y PL (.fuel n)):=by
 intro q args h nx
 show DetE (fun K=>vround A T C Y PL (.fuel n) q args h nx K)
 unfold vround
 intro K hl
 split at hl
 case h_2=>exact hl.elim
 rename_i la hk
 split at hl
 case h_2=>exact hl.elim
 rename_i e0 hz hpl
 refine det_vcode hC hY noRange_det la.assign (fun K e1 h1 nx1 =>
  match look h1 q with
  |some (.loop l1)=>(match l1.state with
   |.ready=>vcode A T C Y la.tn (PL la.fn) (.fuel n) noRange la.body (vfin q K none) (fun id=>vfin q K (some (.exit id))) (vfin q K (some .ret)) e1 (upd h1 q (.loop { l1 with state:=.busy })) nx1
   |_=>False)
  |_=>False) (fun _ _ _ _ _=>False) (fun _ _ _ _=>False) ?_ (fun _ _ _ _=>detE_false) (fun _ _ _=>detE_false) e0 h nx K hl
 intro e1 h1 nx1 K hl
 dsimp only at hl ⊢
 split at hl
 case h_2=>exact hl.elim
 split at hl
 case h_2=>exact hl.elim
 exact det_vcode hC hY noRange_det la.body (fun K=>vfin q K none) (fun id K=>vfin q K (some (.exit id))) (fun K=>vfin q K (some .ret)) det_vfin (fun _=>det_vfin) det_vfin e1 _ nx1 K hl
theorem det_vbody {c:Cfg}{n:Nat}(hC:DetC C)(hY:DetC Y)(hX:∀ f x,c.X f=some x→∀ args h nx,DetE (x args h nx)):DetC (vbody c (some n) C Y):=by
 intro f args h nx
 show DetE (fun K=>vbody c (some n) C Y f args h nx K)
 unfold vbody
 intro K hl
 split at hl
 ·rename_i x hx
  exact hX f x hx args h nx K hl
 ·split at hl
  ·exact hl.elim
  ·rename_i fn hfn
   split at hl
   case h_2=>exact hl.elim
   rename_i b hb hle
   have hv:DetK (fun K=>vend c.T fn (fun v h' nx'=>K v h' nx')) :=
    det_vend (g:=fun v h' nx'=>(v,h',nx'))
   exact det_vcode hC hY (det_vrange hC) b (fun K=>vend c.T fn (fun v h' nx'=>K v h' nx')) (fun _ _ _ _ _=>False) (fun K=>vend c.T fn (fun v h' nx'=>K v h' nx')) hv (fun _ _ _ _=>detE_false) hv _ h nx K hl
end
def XOK (P:Program)(f:Nat)(x:List Value→Heap→Nat→KE→Prop):Prop:=(∀ args h nx K,x args h nx K→∀ ι B w,RelH ι B h nx w→(∀ v∈args,scT ι nx v) →
 (∃ fn, P.funcs[f]? = some fn ∧ fn.body.isSome = true ∧ (fn.name == "runtime.NumGoroutine") = false) ∧ CallsIn Fence.wide 0 P f (args.map (tr ι)).toArray w (Ret B w ι nx K)) ∧ ∀ args h nx, DetE (x args h nx)
structure CfgOK (P:Program) (c:Cfg):Prop where
 ar:c.A=std
 tab:TabOK P c.T
 mixed:P.follows .mixedOrders=true
 funcs : ∀ f fn, c.FT f = some fn → P.funcs[f]? = some fn ∧ (fn.name == "runtime.NumGoroutine") = false ∧ ∀ b, fn.body = some b → plansOK (c.PL f) b = true
 xs:∀ f x,c.X f=some x→XOK P f x
section
variable {P:Program}{c:Cfg}{C:VC}{Y:VY}
theorem vbody_ok (hc:CfgOK P c)(hC:CallsOK P C)(hY:YieldsOK P Y)(hD:DetC C)(hDY:DetC Y)(M:Option Nat):CallsOK P (vbody c M C Y):=by
 intro f args h nx K hl ι B w H hs
 unfold vbody at hl
 split at hl
 ·rename_i x hx
  exact (hc.xs f x hx).1 args h nx K hl ι B w H hs
 ·split at hl
  ·exact hl.elim
  ·rename_i fn hfn
   split at hl
   case h_2=>exact hl.elim
   rename_i b hb hle
   obtain⟨h1,h2,h3⟩:=hc.funcs f fn hfn
   refine⟨⟨fn,h1,by rw [hb];rfl,h2⟩,?_⟩
   rw [hc.ar] at hl
   refine body_ok (K':=K) hc.tab hC hY hD hDY hc.mixed h1 hb (h3 b hb) (by cases M with|none=>exact Nat.le_refl _|some n=>trivial) (vrange_ok hC) (vrange_mono hD) (Nat.le_of_ble_eq_true hle) (fun v h' nx' hk=>⟨_,hk,fun k o hlk=>hlk⟩) hl H hs
theorem newOwn_look {n:Nat}{g:Heap}:∀ {h:Heap} {k:Nat} {o:AObj},look (newOwn n g h) k=some o→look h k=some o∧n≤k∧((∃ a b c,look g k=some (.cells true a b c))∨∃ es,look g k=some (.map es))
 |[],k,o,hk=>by cases hk
 |(j,q)::r,k,o,hk=>by
  have drop:look (newOwn n g r) k=some o→((∃ a b c,look g j=some (.cells true a b c))→n≤j→False)→((∃ es,look g j=some (.map es))→n≤j→False)→look ((j,q)::r) k=some o∧n≤k∧((∃ a b c,look g k=some (.cells true a b c))∨∃ es,look g k=some (.map es)):=by
   intro h1 h2 h3
   obtain⟨i1,i2,i3⟩:=newOwn_look h1
   refine⟨?_,i2,i3⟩
   rw [look_cons]
   split
   ·rename_i hb
    have:=beq_true hb
    subst this
    rcases i3 with i3|i3
    ·exact (h2 i3 i2).elim
    ·exact (h3 i3 i2).elim
   ·exact i1
  have keep:look ((j,q)::newOwn n g r) k=some o→n≤j→((∃ a b c,look g j=some (.cells true a b c))∨∃ es,look g j=some (.map es))→look ((j,q)::r) k=some o∧n≤k∧((∃ a b c,look g k=some (.cells true a b c))∨∃ es,look g k=some (.map es)):=by
   intro h1 h2 h3
   rw [look_cons] at h1 ⊢
   split at h1
   ·rename_i hb
    have:=beq_true hb
    subst this
    exact⟨h1,h2,h3⟩
   ·exact newOwn_look h1
  unfold newOwn at hk
  split at hk
  ·rename_i a b c hn hg
   exact keep hk (Nat.le_of_ble_eq_true hn) (.inl ⟨_,_,_,hg⟩)
  ·rename_i es hn hg
   exact keep hk (Nat.le_of_ble_eq_true hn) (.inr ⟨_,hg⟩)
  ·rename_i n1 n2
   exact drop hk (fun ⟨a,b,c,h1⟩ h2=>n1 _ _ _ (Nat.ble_eq_true_of_le h2) h1) (fun ⟨es,h1⟩ h2=>n2 _ (Nat.ble_eq_true_of_le h2) h1)
theorem frC_ok {PR:Nat→Bool}(hC:CallsOK P C):CallsOK P (frC PR C):=by
 intro f args h nx K hl ι B w H hs
 unfold frC at hl
 split at hl
 case h_2=>exact hC f args h nx K hl ι B w H hs
 obtain⟨c1,c2⟩:=hC f args (shutH h) nx _ hl ι w.heap.size w H.shut hs
 refine⟨c1,CallsIn.mono c2 fun e w' hr=>?_⟩
 cases e with
 |returned u =>
  obtain⟨v,h',nx',ι',q1,q2,q3,q4,q5,q6,q7⟩:=hr
  have H':RelH ι B h nx w':=H.ext q4
  unfold frK at q1
  split at q1
  ·rename_i hg
   exact⟨v,h,nx,ι,q1,scT_g hg,H',q4.mono H.size,fun _ _=>rfl,Nat.le_refl _,by rw [q7,tr_g hg,tr_g hg]⟩
  ·refine⟨v,_,nx',ι',q1,q2,?_,q4.mono H.size,q5,q6,q7⟩
   have Q:=q3.down H.size
   have hcase:∀ k o,look (app (newOwn nx h' h') h) k=some o→(look h k=some o∧k<nx)∨(look h' k=some o∧nx≤k∧∀ b,(ι' k).blk=some b→w.heap.size≤b):=by
    intro k o hk
    rw [look_app] at hk
    split at hk
    ·rename_i o1 ho
     injection hk with hk
     subst hk
     obtain⟨a1,a2,a3⟩:=newOwn_look ho
     refine .inr ⟨a1,a2,fun b hb=>?_⟩
     have hob:=q3.obj k _ a1
     cases hl:ι' k with
     |nil p=>rw [hl] at hb;cases hb
     |lay b2 off e =>
      rw [hl] at hb hob
      have e1:b2=b:=by simpa [Loc.blk] using hb
      subst e1
      rcases a3 with ⟨a,b',c,a3⟩|⟨es,a3⟩
      ·rw [a1] at a3
       injection a3 with a3
       subst a3
       exact hob.1
      ·rw [a1] at a3
       injection a3 with a3
       subst a3
       exact hob.1
    ·exact .inl ⟨hk,H.low k _ hk⟩
   refine⟨fun k o hk=>?_,fun k k' o o' hk hk' hne ha b hb=>?_,fun k o hk=>?_,H'.size,fun k o hk=>?_⟩
   ·rcases hcase k o hk with ⟨h2,h3⟩|⟨h2,h3,_⟩
    ·rw [q5 k h3]
     exact (H'.obj k o h2).names (H'.sc k o h2) q5
    ·exact Q.obj k o h2
   ·rcases hcase k o hk with ⟨h2,h3⟩|⟨h2,h3,h4⟩ <;> rcases hcase k' o' hk' with ⟨h2',h3'⟩|⟨h2',h3',h4'⟩
    ·rw [q5 k h3] at hb
     rw [q5 k' h3']
     exact H'.sep k k' o o' h2 h2' hne ha b hb
    ·rw [q5 k h3] at hb
     intro hb'
     have:=h4' b hb'
     have:=(H.obj k o h2).lt hb
     omega
    ·rw [q5 k' h3']
     intro hb'
     have:=h4 b hb
     have:=(H.obj k' o' h2').lt hb'
     omega
    ·exact Q.sep k k' o o' h2 h2' hne ha b hb
   ·rcases hcase k o hk with ⟨h2,h3⟩|⟨h2,h3,h4⟩
    ·omega
    ·exact Q.low k o h2
   ·rcases hcase k o hk with ⟨h2,h3⟩|⟨h2,h3,h4⟩
    ·exact (H'.sc k o h2).mono q6 q5
    ·exact Q.sc k o h2
 |_=>exact hr.elim
theorem frC_det {PR:Nat→Bool}(hC:DetC C):DetC (frC PR C):=by
 intro f args h nx K hl
 unfold frC at hl ⊢
 cases hp:PR f with
 |false=>simp only [hp] at hl ⊢;exact hC f args h nx K hl
 |true =>
 simp only [hp] at hl ⊢
 obtain⟨v,h',nx',q1,q2⟩:=hC _ _ _ _ _ hl
 unfold frK at q1
 split at q1
 ·rename_i hg
  refine⟨v,h,nx,q1,fun K' hk=>q2 _ ?_⟩
  unfold frK
  rw [hg]
  exact hk
 ·rename_i hg
  refine⟨v,_,nx',q1,fun K' hk=>q2 _ ?_⟩
  unfold frK
  rw [hg]
  exact hk
theorem vcall_ok (hc:CfgOK P c):∀ d,CallsOK P (vcall c d false)∧YieldsOK P (vcall c d true)∧DetC (vcall c d false)∧DetC (vcall c d true)
 |0=>⟨fun _ _ _ _ _ hl=>hl.elim,fun _ _ _ _ _ hl=>hl.elim,fun _ _ _ _ _ hl=>hl.elim,fun _ _ _ _ _ hl=>hl.elim⟩
 |d+1=>by
  obtain⟨h1,h2,h3,h4⟩:=vcall_ok hc d
  refine⟨frC_ok (vbody_ok hc h1 h2 h3 h4 _),?_,frC_det (det_vbody h3 h4 (fun f x hx=>(hc.xs f x hx).2)),det_vround h3 h4⟩
  show YieldsOK P (vround c.A c.T (vcall c d false) (vcall c d true) c.PL (.fuel c.M))
  rw [hc.ar]
  exact vround_ok hc.tab h1 h2 h3 h4 hc.mixed
end
end Go.Aw
end

noncomputable section
namespace Go.Aw
open Go.RowKit
def vSame:Value→Value→Bool
 |.int k a,.int k' b=>kEq k k'&&decide (a=b)
 |.bool a,.bool b=>a == b
 |.pointer none,.pointer none=>true
 |.slice none n c,.slice none m d=>Nat.beq n m&&Nat.beq c d
 |.map none,.map none=>true
 |.nilFunc,.nilFunc=>true
 |.nilIface,.nilIface=>true
 |.string a,.string b=>(match a.data.toList,b.data.toList with|[],[]=>true|_,_=>false)
 |_,_=>false
def allSame:List Value→List Value→Bool
 |[],[]=>true
 |x::r,y::s=>vSame x y&&allSame r s
 |_,_=>false
def aSame:Value→Value→Bool
 |.agg xs,.agg ys=>allSame xs.toList ys.toList
 |x,y=>vSame x y
theorem vSame_eq {x y:Value}(h:vSame x y=true):x=y:=by
 unfold vSame at h
 split at h
 ·simp only [Bool.and_eq_true,decide_eq_true_eq] at h
  rw [kEq_true h.1,h.2]
 ·simpa using h
 ·rfl
 ·simp only [Bool.and_eq_true] at h
  rw [beq_true h.1,beq_true h.2]
 ·rfl
 ·rfl
 ·rfl
 ·rename_i a b
  split at h
  ·rename_i h1 h2
   obtain⟨⟨a⟩⟩:=a
   obtain⟨⟨b⟩⟩:=b
   simp at h1 h2
   rw [h1,h2]
  ·cases h
 ·cases h
theorem allSame_eq:∀ {x y:List Value},allSame x y=true→x=y
 |[],[],_=>rfl
 |[],_::_,h=>by cases h
 |_::_,[],h=>by cases h
 |x::r,y::s,h=>by
  simp only [allSame,Bool.and_eq_true] at h
  rw [vSame_eq h.1,allSame_eq h.2]
theorem aSame_eq {x y:Value}(h:aSame x y=true):x=y:=by
 unfold aSame at h
 split at h
 ·congr 1
  apply Array.ext'
  exact allSame_eq h
 ·exact vSame_eq h
def tyB0 (P:Program)(t:TypeId)(i:TyI):Bool :=
 (match P.info? t with|some x=>Nat.beq x.size i.size&&Nat.beq x.bytes i.bytes&&(match x.zero with|some z=>aSame z i.zv|none=>false)|none=>false) &&
 (match P.underlying t with|some d=>KOK d i.kind|none=>false) &&
 Nat.beq i.zv.cells.size i.size&&gA i.zv&&!P.stoodInHeld t&&!P.eqGuardType P.depth t&&Nat.blt 0 i.size
def noK:TyK→Bool
 |.mpk _ _=>false
 |_=>true
def tyB (P:Program)(t:TypeId)(i:TyI):Bool:=tyB0 P t i&&noK i.kind
def tabB (P:Program):Tab→Bool
 |[]=>true
 |(t,i)::r=>tyB P t i&&tabB P r
def tabB0 (P:Program):Tab→Bool
 |[]=>true
 |(t,i)::r=>tyB0 P t i&&tabB0 P r
theorem tyB0_ok {P:Program}{t:TypeId}{i:TyI}(h:tyB0 P t i=true)(hl:∀ k e,i.kind=.mpk k e→LawOK P k):TyOK P t i:=by
 unfold tyB0 at h
 simp only [Bool.and_eq_true,Bool.not_eq_true'] at h
 obtain⟨⟨⟨⟨⟨⟨h1,h2⟩,h3⟩,h4⟩,h5⟩,h6⟩,h7⟩:=h
 split at h1
 case h_2=>cases h1
 rename_i x hx
 simp only [Bool.and_eq_true] at h1
 obtain⟨⟨h8,h9⟩,h10⟩:=h1
 split at h10
 case h_2=>cases h10
 rename_i z hz
 split at h2
 case h_2=>cases h2
 rename_i d hd
 exact⟨⟨x,hx,beq_true h8,beq_true h9,by rw [hz,aSame_eq h10]⟩,⟨d,hd,h2⟩,beq_true h3,h4,h5,h6,blt_true h7,hl⟩
theorem tabB0_ok {P:Program}:∀ {T:Tab},tabB0 P T=true→(∀ t i k e,(t,i)∈T→i.kind=.mpk k e→LawOK P k)→TabOK P T
 |[],_,_,t,i,h=>by cases h
 |(u,j)::r,hb,hl,t,i,h=>by
  simp only [tabB0,Bool.and_eq_true] at hb
  simp only [look_cons] at h
  split at h
  ·rename_i hu
   have:=beq_true hu
   subst this
   injection h with h
   subst h
   exact tyB0_ok hb.1 fun k e=>hl _ _ k e (.head _)
  ·exact tabB0_ok hb.2 (fun t i k e hm=>hl t i k e (.tail _ hm)) t i h
end Go.Aw
end
