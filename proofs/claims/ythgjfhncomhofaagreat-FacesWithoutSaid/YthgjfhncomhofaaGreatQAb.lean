/-
  Parts of a proof. No condition.
-/
import Derived.Test.YthgjfhncomhofaaGreatQAa
import Derived.Laws.MakeOwn
set_option linter.unusedSimpArgs false
set_option linter.unusedVariables false
noncomputable section
namespace Go.Aw
open Go.RowKit
structure xL (w w':World) (b:Nat):Prop where
 os:w'.os=w.os
 tape:w'.tape=w.tape
 output:w'.output=w.output
 size:w'.heap.size=w.heap.size
 other:∀ c,c≠b->w'.heap[c]? = w.heap[c]?
 drawn:w'.drawn=w.drawn
theorem xL.refl (w:World)(b:Nat):xL w w b:=⟨rfl,rfl,rfl,rfl,fun _ _=>rfl,rfl⟩
theorem xL.trans {a b c:World}{x:Nat}(h:xL a b x)(k:xL b c x):xL a c x :=
 ⟨k.os.trans h.os,k.tape.trans h.tape,k.output.trans h.output,k.size.trans h.size,fun y hy=>(k.other y hy).trans (h.other y hy),k.drawn.trans h.drawn⟩
theorem xL.below {w w':World}{b B:Nat}(h:xL w w' b)(hb:B<=b):jO B w w' :=
 ⟨h.os,h.tape,h.output,Nat.le_of_eq h.size.symm,fun k hk=>h.other k aa,Nat.le_of_eq h.drawn.symm⟩
theorem N2 (w:World){b o:Nat}{arr:Array Value}{t:TypeId}{fz:Nat × Nat}(v:Value)(hb:w.heap[b]? = some (.cells arr t fz)) :
  xL w (w.setCell ⟨b,o,none⟩ v) b/\(w.setCell ⟨b,o,none⟩ v).heap[b]? = some (.cells (arr.setIfInBounds o v) t fz):=by
 refine⟨⟨rfl,rfl,rfl,by simp[World.setCell],fun c hc=>Go.RowKit.Below.heap_setCell _ _ _ _ hc,rfl⟩,?_⟩;simp[World.setCell,Array.getElem?_modify,hb]
theorem qF {P:Program}{b off:Nat}{t:TypeId}:∀(vs:List Value) (i:Nat) (w:World) (arr:Array Value),(∀ v∈vs,v.oneCell'=true) ->
  w.heap[b]? = some (.cells arr t (0,0))->off+i+vs.length<=arr.size ->
  ∃ w' arr',(storeCells ⟨b,off,none⟩ vs i).run P w=.ok () w'/\xL w w' b/\w'.heap[b]? = some (.cells arr' t (0,0))/\arr'.size=arr.size /\
    ∀ j,arr'[j]? = if off+i<=j/\j<off+i+vs.length then vs[j - (off+i)]? else arr[j]?
 |[],i,w,arr,_,hb,_=>⟨w,arr,by simp[storeCells],xL.refl _ _,hb,rfl,fun j=>by rw[if_neg (by simp only[List.length_nil];omega)]⟩
 |v::vs,i,w,arr,hv,hb,hs=>by
  simp only[List.length_cons]at hs;have hc:w.cell? ⟨b,off+i,none⟩=some (arr[off+i]'aa):=by
   simp[World.cell?,hb]
  have hf:w.frozen? ⟨b,off+i,none⟩=false:=(by simp[World.frozen?,hb]);obtain⟨hw1,hb1⟩:=N2 (o:=off+i) w v hb;obtain⟨w',arr',h1,h2,h3,h4,h5⟩:=qF (P:=P) (off:=off) (t:=t) vs (i+1) (w.setCell ⟨b,off+i,none⟩ v) (arr.setIfInBounds (off+i) v) (fun u hu=>hv u (by simp[hu])) hb1 (by simp;omega);refine⟨w',arr',?_,hw1.trans h2,h3,by simp[h4],fun j=>?_⟩
  ·simp only[storeCells,Sem.run_bind];rw[Addr.add_lit,run_store _ _ _ _ _ (hv v (by simp)),hc];simp only[hf,Bool.false_eq_true,if_false,Result.andThen_ok,h1]
  rw[h5 j];simp only[List.length_cons];by_cases hj:j=off+i
  ·subst hj;rw[if_neg aa,if_pos aa];rw[Array.getElem?_setIfInBounds_self_of_lt aa];simp
  by_cases hj2:off+(i+1)<=j/\j<off+(i+1)+vs.length
  ·rw[if_pos hj2,if_pos aa];rw[(aa:j - (off+i)=(j - (off+(i+1)))+1)];simp
  rw[if_neg hj2,if_neg aa];rw[Array.getElem?_setIfInBounds_ne aa]
def bU (cs:List Value)(o:Nat)(vs:List Value):List Value:=cs.take o++vs++cs.drop (o+vs.length)
theorem cG {cs vs:List Value}{o:Nat}(h:o+vs.length<=cs.length):(bU cs o vs).length=cs.length:=by
 simp[bU];omega
theorem T6 {cs vs:List Value}{o:Nat}(h:o+vs.length<=cs.length)(j:Nat):(bU cs o vs)[j]? = if o<=j/\j<o+vs.length then vs[j - o]? else cs[j]? := by
 unfold bU;rw[List.append_assoc];by_cases h1:j<o
 ·rw[List.getElem?_append_left (by simp;omega),List.getElem?_take_of_lt h1,if_neg aa]
 rw[List.getElem?_append_right (by simp;omega)];simp only[List.length_take];rw[Nat.min_eq_left aa];by_cases h2:j<o+vs.length
 ·rw[List.getElem?_append_left aa,if_pos aa]
 rw[List.getElem?_append_right aa,List.getElem?_drop,if_neg aa];congr 1;omega
theorem aFr {cs vs:List Value}{o:Nat}{v:Value}(h:v∈bU cs o vs):v∈cs\/v∈vs:=by
 unfold bU at h;rcases List.mem_append.1 h with h|h
 ·rcases List.mem_append.1 h with h|h
  ·exact .inl (List.mem_of_mem_take h)
  exact .inr h
 exact .inl (List.mem_of_mem_drop h)
section
variable {P:Program}{T:dN}{ι:Nat->Loc}{B nx:Nat}{h:Heap}
theorem aY.put {w:World}(H:aY ι B h nx w){k:Nat}{g:Bool}{sz:Nat}{cs:List Value}(hk:aw h k=some (.cells true g sz cs)){o:Nat}{vs:List Value}(ho:o+vs.length<=cs.length)
  (hs:∀ v∈vs,jJ ι nx v) (hne:vs≠[]) :
  ∃ b off e w',ι k=.lay b off e/\(storeCells ⟨b,off+o,none⟩ (vs.map (cF ι))).run P w=.ok () w'/\jO B w w' /\
    aY ι B (xQ h k (.cells true false sz (bU cs o vs))) nx w':=by
 have hob:=H.obj k _ hk;have hlen:0<vs.length:=by cases vs with|nil=>exact absurd rfl hne|cons _ _=>simp
 cases hι:ι k with
 |nil =>
  rw[hι]at hob;have:cs=[]:=(show cs=[]/\_ from hob).1;subst this;simp only[List.length_nil]at ho;omega
 |lay b off e =>
  rw[hι]at hob;obtain⟨hB,_,arr,t,h1,h2,h3⟩:=hob;have hone:∀ v∈vs.map (cF ι),v.oneCell'=true:=by
   intro v hv;obtain⟨u,hu,rfl⟩:=List.mem_map.1 hv;exact(wR (hs u hu)).1
  obtain⟨w',arr',e1,e2,e3,e4,e5⟩:=qF (P:=P) (off:=off+o) (vs.map (cF ι)) 0 w arr hone h1 (by simp;omega);refine⟨b,off,e,w',rfl,e1,e2.below hB,?_⟩;refine H.set hk rfl ?_ ?_ rfl (fun c hc=>e2.other c (fun e=>hc (by rw[hι,e];rfl))) (Nat.le_of_eq e2.size.symm)
  ·rw[hι];refine⟨hB,by simp,arr',t,e3,?_,fun i v hv=>?_⟩
   ·rw[cG ho,e4];exact h2
   rw[T6 ho]at hv;rw[e5];simp only[List.length_map,Nat.add_zero];by_cases hi:o<=i/\i<o+vs.length
   ·rw[if_pos hi]at hv;rw[if_pos aa,(aa:off+i - (off+o)=i - o),List.getElem?_map,hv];rfl
   rw[if_neg hi]at hv;rw[if_neg aa];exact h3 i v hv
  intro v hv;rcases aFr hv with hv|hv
  ·exact H.sc k _ hk v hv
  exact hs v hv
theorem aY.fresh {w:World}(H:aY ι B h nx w)(t:TypeId)(arr:Array Value)(cs:List Value)(sz:Nat)(ha:arr.toList=cs.map (cF ι))(hs:∀ v∈cs,jJ ι nx v) :
  aY (ins ι nx (.lay w.heap.size 0 0)) B (cO h nx (.cells true false sz cs)) (nx+1) (w.alloc (.cells arr t)):=by
 have hsz:arr.size=cs.length:=(by rw[<- Array.length_toList,ha,List.length_map]);refine H.new (.cells arr t) (.cells true false sz cs) ?_ ?_
 ·refine⟨H.size,by simp,arr,t,(MapKept.heap_alloc w _).1,aa,fun i v hv=>?_⟩;rw[Nat.zero_add,<- Array.getElem?_toList,ha,List.getElem?_map,hv];simp only[Option.map_some];rw[oT (ι:=ι) (fun k hk=>dE _ _ hk) (hs v (List.mem_of_getElem? hv))]
 intro v hv;exact kG aa (fun k hk=>dE _ _ hk) (hs v hv)
end
def rep (n:Nat)(zs:List Value):List Value:=(List.replicate n zs).flatten
theorem lI (z:Array Value)(n:Nat):(Builtin.zeroCells z n).toList=rep n z.toList:=by
 apply List.ext_getElem?;intro i;have hl:(rep n z.toList).length=n*z.size:=by
  unfold rep
  induction n with
  |zero=>simp
  |succ n ih=>rw[List.replicate_succ,List.flatten_cons,List.length_append,ih,Nat.succ_mul,Array.length_toList];omega
 have hg:∀ n i,i<n*z.size->(rep n z.toList)[i]? = z[i % z.size]? := by
  intro n
  induction n with
  |zero=>intro i hi;omega
  |succ n ih =>
   intro i hi;unfold rep;rw[List.replicate_succ,List.flatten_cons];by_cases h:i<z.size
   ·rw[List.getElem?_append_left (by simpa using h),Nat.mod_eq_of_lt h,Array.getElem?_toList]
   rw[List.getElem?_append_right (by simpa using Nat.le_of_not_lt h)];rw[Nat.succ_mul]at hi;have:=ih (i - z.size) aa;rw[show(List.replicate n z.toList).flatten=rep n z.toList from rfl,Array.length_toList,this];congr 1
   conv=>rhs;rw[(aa:i=(i - z.size)+z.size),Nat.add_mod_right]
 by_cases h:i<n*z.size
 ·rw[hg n i h];have h0:0<z.size:=Nat.pos_of_ne_zero (fun e=>by rw[e]at h;omega);have hlt:=Nat.mod_lt i h0;simp[Builtin.zeroCells,List.getElem?_range h,hlt]
 have e1:(Builtin.zeroCells z n).toList.length=n*z.size:=(by rw[Array.length_toList,size_zeroCells]);rw[List.getElem?_eq_none aa,List.getElem?_eq_none aa]
abbrev KE:=Value->Heap->Nat->Prop
def qL (T:dN)(h:Heap)(nx:Nat)(t:TypeId)(x v:Value)(K:KE):Prop :=
 match x with
 |.pointer (some ⟨k,o,none⟩) =>
  (match aw T t,aw h k with
  |some ti,some (.cells true _ sz cs) =>
   (match Nat.beq v.cells.size ti.size,(match v with|.tuple _=>false|_=>true)with
   |true,true=>eF (Nat.ble (o+v.cells.size) cs.length) (K undef (xQ h k (.cells true false sz (bU cs o v.cells.toList))) nx)
   |_,_=>False)
  |_,_=>False)
 |_=>False
def XA (h:Heap)(nx:Nat)(v:Value)(K:KE):Prop :=
 match v with
 |.tuple _=>False
 |v=>K (ao nx) (cO h nx (aq 1 v.cells.toList)) (nx+1)
def AT (T:dN)(h:Heap)(nx:Nat)(t:TypeId)(K:KE):Prop :=
 match aw T t with
 |some ti=>K (ao nx) (cO h nx (aq 1 ti.zv.cells.toList)) (nx+1)
 |none=>False
def fP (T:dN)(h:Heap)(nx:Nat)(t:TypeId)(len:Nat)(ps:List (Nat × Value))(K:KE):Prop :=
 match aw T t with
 |some { kind:=.sl e,.. } =>
  (match aw T e with
  |some ei =>
   (match Nat.ble (len*ei.size) 1000000,mP ps with
   |true,true =>
    (match GN (fun i=>some (i*ei.size,ei.size)) ps (rep len ei.zv.cells.toList)with
    |some cells=>K (ak nx len len) (cO h nx (.cells true false ei.size cells)) (nx+1)
    |none=>False)
   |_,_=>False)
  |none=>False)
 |_=>False
section
variable {P:Program}{T:dN}{ι:Nat->Loc}{B nx:Nat}{h:Heap}
def PV (P:Program)(ι:Nat->Loc)(B nx:Nat)(w:World)(m:Sem Value)(K:KE):Prop :=
 ∃ v h' nx' ι' w',K v h' nx'/\fU ι' nx' v/\aY ι' B h' nx' w'/\jO B w w'/\(∀ k,k<nx->ι' k=ι k)/\nx<=nx'/\m.run P w=.ok (tr ι' v) w'
theorem MT {v:Value}(h1:∀ c,v≠.tuple c)(h2:fU ι nx v):mS ι nx v:=by
 cases v with
 |tuple c=>exact absurd rfl (h1 c)
 |_=>exact h2
theorem EO {v:Value}(hv:mS ι nx v):∀ u∈v.cells.toList,jJ ι nx u:=by
 intro u hu;cases v with
 |agg c=>exact hv u hu
 |_ =>
  simp only[Value.cells,List.mem_singleton]at hu;subst hu;exact hv
theorem aCs (hT:dJ P T){t:TypeId}{x v:Value}{K:KE}(hl:qL T h nx t x v K)(hv:fU ι nx v){w:World}(H:aY ι B h nx w) :
  ∃ h' w',K undef h' nx/\aY ι B h' nx w'/\jO B w w'/\(Instr.storeAt t (tr ι x) (tr ι v)).run P w=.ok () w':=by
 unfold qL at hl;split at hl
 case h_2=>exact hl.elim
 rename_i k o;split at hl
 case h_2=>exact hl.elim
 rename_i ti g sz cs ht hk;split at hl
 case h_2=>exact hl.elim
 rename_i hsz htup;obtain⟨hb,hK⟩:=aH.1 hl;have hti:=hT t _ ht;have hsz:=Nat.eq_of_beq_eq_true hsz;have hb:=Nat.le_of_ble_eq_true hb;have hvA:mS ι nx v:=MT (fun c e=>by rw[e]at htup;cases htup) hv;have hp:=hti.pos;obtain⟨b,off,e,w',hι,hrun,hbel,hrel⟩:=H.put (P:=P) hk (o:=o) (vs:=v.cells.toList) (by simpa using hb) (EO hvA) (by
  intro e;have:v.cells.size=0:=(by rw[<- Array.length_toList,e];rfl);omega)
 refine⟨_,w',hK,hrel,hbel,?_⟩;have hc:=DV hvA;simp only[iA,hι,Instr.storeAt,Instr.sureAddr,Sem.run_bind,Sem.run_pure,Result.andThen_ok,storeVar,hti.sizeOf];rw[hc];simp only[Array.size_map,hsz,ne_eq,not_true_eq_false,if_false,Sem.run_ite,Array.toList_map];simpa using hrun
theorem aJi {t:TypeId}{v:Value}{K:KE}(hl:XA h nx v K)(hv:fU ι nx v){w:World}(H:aY ι B h nx w):PV P ι B nx w (Instr.box t (tr ι v)) K:=by
 have hK:(∀ c,v≠.tuple c)/\K (ao nx) (cO h nx (aq 1 v.cells.toList)) (nx+1):=by
  unfold XA at hl;split at hl
  ·exact hl.elim
  rename_i hne;exact⟨hne,hl⟩
 obtain⟨hne,hK⟩:=hK;have hvA:=MT hne hv;have hf:=H.fresh t (tr ι v).cells v.cells.toList 1 (by rw[DV hvA];simp) (EO hvA);refine⟨_,_,_,_,_,hK,?_,hf,?_,fun k hk=>dE _ _ hk,aa,?_⟩
 ·simp[fU,mS,jJ,rG,bZ,Loc.jD]
 ·exact(eP w _).mono H.size
 simp[Instr.box,newVar,newRow,iA,bZ]
theorem tG (hT:dJ P T){t:TypeId}{ti:WE}(ht:aw T t=some ti):(∀ u∈ti.zv.cells.toList,gS u=true):=by
 have hg:=(hT t _ ht).zg;intro u hu;cases hz:ti.zv with
 |agg c=>rw[hz]at hu hg;exact a9 hg hu
 |_ =>
  rw[hz]at hu hg;simp only[Value.cells,List.mem_singleton]at hu;subst hu;exact hg
theorem qT {l:List Value}(h:∀ u∈l,gS u=true):l.map (cF ι)=l:=bK (r7 h)
theorem aCJ (hT:dJ P T){t:TypeId}{K:KE}(hl:AT T h nx t K){w:World}(H:aY ι B h nx w):PV P ι B nx w (Instr.alloc t true (.tuple #[])) K:=by
 unfold AT at hl;split at hl
 case h_2=>exact hl.elim
 rename_i ti ht;have hti:=hT t _ ht;have hz:=tG hT ht;have hf:=H.fresh t ti.zv.cells ti.zv.cells.toList 1 (by rw[qT hz]) (fun v hv=>bM (hz v hv));refine⟨_,_,_,_,_,hl,?_,hf,?_,fun k hk=>dE _ _ hk,aa,?_⟩
 ·simp[fU,mS,jJ,rG,bZ,Loc.jD]
 ·exact(eP w _).mono H.size
 simp[Instr.alloc,hti.zero,newVar,newRow,iA,bZ]
theorem J0 (hT:dJ P T){t:TypeId}{len:Nat}{ps:List (Nat × Value)}{K:KE}(hl:fP T h nx t len ps K)(hs:∀ p∈ps,fU ι nx p.2){w:World}(H:aY ι B h nx w) :
  PV P ι B nx w (Instr.buildSlice t len (ps.map fun p=>(p.1,tr ι p.2)).toArray) K:=by
 unfold fP at hl;split at hl
 case h_2=>exact hl.elim
 rename_i e s1 b1 z1 ht;split at hl
 case h_2=>exact hl.elim
 rename_i ei he;split at hl
 case h_2=>exact hl.elim
 rename_i hsz hap;have hsz:=Nat.le_of_ble_eq_true hsz;have hs':=sV hap hs;have hti:=hT t _ ht;have hei:=hT e _ he;split at hl
 case h_2=>exact hl.elim
 rename_i lcells hfill0;have hzs:ei.zv.cells.size=ei.size:=hei.zs;have hrep0:((Array.range (len*ei.size)).map ((if len*ei.size=0 then #[]else ei.zv.cells)[· % (if len*ei.size=0 then(#[]:Array Value)else ei.zv.cells).size]!)).toList=rep len ei.zv.cells.toList:=by
  rw[<- lI];unfold Builtin.zeroCells;rw[hzs];by_cases h0:len*ei.size=0
  ·rw[h0];simp
  rw[if_neg h0,hzs]
 obtain⟨cells,hce⟩:∃ cells:Array Value,cells=lcells.toArray:=⟨_,rfl⟩;have hfill:Instr.fill (fun i=>some (i*ei.size,ei.size)) ((Array.range (len*ei.size)).map ((if len*ei.size=0 then #[]else ei.zv.cells)[· % (if len*ei.size=0 then(#[]:Array Value)else ei.zv.cells).size]!)) ps=some cells:=by
  rw[hce];exact JM _ _ _ _ _ hrep0 hfill0
 have hl0:lcells=cells.toList:=(by rw[hce]);rw[hl0]at hl;have hz:=tG hT he;generalize hz0:(if len*ei.size=0 then(#[]:Array Value)else ei.zv.cells)=z0 at hfill;have hz0g:∀ u∈z0.toList,gS u=true:=by
  subst hz0;split
  ·intro u hu;simp at hu
  exact hz
 have hrow:∀ u∈((Array.range (len*ei.size)).map (z0[· % z0.size]!)).toList,gS u=true:=by
  intro u hu;simp only[Array.toList_map,List.mem_map]at hu;obtain⟨j,hj,rfl⟩:=hu;by_cases h0:z0.size=0
  ·have:j<len*ei.size:=(by simpa using hj);have:len*ei.size≠0:=aa;subst hz0;rw[if_neg this]at h0;have:=hei.zs;have:=hei.pos;omega
  have hlt:j % z0.size<z0.size:=Nat.mod_lt _ aa;have e1:z0[j % z0.size]! = z0[j % z0.size]:=getElem!_pos z0 _ hlt;rw[e1];exact hz0g _ (by simp)
 have hfm:=JI (ι:=ι) (nx:=nx) _ ps _ cells hs' hfill;have hrm:((Array.range (len*ei.size)).map (z0[· % z0.size]!)).map (cF ι)=(Array.range (len*ei.size)).map (z0[· % z0.size]!):=by
  apply Array.ext';rw[Array.toList_map,qT hrow]
 rw[hrm]at hfm;have hcs:∀ v∈cells.toList,jJ ι nx v:=MM _ (jJ ι nx) ps _ cells (fun v hv=>bM (hrow v hv)) (fun p hp v hv=>EO (hs' p hp) v hv) hfill;have hf:=H.fresh e (cells.map (cF ι)) cells.toList ei.size (by simp) hcs;refine⟨_,_,_,_,_,hl,?_,hf,?_,fun k hk=>dE _ _ hk,aa,?_⟩
 ·simp[fU,mS,jJ,rG,bZ,Loc.jD]
 ·exact(eP w _).mono H.size
 simp only[Instr.buildSlice,Sem.run_bind,run_underlying (hti.sl rfl),Result.andThen_ok,hei.sizeOf,Sem.run_ite];rw[if_neg aa];by_cases h0:len*ei.size=0
 ·rw[if_pos h0]at hz0;subst hz0;simp only[h0,if_true,Sem.run_pure,Result.andThen_ok]at hfm ⊢;rw[hfm];simp[newRow,tr,eK,cF,eM,bZ]
 rw[if_neg h0]at hz0;subst hz0;simp only[h0,if_false,Sem.run_bind,hei.zero,Result.andThen_ok,Sem.run_pure,hfm];simp[newRow,tr,eK,cF,eM,bZ]
end
def rem (h:Heap)(k:Nat):Heap :=
 match h with
 |[]=>[]
 |(j,o)::r=>match Nat.beq j k with|true=>rem r k|false=>(j,o)::rem r k
theorem dO (h:Heap)(k j:Nat):aw (rem h k) j=if j=k then none else aw h j:=by
 induction h with
 |nil=>simp[rem,look_nil]
 |cons x r ih =>
  obtain⟨i,o⟩:=x;by_cases hik:i=k
  ·subst hik;have e1:rem ((i,o)::r) i=rem r i:=(by simp[rem]);rw[e1,ih];by_cases hji:j=i
   ·rw[if_pos hji,if_pos hji]
   have:i.beq j=false:=by
    cases hb:i.beq j with
    |false=>rfl
    |true=>exact absurd (az hb).symm hji
   rw[if_neg hji,if_neg hji];simp only[aD,this]
  have hb:i.beq k=false:=by
   cases hb:i.beq k with
   |false=>rfl
   |true=>exact absurd (az hb) hik
  have e1:rem ((i,o)::r) k=(i,o)::rem r k:=(by simp only[rem,hb]);rw[e1];simp only[aD];cases hij:i.beq j with
  |true =>
   have:=az hij;subst this;rw[if_neg hik]
  |false=>exact ih
section
variable {P:Program}{T:dN}{ι:Nat->Loc}{B nx:Nat}{h:Heap}
theorem aY.rem {w:World}(H:aY ι B h nx w)(k:Nat):aY ι B (rem h k) nx w:=by
 have key:∀ j o,aw (Aw.rem h k) j=some o->aw h j=some o:=fun j o hj=>by
  rw[dO]at hj;split at hj
  ·cases hj
  exact hj
 exact⟨fun j o hj=>H.obj j o (key j o hj),fun j j' o o' h1 h2=>H.sep j j' o o' (key _ _ h1) (key _ _ h2),fun j o hj=>H.low j o (key _ _ hj),H.size,fun j o hj=>H.sc j o (key _ _ hj)⟩
structure Src (P:Program) (w:World) (size:Nat) (x:Value) (m:Nat) (news:List Value):Prop where
 len:(Builtin.lenOf x).run P w=.ok m w
 one:∀ c,(Builtin.firstCells size m x).run P { w with drawn:=c }=.ok news.toArray { w with drawn:=c }
theorem lE {t u e:TypeId}{ty:TypeId}{i:TypeInfo}{d:TypeDesc}(ht:P.underlying t=some (.slice e))(hu:P.underlying u=some d)(hd:∀ k,d≠.int k)(hi:P.info? e=some i)
  (w:World) (base:Option Addr) (n c m:Nat) (x:Value) (news:List Value) (hx:Src P w i.size x m news) (hroom:n+m<=c) :
  (Builtin.append_ #[t,u] ty #[.slice base n c,x]).run P w =
   (match base with|some a=>(storeCells (a.add (n*i.size)) news).run P w|none=>.ok () w).andThen fun _ w'=>.ok (.slice base (n+m) c) w':=by
 have h1:=hx.len;have h2:(Builtin.firstCells i.size m x).run P w=.ok news.toArray w:=hx.one w.drawn;have hz:(match d with|.int _=>true|_=>false)=false:=by
  cases d <;> first|rfl|exact absurd rfl (hd _)
 cases base with
 |none=>simp[Builtin.append_,run_underlying ht,run_underlying hu,sizeOf,typeInfo,hi,hz,h1,h2,hroom]
 |some a=>simp[Builtin.append_,run_underlying ht,run_underlying hu,sizeOf,typeInfo,hi,hz,h1,h2,hroom]
theorem MP {t u e:TypeId}{ty:TypeId}{i:TypeInfo}{z:Value}{d:TypeDesc}(ht:P.underlying t=some (.slice e))(hu:P.underlying u=some d)(hd:∀ k,d≠.int k)(hi:P.info? e=some i)(hz:i.zero=some z)
  (w:World) (base:Option Addr) (n c m:Nat) (x:Value) (news olds:List Value) (hx:Src P w i.size x m news) (ho:(Builtin.firstCells i.size n (.slice base n c)).run P w.drew=.ok olds.toArray w.drew)
  (hroom:c<n+m) (hb:i.bytes<=1000) (hm:n+m<=1000000000) :
  ∃ cap,n+m<=cap/\(Builtin.append_ #[t,u] ty #[.slice base n c,x]).run P w =
    .ok (.slice (some ⟨w.heap.size,0,none⟩) (n+m) cap) (w.drew.alloc (.cells (olds++news++(Builtin.zeroCells z.cells (cap - (n+m))).toList).toArray e)):=by
 have h1:=hx.len;have h2:(Builtin.firstCells i.size m x).run P w.drew=.ok news.toArray w.drew:=hx.one (w.drawn+1);have hzz:(match d with|.int _=>true|_=>false)=false:=by
  cases d <;> first|rfl|exact absurd rfl (hd _)
 have hfit:Builtin.nextslicecap (n+m) c*i.bytes<=281474976710656:=growslice_fits hroom (by
  have:=Nat.mul_le_mul hm hb;omega)
 have hn:¬(n+m<=c):=aa;have h63':¬(9223372036854775807<((n:Int)+(m:Int))):=aa;have h48':¬(281474976710656<Builtin.nextslicecap (n+m) c*i.bytes):=aa;refine⟨grownCap w (n+m) c e,grownCap_ge _ _ _ _,?_⟩;simp[Builtin.append_,run_underlying ht,run_underlying hu,sizeOf,typeInfo,zeroValue,hi,hz,hzz,h1,h2,ho,hn,h63',h48',Question.forced,newRow,grownCap];congr 2;apply Array.ext';simp[List.append_assoc]
end
def vhi (A:Ar)(n c:Nat)(hi:Option Value)(G:Nat->Prop):Prop :=
 match hi with
 |none=>G n
 |some (.int _ i)=>eF (A.andB (A.le 0 i) (A.le i (A.num c))) (G (A.toN i))
 |_=>False
def isZero:Option Value->Bool
 |none=>true
 |some (.int _ 0)=>true
 |_=>false
def TT (h:Heap)(nx k q r:Nat):Heap:=match aw h k with
 |some (.cells true g sz cs)=>(match Nat.ble (q+r) cs.length with|true=>cO (rem h k) nx (.cells true g sz ((cs.drop q).take r))|false=>h)
 |some (.cells false g sz cs)=>cO h nx (.cells false g sz ((cs.drop q).take r))
 |_=>h
def xO (A:Ar)(T:dN)(h:Heap)(nx:Nat)(t:TypeId)(x:Value)(lo hi mx:Option Value)(K:KE):Prop :=
 match aw T t with
 |some { kind:=.sl e,.. } =>
  (match aw T e with
  |none=>False
  |some ei =>
   match x,mx with
   |.slice none 0 0,none=>(match isZero lo,isZero hi with|true,true=>K (.slice none 0 0) h nx|_,_=>False)
   |.slice (some ⟨k,o,none⟩) n c,none =>
    vhi A n c hi fun hN =>
     (match lo with
     |none=>K (.slice (some ⟨k,o,none⟩) hN c) h nx
     |some (.int _ l)=>eF (A.andB (A.andB (A.le 0 l) (A.le l (A.num hN))) (A.le (A.num hN) (A.num c)))
      (match aw h k with
      |some (.cells _ _ _ _)=>br (A.lt l (A.num c)) (fun _=>K (.slice (some ⟨k,A.ix o l ei.size,none⟩) (A.subN hN (A.toN l)) (A.subN c (A.toN l))) h nx) (fun _=>K (ak nx 0 0) h (nx+1))
      |_=>False)
     |_=>False)
   |.slice (some ⟨k,o,none⟩) n c,some (.int _ 0) =>
    (match isZero lo,hi with|true,some (.int _ 0)=>K (ak nx 0 0) (cO h nx .zero) (nx+1)|_,_=>False)
   |.slice (some ⟨k,o,none⟩) n c,some (.int _ m) =>
    (match lo,hi with
    |some (.int _ l),some (.int _ u)=>eF (A.andB (A.andB (A.le 0 l) (A.le l u)) (A.andB (A.le u m) (A.andB (A.le 1 m) (A.le m (A.num c))))) (K (ak nx (A.subN (A.toN u) (A.toN l)) (A.subN (A.toN m) (A.toN l))) (TT h nx k (A.ix o l ei.size) (A.subN (A.toN m) (A.toN l)*ei.size)) (nx+1))
    |none,some (.int _ u)=>eF (A.andB (A.le 0 u) (A.andB (A.le u m) (A.andB (A.le 1 m) (A.le m (A.num c))))) (K (ak nx (A.toN u) (A.toN m)) (TT h nx k o (A.toN m*ei.size)) (nx+1))
    |_,_=>False)
   |.slice none 0 0,some (.int _ 0)=>(match isZero lo,hi with|true,some (.int _ 0)=>K (.slice none 0 0) h nx|_,_=>False)
   |_,_=>False)
 |_=>False
section
variable {P:Program}{T:dN}{ι:Nat->Loc}{B nx:Nat}{h:Heap}
def QW:Option Value->Option Nat
 |none=>some 0
 |some (.int _ i)=>if 0<=i then some i.toNat else none
 |_=>none
def YR (n c:Nat):Option Value->Option Nat
 |none=>some n
 |some (.int _ i)=>if 0<=i/\i<=c then some i.toNat else none
 |_=>none
theorem mE {t e:TypeId}{s:Nat}(ht:P.underlying t=some (.slice e))(w:World)(hs:(sizeOf e).run P w=.ok s w)(a:Option Addr){n c:Nat}{lo hi:Option Value}{l hN:Nat}
  (hl:QW lo=some l) (hh:YR n c hi=some hN) (hle:l<=hN) :
  (Instr.sliceAt t (.slice a n c) lo hi none).run P w=.ok (.slice (if c=l then a else a.map (·.add (l*s))) (hN - l) (c - l)) w:=by
 have e1:(match hi with|some v=>Instr.sliceBound v c .sliceAcap|none=>pure n:Sem Nat).run P w=.ok hN w:=by
  cases hi with
  |none=>simp[YR]at hh;subst hh;simp
  |some v =>
   cases v <;> simp only[YR]at hh <;> try(cases hh;done)
   rename_i k i;split at hh
   ·rename_i hb;injection hh with hh;subst hh;simp[run_sliceBound_if,hb]
   ·cases hh
 have e2:(match lo with|some v=>Instr.sliceBound v hN .sliceB|none=>pure 0:Sem Nat).run P w=.ok l w:=by
  cases lo with
  |none=>simp[QW]at hl;subst hl;simp
  |some v =>
   cases v <;> simp only[QW]at hl <;> try(cases hl;done)
   rename_i k i;split at hl
   ·rename_i hb;injection hl with hl;subst hl;have:0<=i/\i<=hN:=⟨hb,aa⟩;simp[run_sliceBound_if,this]
   ·cases hl
 have e3:(Instr.sliceBounds true n c lo hi none).run P w=.ok (l,hN,c) w:=by
  unfold Instr.sliceBounds;cases hi with
  |none =>
   simp at e1;subst e1;cases lo with
   |none=>simp at e2;subst e2;simp
   |some v=>simp at e2 ⊢;rw[e2];simp
  |some v =>
   simp at e1;cases lo with
   |none=>simp at e2;subst e2;simp[e1]
   |some v=>simp at e2 ⊢;rw[e1];simp[e2]
 simp only[Instr.sliceAt,Sem.run_bind,run_underlying ht,Result.andThen_ok,Instr.slice,e3,hs,Sem.run_pure]
theorem aLR {n c:Nat}{hi:Option Value}{G:Nat->Prop}(hl:vhi aF n c hi G):∃ hN,G hN/\(∀ c',c<=c'->YR n c' (hi.map (tr ι))=some hN)/\(hN=n\/hN<=c):=by
 unfold vhi at hl;split at hl
 ·exact⟨n,hl,fun _ _=>rfl,.inl rfl⟩
 ·rename_i k i;obtain⟨hb,hG⟩:=aH.1 hl;simp only[aF,af,ag]at hb hG;refine⟨i.toNat,hG,fun c' hc=>?_,.inr aa⟩;simp only[Option.map_some,jW,YR];rw[if_pos ⟨hb.1,aa⟩]
 exact hl.elim
theorem EW {lo:Option Value}(h:isZero lo=true):QW (lo.map (tr ι))=some 0:=by
 unfold isZero at h;split at h
 ·rfl
 ·rfl
 ·cases h
theorem aDf {hi:Option Value}{c:Nat}(h:isZero hi=true):YR 0 c (hi.map (tr ι))=some 0:=by
 unfold isZero at h;split at h
 ·rfl
 ·simp[YR,jW]
 ·cases h
def Names (P:Program)(ι:Nat->Loc)(B nx:Nat)(w0:World)(h:Heap)(m:Sem Value)(K:KE):Prop :=
 ∃ v h' nx' ι',K v h' nx'/\fU ι' nx' v/\(∀ k,k<nx->ι' k=ι k)/\nx<=nx'/\∀ w,aY ι B h nx w->aY ι' B h' nx' w/\m.run P w=.ok (tr ι' v) w
theorem aBL {w:World}(H:aY ι B h nx w){k b off ex q r x:Nat}(hι:ι k=.lay b off ex)(hx:(r=0/\x<=off+q)\/x=off+q):aY (ins ι nx (.lay b x 0)) B (TT h nx k q r) (nx+1) w:=by
 unfold TT;have hmem:∀{cs:List Value} {v:Value},v∈(cs.drop q).take r->v∈cs:=fun hv=>List.mem_of_mem_drop (List.mem_of_mem_take hv);have hget:∀{cs:List Value} {i:Nat} {v:Value},((cs.drop q).take r)[i]? = some v->x=off+q/\cs[q+i]? = some v:=fun{cs i v} hv=>by
  rw[List.getElem?_take]at hv;split at hv
  ·rename_i hlt;rw[List.getElem?_drop]at hv;exact⟨aa,hv⟩
  ·cases hv
 split
 ·rename_i g sz cs hk;split
  ·rename_i hq;have hq:=Nat.le_of_ble_eq_true hq;obtain⟨h1,h2,arr,t,h3,h4,h5⟩:m3 ι B w (.cells true g sz cs) (.lay b off ex):=hι▸H.obj k _ hk;refine(H.rem k).add _ _ ⟨h1,fun hg=>r7 fun v hv=>a9 (h2 hg) (hmem hv),arr,t,h3,?_,fun i v hv=>?_⟩ ?_ (fun j o' hj _ b' hb he=>?_)
   ·have:((cs.drop q).take r).length=r:=(by simp;omega);rw[this];rcases hx with⟨h6,h7⟩|h6
    ·omega
    omega
   ·obtain⟨h6,h7⟩:=hget hv;have hs:=H.sc k _ hk v (hmem (List.mem_of_getElem? hv));rw[oT (ι:=ι) (fun j hj=>dE _ _ hj) hs,h6,Nat.add_assoc];exact h5 _ _ h7
   ·exact fun v hv=>kG aa (fun j hj=>dE _ _ hj) (H.sc k _ hk v (hmem hv))
   have hjk:k≠j:=fun e=>by
    subst e;rw[dO]at hj;simp at hj
   have hj':aw h j=some o':=by
    rw[dO]at hj;split at hj
    ·cases hj
    exact hj
   refine H.sep k j _ o' hk hj' hjk rfl b' ?_ he;rw[hι];exact hb
  exact H.more _
 ·rename_i g sz cs hk;obtain⟨h1,h2,h5⟩:m3 ι B w (.cells false g sz cs) (.lay b off ex):=hι▸H.obj k _ hk;refine H.add _ _ ⟨h1,fun hg=>r7 fun v hv=>a9 (h2 hg) (hmem hv),fun i v hv=>?_⟩ ?_ (fun j o' hj ha b' hb he=>?_)
  ·obtain⟨h6,h7⟩:=hget hv;have hs:=H.sc k _ hk v (hmem (List.mem_of_getElem? hv));rw[oT (ι:=ι) (fun j hj=>dE _ _ hj) hs,h6,Nat.add_assoc];exact h5 _ _ h7
  ·exact fun v hv=>kG aa (fun j hj=>dE _ _ hj) (H.sc k _ hk v (hmem hv))
  have hb2:(ι k).F9=some b':=(by rw[hι];exact hb);rcases ha with ha|ha
  ·cases ha
  by_cases hjk:j=k
  ·subst hjk;rw[hk]at hj;injection hj with hj;subst hj;cases ha
  exact H.sep j k o' _ hj hk hjk ha b' he hb2
 exact H.more _
theorem N9 (hT:dJ P T){t:TypeId}{x:Value}{lo hi mx:Option Value}{K:KE}(hl:xO aF T h nx t x lo hi mx K)(hx:fU ι nx x){w0:World}(H0:aY ι B h nx w0) :
  Names P ι B nx w0 h (Instr.sliceAt t (tr ι x) (lo.map (tr ι)) (hi.map (tr ι)) (mx.map (tr ι))) K:=by
 unfold xO at hl;split at hl
 case h_2=>exact hl.elim
 rename_i e s1 b1 z1 ht;split at hl
 ·exact hl.elim
 rename_i ei he;have hti:=hT t _ ht;have hei:=hT e _ he;have hts:=hti.sl rfl;split at hl
 ·split at hl
  case h_2=>exact hl.elim
  rename_i hz1 hz2;refine⟨_,_,_,ι,hl,by simp[fU,mS,jJ,rG],fun _ _=>rfl,ah _,fun w H=>⟨H,?_⟩⟩;rw[dS,Option.map_none,mE hts w (hei.sizeOf w) none (EW hz1) (aDf hz2) (ah _)];simp
 ·rename_i k o n c;have hx':k<nx/\((ι k).jD=false->n=0/\c=0):=hx;obtain⟨hN,hG,hhi,hle⟩:=aLR (ι:=ι) hl;split at hG
  ·refine⟨_,_,_,ι,hG,⟨hx'.1,fun e=>?_⟩,fun _ _=>rfl,ah _,fun w H=>⟨H,?_⟩⟩
   ·have:=hx'.2 e;omega
   ·cases hι:ι k with
    |nil p =>
     obtain⟨rfl,rfl⟩:=hx'.2 (by rw[hι];rfl);have h0:hN=0:=aa;subst h0;simp only[tr,eK,cF,eM,hι,Option.map_none];rw[mE hts w (hei.sizeOf w) p (l:=0) rfl (hhi 0 (ah _)) (ah _)];simp
    |lay b off ex =>
     simp only[tr,eK,cF,eM,hι,Option.map_none];rw[mE hts w (hei.sizeOf w) _ (l:=0) rfl (hhi (c+ex) aa) (Nat.zero_le _)];simp[Addr.add_zero']
  ·rename_i kk l;obtain⟨hb,hG⟩:=aH.1 hG;simp only[aF,af,ag]at hb;obtain⟨hb,hbc⟩:=hb;have hlo:QW ((some (Value.int kk l)).map (tr ι))=some l.toNat:=(by simp[QW,jW,hb.1]);split at hG
   ·rename_i wr g sz cs hk;rcases rA hG with⟨hb2,hG⟩|⟨hb2,hG⟩
    ·simp only[aF,ag]at hb2 hG;refine⟨_,_,_,ι,hG,⟨hx'.1,fun e=>?_⟩,fun _ _=>rfl,ah _,fun w H=>⟨H,?_⟩⟩
     ·have:=hx'.2 e;omega
     ·cases hι:ι k with
      |nil p=>have:=hx'.2 (by rw[hι];rfl);omega
      |lay b off ex =>
       simp only[tr,eK,cF,eM,hι,Option.map_none];rw[mE hts w (hei.sizeOf w) _ hlo (hhi (c+ex) aa) aa,if_neg aa];simp only[Option.map_some,Addr.add_lit,Nat.add_assoc];congr 2;omega
    simp only[aF,decide_eq_false_iff_not]at hb2 hG;cases hι:ι k with
    |nil p =>
     obtain⟨rfl,rfl⟩:=hx'.2 (by rw[hι];rfl);have h0:hN=0:=aa;subst h0;have hl0:l=0:=aa;subst hl0;refine⟨_,_,_,ins ι nx (.nil p),hG,⟨by simp,fun _=>⟨rfl,rfl⟩⟩,fun k hk=>dE _ _ hk,aa,fun w H=>⟨H.more _,?_⟩⟩;simp only[tr,eK,cF,eM,hι,Option.map_none,bZ];rw[mE hts w (hei.sizeOf w) p (l:=0) (by simp[QW,jW]) (hhi 0 (ah _)) (ah _)];simp
    |lay b off ex =>
     refine⟨_,_,_,ins ι nx (.lay b (off+o+(if c+ex=l.toNat then 0 else l.toNat*ei.size)) ex),hG,⟨by simp,fun e=>by rw[bZ]at e;cases e⟩,fun k hk=>dE _ _ hk,aa,fun w H=>⟨H.more _,?_⟩⟩;simp only[tr,eK,cF,eM,hι,Option.map_none,bZ];rw[mE hts w (hei.sizeOf w) _ hlo (hhi (c+ex) aa) aa];have e1:hN - l.toNat=0:=aa;have e2:c+ex - l.toNat=ex:=aa;rw[e1,e2];by_cases hce:c+ex=l.toNat
     ·rw[if_pos hce,if_pos hce];simp only[Nat.add_zero,Nat.zero_add]
     rw[if_neg hce,if_neg hce];simp only[Option.map_some,Addr.add_lit,Nat.add_zero,Nat.zero_add]
   exact hG.elim
  exact hG.elim
 ·rename_i k o n c kk;split at hl
  case h_2=>exact hl.elim
  rename_i kk' hz;have hx':k<nx/\((ι k).jD=false->n=0/\c=0):=hx;have hsl:∀(w:World) (a:Option Addr) (m c':Nat),(Instr.sliceAt t (.slice a m c') (lo.map (tr ι)) (some (.int kk' 0)) (some (.int kk 0))).run P w=.ok (.slice a 0 0) w:=by
   intro w a m c';have e1:=EW (ι:=ι) hz;generalize lo.map (tr ι)=lo' at e1;cases lo' with
   |none =>
    simp[Instr.sliceAt,run_underlying hts,Instr.slice,Instr.sliceBounds,Instr.sliceBound,asIntOf,hei.sizeOf]
   |some v =>
    cases v <;> simp only[QW]at e1 <;> try(cases e1;done)
    rename_i k3 i;split at e1
    case isFalse=>cases e1
    have:i=0:=(by injection e1;omega);subst this;simp[Instr.sliceAt,run_underlying hts,Instr.slice,Instr.sliceBounds,Instr.sliceBound,asIntOf,hei.sizeOf]
  obtain⟨p,hp⟩:∃ p,∀ m c',∃ m' c'',tr ι (.slice (some ⟨k,o,none⟩) m c')=.slice p m' c'':=by
   cases hι:ι k with
   |nil p=>exact⟨p,fun m c'=>⟨m,c',by simp[tr,eK,cF,eM,hι]⟩⟩
   |lay b off ex=>exact⟨some ⟨b,off+o,none⟩,fun m c'=>⟨m,c'+ex,by simp[tr,eK,cF,eM,hι]⟩⟩
  refine⟨_,_,_,ins ι nx (.nil p),hl,⟨by simp,fun _=>by simp⟩,fun k hk=>dE _ _ hk,aa,fun w H=>⟨?_,?_⟩⟩
  ·exact H.add .zero (.nil p) trivial trivial (fun k' o' _ _ b hb=>by cases hb)
  obtain⟨m',c'',e1⟩:=hp n c;rw[e1];have e2:tr (ins ι nx (.nil p)) (ak nx 0 0)=.slice p 0 0:=(by simp[tr,eK,cF,eM,bZ]);rw[e2];exact hsl w _ _ _
 ·rename_i k o n c kk m hm0;split at hl
  case h_3=>exact hl.elim
  case h_2 =>
   rename_i k2 u;obtain⟨hb,hG⟩:=aH.1 hl;simp only[aF,af,ag]at hb hG;obtain⟨hb2,hb3,hb4,hb5⟩:=hb;have hx':k<nx/\((ι k).jD=false->n=0/\c=0):=hx;cases hι:ι k with
   |nil p =>
    have:=(hx'.2 (by rw[hι];rfl)).2;omega
   |lay b off ex =>
    refine⟨_,_,_,ins ι nx (.lay b (off+o) 0),hG,⟨by simp,fun e=>by rw[bZ]at e;cases e⟩,fun k hk=>dE _ _ hk,aa,fun w H=>⟨aBL H hι (.inr rfl),?_⟩⟩;have e1:tr ι (.slice (some ⟨k,o,none⟩) n c)=.slice (some ⟨b,off+o,none⟩) n (c+ex):=(by simp[tr,eK,cF,eM,hι]);have e2:∀ n c,tr (ins ι nx (.lay b (off+o) 0)) (ak nx n c)=.slice (some ⟨b,off+o,none⟩) n c:=fun n c=>(by simp[tr,eK,cF,eM,bZ]);rw[e1,e2];simp only[Option.map_some,Option.map_none,jW];have b1:∀(hi2:Nat) (wh:_),m<=(hi2:Int)->(Instr.sliceBound (.int kk m) hi2 wh).run P w=.ok m.toNat w:=fun hi2 wh hh=>by
     simp[run_sliceBound_if,show 0<=m/\m<=(hi2:Int)from⟨aa,hh⟩]
    have b2:∀(hi2:Nat) (wh:_),u<=(hi2:Int)->(Instr.sliceBound (.int k2 u) hi2 wh).run P w=.ok u.toNat w:=fun hi2 wh hh=>by
     simp[run_sliceBound_if,show 0<=u/\u<=(hi2:Int)from⟨aa,hh⟩]
    simp only[Instr.sliceAt,Sem.run_bind,run_underlying hts,Result.andThen_ok,Instr.slice,Instr.sliceBounds,b1 (c+ex) _ aa,b2 m.toNat _ aa,hei.sizeOf,Sem.run_pure];have hm1:m.toNat≠0:=aa;simp[hm1,Addr.add_lit,Nat.add_assoc]
  rename_i k1 l k2 u;obtain⟨hb,hG⟩:=aH.1 hl;simp only[aF,af,ag]at hb hG;obtain⟨⟨hb1,hb2⟩,hb3,hb4,hb5⟩:=hb;have hx':k<nx/\((ι k).jD=false->n=0/\c=0):=hx;cases hι:ι k with
  |nil p =>
   have:=(hx'.2 (by rw[hι];rfl)).2;omega
  |lay b off ex =>
   refine⟨_,_,_,ins ι nx (.lay b (off+o+(if m.toNat=l.toNat then 0 else l.toNat*ei.size)) 0),hG,⟨by simp,fun e=>by rw[bZ]at e;cases e⟩,fun k hk=>dE _ _ hk,aa,fun w H=>⟨aBL H hι (by rcases Nat.eq_zero_or_pos (m.toNat - l.toNat)with h0|h0 <;> first|(rw[if_pos aa];exact .inl ⟨by rw[h0,Nat.zero_mul],aa⟩)|(rw[if_neg aa];exact .inr aa)),?_⟩⟩;have e1:tr ι (.slice (some ⟨k,o,none⟩) n c)=.slice (some ⟨b,off+o,none⟩) n (c+ex):=(by simp[tr,eK,cF,eM,hι]);have e2:∀ n c,tr (ins ι nx (.lay b (off+o+(if m.toNat=l.toNat then 0 else l.toNat*ei.size)) 0)) (ak nx n c)=.slice (some ⟨b,off+o+(if m.toNat=l.toNat then 0 else l.toNat*ei.size),none⟩) n c:=fun n c=>(by simp[tr,eK,cF,eM,bZ]);rw[e1,e2];simp only[Option.map_some,jW];have b1:∀(hi2:Nat) (wh:_),m<=(hi2:Int)->(Instr.sliceBound (.int kk m) hi2 wh).run P w=.ok m.toNat w:=fun hi2 wh hh=>by
    simp[run_sliceBound_if,show 0<=m/\m<=(hi2:Int)from⟨aa,hh⟩]
   have b2:∀(hi2:Nat) (wh:_),u<=(hi2:Int)->(Instr.sliceBound (.int k2 u) hi2 wh).run P w=.ok u.toNat w:=fun hi2 wh hh=>by
    simp[run_sliceBound_if,show 0<=u/\u<=(hi2:Int)from⟨aa,hh⟩]
   have b3:∀(hi2:Nat) (wh:_),l<=(hi2:Int)->(Instr.sliceBound (.int k1 l) hi2 wh).run P w=.ok l.toNat w:=fun hi2 wh hh=>by
    simp[run_sliceBound_if,show 0<=l/\l<=(hi2:Int)from⟨aa,hh⟩]
   simp only[Instr.sliceAt,Sem.run_bind,run_underlying hts,Result.andThen_ok,Instr.slice,Instr.sliceBounds,b1 (c+ex) _ aa,b2 m.toNat _ aa,b3 u.toNat _ aa,hei.sizeOf,Sem.run_pure];by_cases hml:m.toNat=l.toNat
   ·simp[hml]
   simp[hml,Addr.add_lit,Nat.add_assoc]
 ·rename_i kk;split at hl
  case h_2=>exact hl.elim
  rename_i kk' hz;refine⟨_,_,_,ι,hl,by simp[fU,mS,jJ,rG],fun _ _=>rfl,ah _,fun w H=>⟨H,?_⟩⟩;rw[dS];show(Instr.sliceAt t (.slice none 0 0) (lo.map (tr ι)) (some (.int kk' 0)) (some (.int kk 0))).run P w=_;have e1:=EW (ι:=ι) hz;generalize lo.map (tr ι)=lo' at e1;cases lo' with
  |none =>
   simp[Instr.sliceAt,run_underlying hts,Instr.slice,Instr.sliceBounds,Instr.sliceBound,asIntOf,hei.sizeOf]
  |some v =>
   cases v <;> simp only[QW]at e1 <;> try(cases e1;done)
   rename_i k3 i;split at e1
   case isFalse=>cases e1
   have:i=0:=(by injection e1;omega);subst this;simp[Instr.sliceAt,run_underlying hts,Instr.slice,Instr.sliceBounds,Instr.sliceBound,asIntOf,hei.sizeOf]
 exact hl.elim
end
def NA (h:Heap)(sz:Nat)(x:Value)(G:Nat->List Value->Prop):Prop :=
 match x with
 |.slice none 0 0=>G 0 []
 |.slice (some ⟨k,o,none⟩) m _ =>
  (match aw h k with
  |some (.cells _ _ _ cs)=>eF (Nat.ble (o+m*sz) cs.length) (G m ((cs.drop o).take (m*sz)))
  |some .zero=>(match m with|0=>G 0 []|_=>False)
  |none=>(match m with|0=>G 0 []|_=>False)
  |_=>False)
 |_=>False
def lW (A:Ar)(T:dN)(h:Heap)(nx:Nat)(t:TypeId)(l c:Value)(K:KE):Prop :=
 match aw T t,l,c with
 |some { kind:=.sl e,.. },.int .i64 i,.int .i64 j =>
  (match aw T e with
  |some ei=>eF (A.andB (A.andB (A.le 0 i) (A.le i j)) (A.andB (A.le j 1000000000) (Nat.ble ei.bytes 1000)))
   (K (ak nx (A.toN i) (A.toN j)) (cO h nx (.cells true false ei.size (rep (A.toN j) ei.zv.cells.toList))) (nx+1))
  |none=>False)
 |_,_,_=>False
def oA (A:Ar)(T:dN)(h:Heap)(nx:Nat)(st xt:TypeId)(s x:Value)(K:KE):Prop :=
 match aw T st,aw T xt with
 |some { kind:=.sl e,.. },some { kind:=.int _,.. } =>
  (match aw T e with
  |some ei=>(match s,x,Nat.ble ei.bytes 1000 with
   |.slice none 0 0,.int .i64 i,true=>eF (A.andB (A.lt 0 i) (A.le i 1000000000)) (K (ak nx (A.toN i) (A.toN i)) (cO h nx (.cells true false ei.size (rep (A.toN i) ei.zv.cells.toList))) (nx+1))
   |_,_,_=>False)
  |none=>False)
 |some { kind:=.sl e,.. },some { kind:=.sl _,.. } =>
  (match aw T e with
  |none=>False
  |some ei =>
   match Nat.ble ei.bytes 1000 with
   |false=>False
   |true =>
    NA h ei.size x fun m src =>
     (match s with
     |.slice none 0 0=>br (Nat.beq m 0) (fun _=>K (.slice none 0 0) h nx)
      (fun _=>eF (Nat.ble m 1000000000) (K (ak nx m m) (cO h nx (.cells true false ei.size src)) (nx+1)))
     |.slice (some ⟨k,o,none⟩) n c =>
      (match aw h k with
      |some .zero=>(match n,c with
       |0,0=>br (Nat.beq m 0) (fun _=>K (.slice (some ⟨k,o,none⟩) 0 0) h nx)
        (fun _=>eF (Nat.ble m 1000000000) (K (ak nx m m) (cO h nx (.cells true false ei.size src)) (nx+1)))
       |_,_=>False)
      |some (.cells true _ sz cs) =>
       br (Nat.ble (n+m) c)
        (fun _=>eF (Nat.ble (o+(n+m)*ei.size) cs.length) (K (.slice (some ⟨k,o,none⟩) (n+m) c) (xQ h k (.cells true false sz (bU cs (o+n*ei.size) src))) nx))
        (fun _=>eF (A.andB (A.andB (Nat.ble (n+m) 1000000000) (Nat.ble (o+n*ei.size) cs.length)) (A.andB (Nat.beq (o+c*ei.size) cs.length) (Nat.beq sz ei.size)))
         (K (ak nx (n+m) (n+m)) (cO (rem h k) nx (.cells true false ei.size ((cs.drop o).take (n*ei.size)++src))) (nx+1)))
      |_=>False)
     |_=>False))
 |_,_=>False
section
variable {P:Program}{T:dN}{ι:Nat->Loc}{B nx:Nat}{h:Heap}
theorem aY.drawn {w:World}(H:aY ι B h nx w)(c:Nat):aY ι B h nx { w with drawn:=c } :=
 H.FX (fun _ _ _ _ _=>rfl) (ah _)
theorem aY.win {w:World}(H:aY ι B h nx w){k:Nat}{wr g:Bool}{sz:Nat}{cs:List Value}(hk:aw h k=some (.cells wr g sz cs)){b off e:Nat}(hι:ι k=.lay b off e){o n:Nat}(hl:o+n<=cs.length) :
  (loadCells ⟨b,off+o,none⟩ n).run P w=.ok (((cs.drop o).take n).map (cF ι)).toArray w:=by
 have hlen:(((cs.drop o).take n).map (cF ι)).length=n:=(by simp;omega);have:=run_loadCells_list (P:=P) w ⟨b,off+o,none⟩ (((cs.drop o).take n).map (cF ι)) (fun j v hj=>by
  obtain⟨u,hu,rfl⟩:=rW hj;rw[List.getElem?_take]at hu;split at hu
  case isFalse=>cases hu
  rw[List.getElem?_drop]at hu;obtain⟨b',off',e',hι',hc⟩:=H.cell hk hu;rw[hι]at hι';injection hι' with e1 e2 e3;subst e1;subst e2;rw[Addr.add_lit,Nat.add_assoc];exact hc)
 rwa [hlen]at this
theorem aHn {sz:Nat}{x:Value}{G:Nat->List Value->Prop}(hl:NA h sz x G)(hx:fU ι nx x){w:World}(H:aY ι B h nx w) :
  ∃ m src,G m src/\src.length=m*sz/\(∀ v∈src,jJ ι nx v)/\Src P w sz (tr ι x) m (src.map (cF ι)):=by
 unfold NA at hl;split at hl
 ·exact⟨0,[],hl,by simp,by simp,⟨by simp[dS,Builtin.lenOf],fun c=>by simp[dS,Builtin.firstCells]⟩⟩
 ·rename_i k o m c;have hx':k<nx/\((ι k).jD=false->m=0/\c=0):=hx;split at hl
  ·rename_i wr g sz' cs hk;obtain⟨hb,hG⟩:=aH.1 hl;have hb:=Nat.le_of_ble_eq_true hb;refine⟨m,_,hG,by simp;omega,fun v hv=>H.sc k _ hk v (List.mem_of_mem_drop (List.mem_of_mem_take hv)),?_⟩;cases hι:ι k with
   |nil p =>
    obtain⟨rfl,rfl⟩:=hx'.2 (by rw[hι];rfl);refine⟨by simp[tr,eK,cF,eM,hι,Builtin.lenOf],fun c=>?_⟩;cases p with
    |none=>simp[tr,eK,cF,eM,hι,Builtin.firstCells]
    |some p=>simp[tr,eK,cF,eM,hι,Builtin.firstCells,loadCells,loadCellsFrom]
   |lay b off e =>
    refine⟨by simp[tr,eK,cF,eM,hι,Builtin.lenOf],fun c=>?_⟩;simp only[tr,eK,cF,eM,hι,Builtin.firstCells];exact(H.drawn c).win hk hι hb
  ·rename_i hk;split at hl
   case h_2=>exact hl.elim
   refine⟨0,[],hl,by simp,by simp,?_⟩;have hob:=H.obj k _ hk;cases hι:ι k with
   |nil p =>
    refine⟨by simp[tr,eK,cF,eM,hι,Builtin.lenOf],fun c=>?_⟩;cases p with
    |none=>simp[tr,eK,cF,eM,hι,Builtin.firstCells]
    |some p=>simp[tr,eK,cF,eM,hι,Builtin.firstCells,loadCells,loadCellsFrom]
   |lay b off e=>rw[hι]at hob;exact hob.elim
  ·rename_i hk;split at hl
   case h_2=>exact hl.elim
   refine⟨0,[],hl,by simp,by simp,?_⟩;cases hι:ι k with
   |nil p =>
    refine⟨by simp[tr,eK,cF,eM,hι,Builtin.lenOf],fun c=>?_⟩;cases p with
    |none=>simp[tr,eK,cF,eM,hι,Builtin.firstCells]
    |some p=>simp[tr,eK,cF,eM,hι,Builtin.firstCells,loadCells,loadCellsFrom]
   |lay b off e =>
    refine⟨by simp[tr,eK,cF,eM,hι,Builtin.lenOf],fun c=>?_⟩;simp[tr,eK,cF,eM,hι,Builtin.firstCells,loadCells,loadCellsFrom]
  exact hl.elim
 exact hl.elim
theorem aY.grown {w:World}(H:aY ι B h nx w)(e:TypeId)(cs:List Value)(sz cap need:Nat)(zs:List Value)(hz:zs.length=(cap - need)*sz)(hs:∀ v∈cs,jJ ι nx v) :
  aY (ins ι nx (.lay w.heap.size 0 (cap - need))) B (cO h nx (.cells true false sz cs)) (nx+1) (w.alloc (.cells (cs.map (cF ι)++zs).toArray e)):=by
 refine(H.ext (eP w _)).add _ _ ?_ ?_ (fun k o' hk _ b hb e'=>?_)
 ·refine⟨H.size,by simp,_,e,(MapKept.heap_alloc w _).1,by simp[hz],fun i v hv=>?_⟩;have hlt:=(List.getElem?_eq_some_iff.1 hv).1;rw[Nat.zero_add,List.getElem?_toArray,List.getElem?_append_left (by simpa using hlt),List.getElem?_map,hv];simp only[Option.map_some];rw[oT (ι:=ι) (fun k hk=>dE _ _ hk) (hs v (List.mem_of_getElem? hv))]
 ·intro v hv;exact kG aa (fun k hk=>dE _ _ hk) (hs v hv)
 have h1:=(H.obj k o' hk).lt e';have:w.heap.size=b:=(by simpa[Loc.F9]using hb);omega
theorem UN {cs:List Value}{o:Nat}:bU cs o []=cs:=by simp[bU]
theorem aY.aPV {w:World}(H:aY ι B h nx w){k:Nat}{g:Bool}{sz:Nat}{cs:List Value}(hk:aw h k=some (.cells true g sz cs)){b off e:Nat}(hι:ι k=.lay b off e){o:Nat}{vs:List Value}(ho:o+vs.length<=cs.length)
  (hs:∀ v∈vs,jJ ι nx v) :
  ∃ w',(storeCells ⟨b,off+o,none⟩ (vs.map (cF ι))).run P w=.ok () w'/\jO B w w'/\aY ι B (xQ h k (.cells true false sz (bU cs o vs))) nx w':=by
 by_cases hne:vs=[]
 ·subst hne;refine⟨w,by simp[storeCells],jO.refl _ _,?_⟩;rw[UN];have hob:=H.obj k _ hk;rw[hι]at hob;refine H.set hk rfl ?_ (fun v hv=>H.UA hk hv) rfl (fun _ _=>rfl) (ah _);rw[hι];exact⟨hob.1,by simp,hob.2.2⟩
 obtain⟨b',off',e',w',hι',h1,h2,h3⟩:=H.put (P:=P) hk ho hs hne;rw[hι]at hι';injection hι' with e1 e2 e3;subst e1;subst e2;exact⟨w',h1,h2,h3⟩
end
section
variable {P:Program}{T:dN}{ι:Nat->Loc}{B nx:Nat}{h:Heap}
theorem L7 {sz m:Nat}{src:List Value}(h1:src.length=m*sz)(h0:m=0):src=[]:=by
 subst h0;cases src with
 |nil=>rfl
 |cons a r=>simp at h1
theorem rU {st xt e:TypeId}{ei si:WE}{d:TypeDesc}(hds:P.underlying st=some (.slice e))(hdx:P.underlying xt=some d)(hd:∀ k,d≠.int k)(hT:dJ P T)(he:aw T e=some ei)(hby:ei.bytes<=1000)
  {ty:TypeId} {x:Value} {m:Nat} {src olds:List Value} (hlen:src.length=m*ei.size) (hsc:∀ v∈src,jJ ι nx v)
  {w:World} (H:aY ι B h nx w) (hsrc:Src P w ei.size x m (src.map (cF ι))) {base:Option Addr} {n c:Nat} (hlo:olds.length=n*ei.size) (hos:∀ v∈olds,jJ ι nx v)
  (hold:(Builtin.firstCells ei.size n (.slice base n c)).run P w.drew=.ok (olds.map (cF ι)).toArray w.drew) (hroom:c<n+m) (hm:n+m<=1000000000) {K:KE}
  (hK:K (ak nx (n+m) (n+m)) (cO h nx (.cells true false ei.size (olds++src))) (nx+1)) :
  PV P ι B nx w (Builtin.append_ #[st,xt] ty #[.slice base n c,x]) K:=by
 have hei:=hT e _ he;obtain⟨inf,hi,h1,h2,h3⟩:=hei.info;obtain⟨cap,hc,hrun⟩:=MP (ty:=ty) hds hdx hd hi h3 w base n c m x (src.map (cF ι)) (olds.map (cF ι)) (by rw[h1];exact hsrc) (by rw[h1];exact hold) hroom aa hm;have H':aY ι B h nx w.drew:=H.drawn _;have hg:=H'.grown e (olds++src) ei.size cap (n+m) (Builtin.zeroCells ei.zv.cells (cap - (n+m))).toList (by
  rw[Array.length_toList,size_zeroCells,hei.zs]) (by
  intro v hv;rcases List.mem_append.1 hv with hv|hv
  ·exact hos v hv
  exact hsc v hv)
 refine⟨_,_,_,_,_,hK,?_,hg,?_,fun k hk=>dE _ _ hk,aa,?_⟩
 ·simp[fU,mS,jJ,rG,bZ,Loc.jD]
 ·exact jO.trans (⟨rfl,rfl,rfl,ah _,fun _ _=>rfl,Nat.le_succ _⟩:jO B w w.drew) ((eP w.drew _).mono H.size)
 rw[hrun];simp only[tr,eK,cF,eM,bZ,List.map_append,Nat.add_zero];congr 2
 ·omega
theorem NM (hT:dJ P T){t:TypeId}{l c:Value}{K:KE}(hl:lW aF T h nx t l c K){w:World}(H:aY ι B h nx w) :
  PV P ι B nx w (Instr.makeSlice t (tr ι l) (tr ι c)) K:=by
 unfold lW at hl;split at hl
 case h_2=>exact hl.elim
 rename_i e s1 b1 z1 i j ht;split at hl
 case h_2=>exact hl.elim
 rename_i ei he;obtain⟨hb,hK⟩:=aH.1 hl;simp only[aF,af,ag]at hb hK;obtain⟨⟨hb1,hb2⟩,hb3,hb4⟩:=hb;have hb4:=Nat.le_of_ble_eq_true hb4;have hts:=(hT t _ ht).sl rfl;have hei:=hT e _ he;obtain⟨inf,hi,hi1,hi2,hi3⟩:=hei.info;have hz:=tG hT he;have hrep:∀ v∈rep j.toNat ei.zv.cells.toList,gS v=true:=by
  intro v hv;simp only[rep,List.mem_flatten,List.mem_replicate]at hv;obtain⟨l,⟨_,rfl⟩,hv⟩:=hv;exact hz v hv
 have hcells:madeCells ei.zv.cells (j.toNat*inf.size)=(rep j.toNat ei.zv.cells.toList).toArray:=by
  have:=lI ei.zv.cells j.toNat;rw[<- this,hi1,<- hei.zs];rfl
 have h3:(inf.bytes:Int)*j<=281474976710656:=by
  have h3:inf.bytes*j.toNat<=1000*1000000000:=Nat.mul_le_mul aa aa;have h4:((inf.bytes*j.toNat:Nat):Int)=inf.bytes*j:=(by rw[Int.natCast_mul,Int.toNat_of_nonneg aa]);omega
 have hrun:=run_make (P:=P) w t e inf ei.zv hts hi hi3 .i64 .i64 i j hb1 hb2 h3 aa;have hf:=H.fresh e (madeCells ei.zv.cells (j.toNat*inf.size)) (rep j.toNat ei.zv.cells.toList) ei.size (by rw[hcells,qT hrep]) (fun v hv=>bM (hrep v hv));refine⟨_,_,_,_,_,hK,?_,hf,?_,fun k hk=>dE _ _ hk,aa,?_⟩
 ·simp[fU,mS,jJ,rG,bZ,Loc.jD]
 ·exact(eP w _).mono H.size
 rw[jW,jW,hrun];simp[tr,eK,cF,eM,bZ]
theorem ZO (hT:dJ P T){st xt ty:TypeId}{s x:Value}{K:KE}(hl:oA aF T h nx st xt s x K)(hs:fU ι nx s)(hx:fU ι nx x){w:World}(H:aY ι B h nx w) :
  PV P ι B nx w (Builtin.append_ #[st,xt] ty #[tr ι s,tr ι x]) K:=by
 unfold oA at hl;split at hl
 case h_3=>exact hl.elim
 case h_1 =>
  rename_i e s1 b1 z1 ik s2 b2 z2 hst hxt;split at hl
  case h_2=>exact hl.elim
  rename_i ei he;split at hl
  case h_2=>exact hl.elim
  rename_i i hby
  have hby:=Nat.le_of_ble_eq_true hby
  obtain⟨hb,hK⟩:=aH.1 hl;simp only[aF,af,ag]at hb hK;have hds:=(hT st _ hst).sl rfl;have hdx:=(hT xt _ hxt).int rfl;have hei:=hT e _ he;obtain⟨inf,hi,hi1,hi2,hi3⟩:=hei.info;have hz:=tG hT he;have hrep:∀ v∈rep i.toNat ei.zv.cells.toList,gS v=true:=by
   intro v hv;simp only[rep,List.mem_flatten,List.mem_replicate]at hv;obtain⟨l,⟨_,rfl⟩,hv⟩:=hv;exact hz v hv
  have hg:=(H.drawn (w.drawn+1)).grown e (rep i.toNat ei.zv.cells.toList) ei.size (grownCap w i.toNat 0 e) i.toNat (Builtin.zeroCells ei.zv.cells (grownCap w i.toNat 0 e - i.toNat)).toList (by
   rw[Array.length_toList,size_zeroCells,hei.zs]) (fun v hv=>bM (hrep v hv))
  refine⟨_,_,_,_,_,hK,?_,hg,?_,fun k hk=>dE _ _ hk,aa,?_⟩
  ·simp[fU,mS,jJ,rG,bZ,Loc.jD]
  ·exact jO.trans (⟨rfl,rfl,rfl,ah _,fun _ _=>rfl,Nat.le_succ _⟩:jO B w w.drew) ((eP w.drew _).mono H.size)
  have hn0:i.toNat≠0:=aa;have hpos:=hei.pos;have hns:¬(i.toNat*ei.size=0):=Nat.pos_iff_ne_zero.1 (Nat.mul_pos aa hpos);have hwr:IntKind.i64.wrap i=i:=IntWalk.i64_in i ⟨aa,aa⟩;have hfit:Builtin.nextslicecap i.toNat 0*inf.bytes<=281474976710656:=growslice_fits aa (by
   have:=Nat.mul_le_mul (aa:i.toNat<=1000000000) (aa:inf.bytes<=1000);omega)
  have c1:¬(i<0):=aa;have c2:¬(281474976710656<i*(inf.bytes:Int)):=by
   have h3:i.toNat*inf.bytes<=1000000000*1000:=Nat.mul_le_mul aa aa;have h4:((i.toNat*inf.bytes:Nat):Int)=i*inf.bytes:=(by rw[Int.natCast_mul,Int.toNat_of_nonneg aa]);omega
  have c3:¬(i.toNat=0):=hn0;have c4:¬(9223372036854775807<(i.toNat:Int)):=aa;have c5:¬(281474976710656<Builtin.nextslicecap i.toNat 0*inf.bytes):=aa;have c6:¬(i.toNat=0\/inf.size=0):=aa;have hz':(Builtin.zeroCells ei.zv.cells i.toNat).toList=rep i.toNat ei.zv.cells.toList:=lI _ _;rw[dS,jW];simp only[tr,eK,cF,eM,bZ,Nat.add_zero];simp[Builtin.append_,run_underlying hds,run_underlying hdx,sizeOf,typeInfo,zeroValue,asInt,asIntOf,hi,hi3,hwr,c1,c2,c3,c4,c5,c6,Question.forced,newRow,grownCap,Builtin.firstCells,qT hrep];have d1:¬(i<=0):=aa;have d2:¬(9223372036854775807<max i 0):=aa;have d3:¬(i.toNat*inf.size=0):=(by rw[hi1];exact hns);have d4:i.toNat+(grownCap w i.toNat 0 e - i.toNat)=grownCap w i.toNat 0 e:=by
   have:=grownCap_ge w i.toNat 0 e;omega
  simp only[grownCap]at d4;rw[if_neg d1,if_neg d2,if_neg d3,d4,<- hz',<- Array.toList_append]
 rename_i e s1 b1 z1 e' s2 b2 z2 hst hxt;split at hl
 ·exact hl.elim
 rename_i ei he;split at hl
 ·exact hl.elim
 rename_i hby
 have hby:=Nat.le_of_ble_eq_true hby
 have hds:=(hT st _ hst).sl rfl;have hdx:=(hT xt _ hxt).sl rfl;have hd:∀ k,TypeDesc.slice e'≠.int k:=fun k e=>(by cases e);have hei:=hT e _ he;obtain⟨inf,hi,hi1,hi2,hi3⟩:=hei.info;obtain⟨m,src,hG,hlen,hsc,hsrc⟩:=aHn (P:=P) hl hx H;have hfirst0:∀(p:Option Addr),(Builtin.firstCells ei.size 0 (.slice p 0 0)).run P w.drew=.ok (([]:List Value).map (cF ι)).toArray w.drew:=by
  intro p;cases p <;> simp[Builtin.firstCells,loadCells,loadCellsFrom]
 split at hG
 ·rcases rA hG with⟨hm,hK⟩|⟨hm,hK⟩
  ·have hm:=az hm;have:=L7 hlen hm;subst this;subst hm;refine⟨_,_,_,ι,w,hK,by simp[fU,mS,jJ,rG],H,jO.refl _ _,fun _ _=>rfl,ah _,?_⟩;rw[dS,lE hds hdx hd hi w none 0 0 0 (tr ι x) [] (by rw[hi1];exact hsrc) aa];rfl
  obtain⟨h1,hK⟩:=aH.1 hK;have hm:=ba hm;have h1:=Nat.le_of_ble_eq_true h1;rw[dS];exact rU (si:=ei) (olds:=[]) hds hdx hd hT he hby hlen hsc H hsrc (by simp) (by simp) (hfirst0 none) aa aa (by simpa using hK)
 ·rename_i k o n c;have hs':k<nx/\((ι k).jD=false->n=0/\c=0):=hs;split at hG
  ·rename_i hk;split at hG
   case h_2=>exact hG.elim
   have hob:=H.obj k _ hk;cases hι:ι k with
   |lay b off ex=>rw[hι]at hob;exact hob.elim
   |nil p =>
    have htr:tr ι (.slice (some ⟨k,o,none⟩) 0 0)=.slice p 0 0:=(by simp[tr,eK,cF,eM,hι]);rw[htr];rcases rA hG with⟨hm,hK⟩|⟨hm,hK⟩
    ·have hm:=az hm;have:=L7 hlen hm;subst this;subst hm;refine⟨_,_,_,ι,w,hK,hs,H,jO.refl _ _,fun _ _=>rfl,ah _,?_⟩;rw[htr,lE hds hdx hd hi w p 0 0 0 (tr ι x) [] (by rw[hi1];exact hsrc) aa];cases p <;> simp[storeCells]
    obtain⟨h1,hK⟩:=aH.1 hK;have hm:=ba hm;have h1:=Nat.le_of_ble_eq_true h1;exact rU (si:=ei) (olds:=[]) hds hdx hd hT he hby hlen hsc H hsrc (by simp) (by simp) (hfirst0 p) aa aa (by simpa using hK)
  ·rename_i g sz cs hk;rcases rA hG with⟨hm,hK⟩|⟨hm,hK⟩
   ·obtain⟨hb,hK⟩:=aH.1 hK;have hb:=Nat.le_of_ble_eq_true hb;have hm:=Nat.le_of_ble_eq_true hm;have hmul:(n+m)*ei.size=n*ei.size+m*ei.size:=Nat.add_mul _ _ _;cases hι:ι k with
    |nil p =>
     obtain⟨rfl,rfl⟩:=hs'.2 (by rw[hι];rfl);have hm0:m=0:=aa;have:=L7 hlen hm0;subst this;subst hm0;have htr:tr ι (.slice (some ⟨k,o,none⟩) 0 0)=.slice p 0 0:=(by simp[tr,eK,cF,eM,hι]);rw[UN]at hK;refine⟨_,_,_,ι,w,hK,by exact⟨hs'.1,fun _=>⟨rfl,rfl⟩⟩,?_,jO.refl _ _,fun _ _=>rfl,ah _,?_⟩
     ·refine H.set hk rfl ?_ (fun v hv=>H.UA hk hv) rfl (fun _ _=>rfl) (ah _);have hob:=H.obj k _ hk;rw[hι]at hob ⊢;exact hob
     rw[htr,lE hds hdx hd hi w p 0 0 0 (tr ι x) [] (by rw[hi1];exact hsrc) aa];cases p <;> simp[storeCells,tr,eK,cF,eM,hι]
    |lay b off ex =>
     obtain⟨w',h1,h2,h3⟩:=H.aPV (P:=P) hk hι (o:=o+n*ei.size) (vs:=src) aa hsc;have htr:∀ n c,tr ι (.slice (some ⟨k,o,none⟩) n c)=.slice (some ⟨b,off+o,none⟩) n (c+ex):=fun n c=>(by simp[tr,eK,cF,eM,hι]);refine⟨_,_,_,ι,w',hK,⟨hs'.1,fun h=>by rw[hι]at h;cases h⟩,h3,h2,fun _ _=>rfl,ah _,?_⟩;rw[htr,htr,lE hds hdx hd hi w (some ⟨b,off+o,none⟩) n (c+ex) m (tr ι x) (src.map (cF ι)) (by rw[hi1];exact hsrc) aa];simp only[hi1,Addr.add_lit,Nat.add_assoc]at h1 ⊢;rw[h1];rfl
   obtain⟨hb,hK'⟩:=aH.1 hK;clear hK;simp only[aF,af]at hb;obtain⟨⟨hb1,hb2⟩,hb3,hb4⟩:=hb;have hb1:=Nat.le_of_ble_eq_true hb1;have hb2:=Nat.le_of_ble_eq_true hb2;have hb3:=az hb3;have hb4:=az hb4;subst hb4;have hm:¬(n+m<=c):=fun hle=>by
    have:=Nat.ble_eq_true_of_le hle;rw[hm]at this;cases this
   have hmul:(n+m)*ei.size=n*ei.size+m*ei.size:=Nat.add_mul _ _ _;have hoc:∀ v∈(cs.drop o).take (n*ei.size),jJ ι nx v:=fun v hv=>H.UA hk (List.mem_of_mem_drop (List.mem_of_mem_take hv));have hol:((cs.drop o).take (n*ei.size)).length=n*ei.size:=(by simp;omega);cases hι:ι k with
   |nil p =>
    obtain⟨rfl,rfl⟩:=hs'.2 (by rw[hι];rfl);have htr:tr ι (.slice (some ⟨k,o,none⟩) 0 0)=.slice p 0 0:=(by simp[tr,eK,cF,eM,hι]);rw[htr];refine rU (si:=ei) (olds:=[]) hds hdx hd hT he hby hlen hsc (H.rem k) hsrc (by simp) (by simp) (hfirst0 p) aa aa ?_;simpa using hK'
   |lay b off ex =>
    have htr:tr ι (.slice (some ⟨k,o,none⟩) n c)=.slice (some ⟨b,off+o,none⟩) n (c+ex):=(by simp[tr,eK,cF,eM,hι]);rw[htr];by_cases hin:n+m<=c+ex
    ·-- in place,beyond what was known
     have hob:=H.obj k _ hk;rw[hι]at hob;obtain⟨hB,_,arr,t,a1,a2,a3⟩:=hob;have hone:∀ v∈src.map (cF ι),v.oneCell'=true:=by
      intro v hv;obtain⟨u,hu,rfl⟩:=List.mem_map.1 hv;exact(wR (hsc u hu)).1
     have hroom2:(n+m)*ei.size<=(c+ex)*ei.size:=Nat.mul_le_mul_right _ hin;have hcx:(c+ex)*ei.size=c*ei.size+ex*ei.size:=Nat.add_mul _ _ _;obtain⟨w',arr',e1,e2,e3,e4,e5⟩:=qF (P:=P) (off:=off+(o+n*ei.size)) (src.map (cF ι)) 0 w arr hone a1 (by simp;omega);have Hr:aY ι B (rem h k) nx w':=by
      refine(H.rem k).FX (fun j o' b' hj hb'=>e2.other b' (fun e=>?_)) (Nat.le_of_eq e2.size.symm);subst e;rw[dO]at hj;split at hj
      ·cases hj
      rename_i hjk;exact H.sep k j _ o' hk hj (fun e=>hjk e.symm) rfl b' (by rw[hι];rfl) hb'
     have hnew:=Hr.add (.cells true false ei.size ((cs.drop o).take (n*ei.size)++src)) (.lay b (off+o) (c+ex - (n+m))) (by
      refine⟨hB,by simp,arr',t,e3,?_,fun i v hv=>?_⟩
      ·have:(c+ex - (n+m))*ei.size=(c+ex)*ei.size - (n+m)*ei.size:=Nat.sub_mul _ _ _;rw[e4,List.length_append,hol,hlen];omega
      ·rw[e5];simp only[List.length_map,Nat.add_zero];have hmem:=List.mem_of_getElem? hv;have hscv:jJ ι nx v:=by
        rcases List.mem_append.1 hmem with hv|hv
        ·exact hoc v hv
        exact hsc v hv
       rw[oT (fun k hk=>dE _ _ hk) hscv];by_cases hi':i<n*ei.size
       ·rw[List.getElem?_append_left aa]at hv;rw[List.getElem?_take_of_lt hi',List.getElem?_drop]at hv;rw[if_neg aa,Nat.add_assoc];exact a3 _ v hv
       rw[List.getElem?_append_right aa,hol]at hv;have:=(List.getElem?_eq_some_iff.1 hv).1;rw[if_pos aa,(aa:off+o+i - (off+(o+n*ei.size))=i - n*ei.size),List.getElem?_map,hv];rfl) (by
      intro v hv;refine kG aa (fun k hk=>dE _ _ hk) ?_;rcases List.mem_append.1 hv with hv|hv
      ·exact hoc v hv
      ·exact hsc v hv) (by
      intro j o' hj _ b' hb';have:b=b':=(by simpa[Loc.F9]using hb');subst this;rw[dO]at hj;split at hj
      ·cases hj
      rename_i hjk;exact H.sep k j _ o' hk hj (fun e=>hjk e.symm) rfl b (by rw[hι];rfl))
     refine⟨_,_,_,_,w',hK',?_,hnew,e2.below hB,fun k hk=>dE _ _ hk,aa,?_⟩
     ·simp[fU,mS,jJ,rG,bZ,Loc.jD]
     rw[lE hds hdx hd hi w (some ⟨b,off+o,none⟩) n (c+ex) m (tr ι x) (src.map (cF ι)) (by rw[hi1];exact hsrc) hin];simp only[hi1,Addr.add_lit,Nat.add_assoc]at e1 ⊢;rw[e1];simp only[Result.andThen_ok,tr,eK,cF,eM,bZ,Nat.add_zero];congr 2;omega
    refine rU (si:=ei) (olds:=(cs.drop o).take (n*ei.size)) hds hdx hd hT he hby hlen hsc (H.rem k) hsrc hol hoc ?_ aa aa hK';simp only[Builtin.firstCells];exact(H.drawn _).win hk hι aa
  exact hG.elim
 exact hG.elim
end
def kP (T:dN)(cs:List Value):List (Nat × TypeId)->Bool
 |[]=>true
 |(o,t)::r=>match aw T t,nth cs o with
  |some fi,some _=>(match fi.kind with
   |.int _=>kP T cs r
   |.bool=>kP T cs r
   |_=>false)
  |_,_=>false
def wJ (A:Ar)(T:dN)(kt:TypeId)(key:Value):List (Value × Value)->Option (Option Value)
 |[]=>some none
 |(k,v)::r=>match veq A T 100 kt key k with
  |none=>none
  |some true=>some (some v)
  |some false=>wJ A T kt key r
def VD (h:Heap)(nx:Nat)(K:KE):Prop:=K (.map (some nx)) (cO h nx (.map [])) (nx+1)
def r6 (A:Ar)(T:dN)(h:Heap)(t:TypeId)(x key:Value)(ok:Bool)(K:Value->Prop):Prop :=
 match aw T t,x,key with
 |some { kind:=.mp kt et,.. },.map (some k),.agg cs =>
  (match aw T kt,aw T et,aw h k with
  |some { kind:=.st fs,.. },some ei,some (.map es) =>
   (match kP T cs.toList fs,dT cs.toList,wJ A T kt (.agg cs) es with
   |true,true,some r =>
    (match ok,r with
    |true,some v=>K (.tuple #[v,.bool true])
    |true,none=>K (.tuple #[ei.zv,.bool false])
    |false,some v=>K v
    |false,none=>K ei.zv)
   |_,_,_=>False)
  |_,_,_=>False)
 |_,_,_=>False
def lV (A:Ar)(T:dN)(h:Heap)(nx:Nat)(t:TypeId)(x key v:Value)(K:KE):Prop :=
 match aw T t,x,key,(match v with|.agg _=>false|.tuple _=>false|_=>true)with
 |some { kind:=.mp kt _,.. },.map (some k),.agg cs,true =>
  (match aw T kt,aw h k with
  |some { kind:=.st fs,.. },some (.map es) =>
   (match kP T cs.toList fs,dT cs.toList,wJ A T kt (.agg cs) es with
   |true,true,some none=>K undef (xQ h k (.map (es++[(.agg cs,v)]))) nx
   |_,_,_=>False)
  |_,_=>False)
 |_,_,_,_=>False
def A2 (T:dN)(h:Heap)(nx:Nat)(t:TypeId)(x:Value)(K:KE):Prop :=
 match aw T t,x with
 |some { kind:=.sl _,.. },.slice none 0 0=>K (.tuple #[]) h nx
 |some { kind:=.sl e,.. },.slice (some ⟨k,o,none⟩) n _ =>
  (match n with
  |0=>K (.tuple #[]) h nx
  |_=>(match aw T e,aw h k with
   |some ei,some (.cells true _ sz cs)=>eF (Nat.ble (o+n*ei.size) cs.length) (K (.tuple #[]) (xQ h k (.cells true false sz (bU cs o (rep n ei.zv.cells.toList)))) nx)
   |_,_=>False))
 |_,_=>False
section
variable {P:Program}{T:dN}{ι:Nat->Loc}{B nx:Nat}{h:Heap}
theorem GK (hT:dJ P T){t:TypeId}{fs:List (Nat × TypeId)}{s1 b1:Nat}{z1:Value}(ht:aw T t=some ⟨.st fs,s1,b1,z1⟩){cs:Array Value}(hk:kP T cs.toList fs=true)(em:Bool)(d:Nat)(w:World) :
  (Instr.checkKey em (d+2) t (.agg cs)).run P w=.ok () w:=by
 have hti:=hT t _ ht;obtain⟨f,hd,hfs,hn⟩:=hti.st rfl;rw[show d+2=(d+1)+1 from rfl,Instr.checkKey];simp only[Sem.run_bind,run_underlying hd,Result.andThen_ok];rw[<- Array.forIn_toList];subst hfs;clear hd ht hti;generalize f.toList=L at hk hn
 induction L with
 |nil=>simp
 |cons x L ih =>
  have hname : x.name ≠ "_" := hn x (by simp);simp only [List.map_cons,kP] at hk;split at hk
  case h_2=>cases hk
  rename_i fi v hfi hv;have hleaf:(∃ d,P.underlying x.type=some d/\((∃ k,d=.int k)\/d=.bool))/\fi.isAgg=false/\kP T cs.toList (L.map fun f=>(f.offset,f.type))=true:=by
   split at hk
   ·rename_i k hki;exact⟨⟨_,(hT _ _ hfi).int hki,.inl ⟨_,rfl⟩⟩,by simp[WE.isAgg,hki],hk⟩
   ·rename_i hki;exact⟨⟨_,(hT _ _ hfi).bool hki,.inr rfl⟩,by simp[WE.isAgg,hki],hk⟩
   ·cases hk
  obtain⟨⟨dd,hdd,hdk⟩,hagg,hk'⟩:=hleaf;have e1:=vM (P:=P) hT hfi hagg hv w;simp only[Array.toArray_toList]at e1;have e2:(Instr.checkKey em (d+1) x.type v).run P w=.ok () w:=by
   rw[Instr.checkKey];simp only[Sem.run_bind,run_underlying hdd,Result.andThen_ok];rcases hdk with⟨k,rfl⟩|rfl <;> simp
  simp only[List.forIn_cons,Sem.run_bind,hname,ne_eq,not_false_eq_true,if_true,e1,Result.andThen_ok,e2,Sem.run_pure];exact ih hk' (fun y hy=>hn y (by simp[hy]))
theorem AG (hT:dJ P T){kt:TypeId}{key:Value}:∀(ents:List MapEntry) (es:List (Value × Value)) (f:Value->Value) (r:Option Value) (i:Nat),(∀ e∈es,gA e.1=true) ->
  ents.map (fun e=>(e.key,e.val))=es.map (fun e=>(e.1,f e.2))->wJ aF T kt key es=some r->∀ w,
  ∃ j,(Instr.findAsking kt key ents i).run P w=.ok (r.map fun v=>(j,f v)) w
 |[],es,f,r,i,hg,he,hr,w=>by
  cases es with
  |nil=>simp[wJ]at hr;subst hr;exact⟨0,by simp[Instr.findAsking]⟩
  |cons a b=>simp at he
 |e::ents,es,f,r,i,hg,he,hr,w=>by
  cases es with
  |nil=>simp at he
  |cons a es =>
   obtain⟨k,v⟩:=a;simp only[List.map_cons,List.cons.injEq,Prod.mk.injEq]at he;obtain⟨⟨he1,he2⟩,he3⟩:=he;simp only[wJ]at hr;split at hr
   ·cases hr
   ·rename_i hq;have:(Op.equal kt key k).run P w=.ok _ w:=ZQ (P:=P) hT 100 _ _ _ _ hq 10000 aa w;injection hr with hr;subst hr;refine⟨i,?_⟩;simp only[Instr.findAsking,Sem.run_bind,he1,this,Result.andThen_ok,if_true,Sem.run_pure,he2,Option.map_some]
   rename_i hq;have:(Op.equal kt key k).run P w=.ok _ w:=ZQ (P:=P) hT 100 _ _ _ _ hq 10000 aa w;obtain⟨j,hj⟩:=AG hT ents es f r (i+1) (fun e he=>hg e (by simp[he])) he3 hr w;refine⟨j,?_⟩;simp only[Instr.findAsking,Sem.run_bind,he1,this,Result.andThen_ok,Bool.false_eq_true,if_false,hj]
theorem K2 (hT:dJ P T){kt:TypeId}{fs:List (Nat × TypeId)}{s1 b1:Nat}{z1:Value}(ht:aw T kt=some ⟨.st fs,s1,b1,z1⟩){key:Value}{ents:List MapEntry}{es:List (Value × Value)}{f:Value->Value}{r:Option Value}(hg:∀ e∈es,gA e.1=true)
  (he:ents.map (fun e=>(e.key,e.val))=es.map (fun e=>(e.1,f e.2))) (hr:wJ aF T kt key es=some r) (w:World) :
  ∃ j,(Instr.findKey kt key ents).run P w=.ok (r.map fun v=>(j,f v)) w:=by
 obtain⟨fl,hd,_,_⟩:=(hT kt _ ht).st rfl;cases ents with
 |nil =>
  cases es with
  |nil=>simp[wJ]at hr;subst hr;exact⟨0,by simp[Instr.findKey,run_underlying hd,Instr.findNow]⟩
  |cons a b=>simp at he
 |cons e ents =>
  obtain⟨j,hj⟩:=AG hT (e::ents) es f r 0 hg he hr w;exact⟨j,by simp[Instr.findKey,run_underlying hd,Instr.findNow,Instr.sameNow,hj]⟩
theorem UM {t:TypeId}{K:KE}(hl:VD h nx K){w:World}(H:aY ι B h nx w):PV P ι B nx w (Instr.makeMap t none) K:=by
 have hf:=H.new (.map #[] 0) (.map []) ⟨H.size,#[],0,(MapKept.heap_alloc w _).1,by simp,by simp⟩ (by intro e he;cases he);refine⟨_,_,_,_,_,hl,?_,hf,?_,fun k hk=>dE _ _ hk,aa,?_⟩
 ·simp[fU,mS,jJ,rG,bZ,Loc.jD]
 ·exact(eP w _).mono H.size
 simp[Instr.makeMap,tr,eK,cF,eM,bZ]
theorem KI (hT:dJ P T){t:TypeId}{x key:Value}{ok:Bool}{K:Value->Prop}(hl:r6 aF T h t x key ok K)(hx:fU ι nx x){w0:World}(H0:aY ι B h nx w0) :
  ∃ v,K v/\fU ι nx v/\∀ w,aY ι B h nx w->(Instr.lookup t (tr ι x) (tr ι key) ok).run P w=.ok (tr ι v) w:=by
 unfold r6 at hl;split at hl
 case h_2=>exact hl.elim
 rename_i kt et s1 b1 z1 k cs ht;split at hl
 case h_2=>exact hl.elim
 rename_i fs s2 b2 z2 ei es hkt het hk;split at hl
 case h_2=>exact hl.elim
 rename_i r hkf hg hfind;have htr:tr ι (.agg cs)=.agg cs:=iU (by simpa[gT,gA]using hg);have hm:=(hT t _ ht).mp rfl;have hei:=hT et _ het;have hx':k<nx/\(ι k).jD=true:=hx;have hz:mS ι nx ei.zv:=TR hei.zg
 have hrun:∀ w,aY ι B h nx w->(Instr.lookup t (tr ι (.map (some k))) (tr ι (.agg cs)) ok).run P w =
   .ok (if ok then .tuple #[(match r with|some v=>cF ι v|none=>ei.zv),.bool r.isSome]else(match r with|some v=>cF ι v|none=>ei.zv)) w:=by
  intro w H;have hob:=H.obj k _ hk;cases hι:ι k with
  |nil p=>rw[hι]at hob;exact hob.elim
  |lay b o e =>
   rw[hι]at hob;obtain⟨hB,ents,clock,h1,h2,h3⟩:=hob;obtain⟨j,hj⟩:=K2 hT hkt h3 h2 hfind w;have hck:=GK hT hkt hkf ents.isEmpty 9998 w;have e1:tr ι (.map (some k))=.map (some b):=(by simp[tr,eK,cF,eM,hι]);rw[e1,htr];simp only[Instr.lookup,Sem.run_bind,run_underlying hm,Result.andThen_ok,MapKept.run_getObj_map h1,Sem.run_pure,hck,hj];cases r with
   |none=>cases ok <;> simp[hei.zero]
   |some v=>cases ok <;> simp
 have hsc:∀ v,r=some v->jJ ι nx v:=by
  intro v hv;subst hv;have hos:=H0.sc k _ hk;clear hrun hl H0 hk
  induction es with
  |nil=>simp[wJ]at hfind
  |cons a es ih =>
   obtain⟨k',v'⟩:=a;simp only[wJ]at hfind;split at hfind
   ·cases hfind
   ·injection hfind with hfind;injection hfind with hfind;subst hfind;exact hos (k',v') (by simp)
   exact ih hfind (fun e he=>hos e (by simp[he]))
 split at hl
 ·rename_i v;have hs:=hsc v rfl;refine⟨_,hl,?_,fun w H=>?_⟩
  ·intro u hu;simp at hu;rcases hu with rfl|rfl
   ·exact dH hs
   simp[mS,jJ,rG]
  rw[hrun w H];have e2:eK ι (.bool true)=.bool true:=rfl;simp[tr,uM hs,e2]
 ·refine⟨_,hl,?_,fun w H=>?_⟩
  ·intro u hu;simp at hu;rcases hu with rfl|rfl
   ·exact hz
   simp[mS,jJ,rG]
  rw[hrun w H];have:eK ι ei.zv=ei.zv:=Z2 hei.zg;simp[tr,this];simp[eK,cF,eM]
 ·rename_i v;have hs:=hsc v rfl;exact⟨_,hl,lF (dH hs),fun w H=>by rw[hrun w H,CT hs];rfl⟩
 exact⟨_,hl,lF hz,fun w H=>by rw[hrun w H,r8 hz,Z2 hei.zg];rfl⟩
theorem N5 (hT:dJ P T){t:TypeId}{x key v:Value}{K:KE}(hl:lV aF T h nx t x key v K)(hx:fU ι nx x)(hv:fU ι nx v){w:World}(H:aY ι B h nx w) :
  ∃ h' w',K undef h' nx/\aY ι B h' nx w'/\jO B w w'/\(Instr.mapUpdate t (tr ι x) (tr ι key) (tr ι v)).run P w=.ok () w':=by
 unfold lV at hl;split at hl
 case h_2=>exact hl.elim
 rename_i kt et s1 b1 z1 k cs ht hag;split at hl
 case h_2=>exact hl.elim
 rename_i fs s2 b2 z2 es hkt hk;split at hl
 case h_2=>exact hl.elim
 rename_i hkf hg hfind;have hvS:jJ ι nx v:=by
  cases v <;> first|exact hv|(simp at hag)
 have htr:tr ι (.agg cs)=.agg cs:=iU (by simpa[gT,gA]using hg);have hm:=(hT t _ ht).mp rfl;have hob:=H.obj k _ hk;cases hι:ι k with
 |nil p=>rw[hι]at hob;exact hob.elim
 |lay b o e =>
  rw[hι]at hob;obtain⟨hB,ents,clock,h1,h2,h3⟩:=hob;obtain⟨j,hj⟩:=K2 hT hkt h3 h2 hfind w;have hck:=GK hT hkt hkf false 9998 w;have e1:tr ι (.map (some k))=.map (some b):=(by simp[tr,eK,cF,eM,hι]);refine⟨_,{ w with heap:=w.heap.setIfInBounds b (.map (ents.push ⟨.agg cs,cF ι v,clock⟩) (clock+1)) },hl,?_,?_,?_⟩
  ·refine H.set hk rfl ?_ ?_ rfl (fun c hc=>?_) (by simp)
   ·rw[hι];have hlt:=(Array.getElem?_eq_some_iff.1 h1).1;refine⟨hB,ents.push ⟨.agg cs,cF ι v,clock⟩,clock+1,by simp[Array.getElem?_setIfInBounds_self_of_lt hlt],by simp[h2],fun e he=>?_⟩;rcases List.mem_append.1 he with he|he
    ·exact h3 e he
    simp at he;subst he;simpa[gA]using hg
   ·intro e he;rcases List.mem_append.1 he with he|he
    ·exact H.sc k _ hk e he
    simp at he;subst he;exact hvS
   have:b≠c:=fun e=>hc (by rw[hι,e];rfl);simp[Array.getElem?_setIfInBounds_ne this]
  ·exact⟨rfl,rfl,rfl,by simp,fun c hc=>by
    have:b≠c:=aa;simp[Array.getElem?_setIfInBounds_ne this],ah _⟩
  rw[e1,htr,CT hvS];simp only[Instr.mapUpdate,Sem.run_bind,run_underlying hm,Result.andThen_ok,MapKept.run_getObj_map h1,hck,hj,Option.map_none,MapKept.run_setObj_map _ h1]
theorem aCL (hT:dJ P T){t ty:TypeId}{x:Value}{K:KE}(hl:A2 T h nx t x K)(hx:fU ι nx x){w:World}(H:aY ι B h nx w) :
  PV P ι B nx w (Builtin.clear_ #[t] ty #[tr ι x]) K:=by
 unfold A2 at hl;split at hl
 case h_3=>exact hl.elim
 ·rename_i e s1 b1 z1 ht;have hd:=(hT t _ ht).sl rfl;refine⟨_,_,_,ι,w,hl,by simp[fU],H,jO.refl _ _,fun _ _=>rfl,ah _,?_⟩;rw[dS];simp[Builtin.clear_,run_underlying hd,tr]
 rename_i e s1 b1 z1 k o n c ht;have hd:=(hT t _ ht).sl rfl;have hx':k<nx/\((ι k).jD=false->n=0/\c=0):=hx;split at hl
 ·refine⟨_,_,_,ι,w,hl,by simp[fU],H,jO.refl _ _,fun _ _=>rfl,ah _,?_⟩;simp only[tr,eK,cF,eM];cases ι k with
  |nil p=>cases p <;> simp[Builtin.clear_,run_underlying hd]
  |lay b o e=>simp[Builtin.clear_,run_underlying hd]
 rename_i hn0;split at hl
 case h_2=>exact hl.elim
 rename_i ei g sz cs he hk;obtain⟨hb,hK⟩:=aH.1 hl;have hb:=Nat.le_of_ble_eq_true hb;have hei:=hT e _ he;cases hι:ι k with
 |nil p=>exact absurd (hx'.2 (by rw[hι];rfl)).1 hn0
 |lay b off ex =>
  have hz:=tG hT he;have hrep:∀ v∈rep n ei.zv.cells.toList,gS v=true:=by
   intro v hv;simp only[rep,List.mem_flatten,List.mem_replicate]at hv;obtain⟨l,⟨_,rfl⟩,hv⟩:=hv;exact hz v hv
  have hlen:(rep n ei.zv.cells.toList).length=n*ei.size:=by
   rw[<- lI,Array.length_toList,size_zeroCells,hei.zs]
  obtain⟨w',h1,h2,h3⟩:=H.aPV (P:=P) hk hι (o:=o) (vs:=rep n ei.zv.cells.toList) aa (fun v hv=>bM (hrep v hv));rw[qT hrep]at h1;refine⟨_,_,_,ι,w',hK,by simp[fU],h3,h2,fun _ _=>rfl,ah _,?_⟩;have e1:tr ι (.slice (some ⟨k,o,none⟩) n c)=.slice (some ⟨b,off+o,none⟩) n (c+ex):=(by simp[tr,eK,cF,eM,hι]);rw[e1];cases n with
  |zero=>exact absurd rfl hn0
  |succ n=>simp[Builtin.clear_,run_underlying hd,hei.zero,lI,h1,tr]
end
end Go.Aw
end
