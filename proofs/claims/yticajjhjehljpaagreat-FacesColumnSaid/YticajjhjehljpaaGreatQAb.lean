/-
  Parts of a proof. No condition.
-/
import Derived.Test.YticajjhjehljpaaGreatQAa
import Derived.Laws.MakeOwn
set_option linter.unusedSimpArgs false
set_option linter.unusedVariables false
noncomputable section
namespace Go.Aw
open Go.RowKit
structure s9 (w w':World) (b:Nat):Prop where
 os:w'.os=w.os
 tape:w'.tape=w.tape
 output:w'.output=w.output
 size:w'.heap.size=w.heap.size
 other:∀ c,c≠b→w'.heap[c]? = w.heap[c]?
 drawn:w'.drawn=w.drawn
theorem s9.refl (w:World)(b:Nat):s9 w w b:=⟨rfl,rfl,rfl,rfl,fun _ _=>rfl,rfl⟩
theorem s9.trans {a b c:World}{x:Nat}(h:s9 a b x)(k:s9 b c x):s9 a c x :=
 ⟨k.os.trans h.os,k.tape.trans h.tape,k.output.trans h.output,k.size.trans h.size,fun y hy=>(k.other y hy).trans (h.other y hy),k.drawn.trans h.drawn⟩
theorem s9.below {w w':World}{b B:Nat}(h:s9 w w' b)(hb:B≤b):gF B w w' :=
 ⟨h.os,h.tape,h.output,Nat.le_of_eq h.size.symm,fun k hk=>h.other k (by omega),Nat.le_of_eq h.drawn.symm⟩
theorem IM (w:World){b o:Nat}{arr:Array Value}{t:TypeId}{fz:Nat × Nat}(v:Value)(hb:w.heap[b]? = some (.cells arr t fz)) :
  s9 w (w.setCell ⟨b,o,none⟩ v) b∧(w.setCell ⟨b,o,none⟩ v).heap[b]? = some (.cells (arr.setIfInBounds o v) t fz):=by
 refine⟨⟨rfl,rfl,rfl,by simp [World.setCell],fun c hc=>Go.RowKit.Below.heap_setCell _ _ _ _ hc,rfl⟩,?_⟩;simp [World.setCell,Array.getElem?_modify,hb]
theorem oD {P:Program}{b off:Nat}{t:TypeId}:∀ (vs:List Value) (i:Nat) (w:World) (arr:Array Value),(∀ v∈vs,v.oneCell'=true) →
  w.heap[b]? = some (.cells arr t (0,0))→off+i+vs.length≤arr.size →
  ∃ w' arr',(storeCells ⟨b,off,none⟩ vs i).run P w=.ok () w'∧s9 w w' b∧w'.heap[b]? = some (.cells arr' t (0,0))∧arr'.size=arr.size ∧
    ∀ j,arr'[j]? = if off+i≤j∧j<off+i+vs.length then vs[j - (off+i)]? else arr[j]?
 |[],i,w,arr,_,hb,_=>⟨w,arr,by simp [storeCells],s9.refl _ _,hb,rfl,fun j=>by rw [if_neg (by simp only [List.length_nil];omega)]⟩
 |v::vs,i,w,arr,hv,hb,hs=>by
  simp only [List.length_cons] at hs;have hc:w.cell? ⟨b,off+i,none⟩=some (arr[off+i]'(by omega)):=by
   simp [World.cell?,hb]
  have hf:w.frozen? ⟨b,off+i,none⟩=false:=(by simp [World.frozen?,hb]);obtain⟨hw1,hb1⟩:=IM (o:=off+i) w v hb;obtain⟨w',arr',h1,h2,h3,h4,h5⟩:=oD (P:=P) (off:=off) (t:=t) vs (i+1) (w.setCell ⟨b,off+i,none⟩ v) (arr.setIfInBounds (off+i) v) (fun u hu=>hv u (by simp [hu])) hb1 (by simp;omega);refine⟨w',arr',?_,hw1.trans h2,h3,by simp [h4],fun j=>?_⟩
  ·simp only [storeCells,Sem.run_bind];rw [Addr.add_lit,run_store _ _ _ _ _ (hv v (by simp)),hc];simp only [hf,Bool.false_eq_true,if_false,Result.andThen_ok,h1]
  rw [h5 j];simp only [List.length_cons];by_cases hj:j=off+i
  ·subst hj;rw [if_neg (by omega),if_pos (by omega)];rw [Array.getElem?_setIfInBounds_self_of_lt (by omega)];simp
  by_cases hj2:off+(i+1)≤j∧j<off+(i+1)+vs.length
  ·rw [if_pos hj2,if_pos (by omega)];rw [show j - (off+i)=(j - (off+(i+1)))+1 by omega];simp
  rw [if_neg hj2,if_neg (by omega)];rw [Array.getElem?_setIfInBounds_ne (by omega)]
def eY (cs:List Value)(o:Nat)(vs:List Value):List Value:=cs.take o++vs++cs.drop (o+vs.length)
theorem iB {cs vs:List Value}{o:Nat}(h:o+vs.length≤cs.length):(eY cs o vs).length=cs.length:=by
 simp [eY];omega
theorem OQ {cs vs:List Value}{o:Nat}(h:o+vs.length≤cs.length)(j:Nat):(eY cs o vs)[j]? = if o≤j∧j<o+vs.length then vs[j - o]? else cs[j]? := by
 unfold eY;rw [List.append_assoc];by_cases h1:j<o
 ·rw [List.getElem?_append_left (by simp;omega),List.getElem?_take_of_lt h1,if_neg (by omega)]
 rw [List.getElem?_append_right (by simp;omega)];simp only [List.length_take];rw [Nat.min_eq_left (by omega)];by_cases h2:j<o+vs.length
 ·rw [List.getElem?_append_left (by omega),if_pos (by omega)]
 rw [List.getElem?_append_right (by omega),List.getElem?_drop,if_neg (by omega)];congr 1;omega
theorem aBg {cs vs:List Value}{o:Nat}{v:Value}(h:v∈eY cs o vs):v∈cs∨v∈vs:=by
 unfold eY at h;rcases List.mem_append.1 h with h|h
 ·rcases List.mem_append.1 h with h|h
  ·exact .inl (List.mem_of_mem_take h)
  exact .inr h
 exact .inl (List.mem_of_mem_drop h)
section
variable {P:Program}{T:cQ}{ι:Nat→Loc}{B nx:Nat}{h:Heap}
theorem aQ.put {w:World}(H:aQ ι B h nx w){k:Nat}{g:Bool}{sz:Nat}{cs:List Value}(hk:look h k=some (.cells true g sz cs)){o:Nat}{vs:List Value}(ho:o+vs.length≤cs.length)
  (hs:∀ v∈vs,gP ι nx v) (hne:vs≠[]) :
  ∃ b off e w',ι k=.lay b off e∧(storeCells ⟨b,off+o,none⟩ (vs.map (bO ι))).run P w=.ok () w'∧gF B w w' ∧
    aQ ι B (xA h k (.cells true false sz (eY cs o vs))) nx w':=by
 have hob:=H.obj k _ hk;have hlen:0<vs.length:=by cases vs with|nil=>exact absurd rfl hne|cons _ _=>simp
 cases hι:ι k with
 |nil =>
  rw [hι] at hob;have:cs=[]:=(show cs=[]∧_ from hob).1;subst this;simp only [List.length_nil] at ho;omega
 |lay b off e =>
  rw [hι] at hob;obtain⟨hB,_,arr,t,h1,h2,h3⟩:=hob;have hone:∀ v∈vs.map (bO ι),v.oneCell'=true:=by
   intro v hv;obtain⟨u,hu,rfl⟩:=List.mem_map.1 hv;exact (tX (hs u hu)).1
  obtain⟨w',arr',e1,e2,e3,e4,e5⟩:=oD (P:=P) (off:=off+o) (vs.map (bO ι)) 0 w arr hone h1 (by simp;omega);refine⟨b,off,e,w',rfl,e1,e2.below hB,?_⟩;refine H.set hk rfl ?_ ?_ rfl (fun c hc=>e2.other c (fun e=>hc (by rw [hι,e];rfl))) (Nat.le_of_eq e2.size.symm)
  ·rw [hι];refine⟨hB,by simp,arr',t,e3,?_,fun i v hv=>?_⟩
   ·rw [iB ho,e4];exact h2
   rw [OQ ho] at hv;rw [e5];simp only [List.length_map,Nat.add_zero];by_cases hi:o≤i∧i<o+vs.length
   ·rw [if_pos hi] at hv;rw [if_pos (by omega),show off+i - (off+o)=i - o by omega,List.getElem?_map,hv];rfl
   rw [if_neg hi] at hv;rw [if_neg (by omega)];exact h3 i v hv
  intro v hv;rcases aBg hv with hv|hv
  ·exact H.sc k _ hk v hv
  exact hs v hv
theorem aQ.fresh {w:World}(H:aQ ι B h nx w)(t:TypeId)(arr:Array Value)(cs:List Value)(sz:Nat)(ha:arr.toList=cs.map (bO ι))(hs:∀ v∈cs,gP ι nx v) :
  aQ (ins ι nx (.lay w.heap.size 0 0)) B (cU h nx (.cells true false sz cs)) (nx+1) (w.alloc (.cells arr t)):=by
 have hsz:arr.size=cs.length:=(by rw [← Array.length_toList,ha,List.length_map]);refine H.new (.cells arr t) (.cells true false sz cs) ?_ ?_
 ·refine⟨H.size,by simp,arr,t,(MapKept.heap_alloc w _).1,by omega,fun i v hv=>?_⟩;rw [Nat.zero_add,← Array.getElem?_toList,ha,List.getElem?_map,hv];simp only [Option.map_some];rw [mF (ι:=ι) (fun k hk=>cG _ _ hk) (hs v (List.mem_of_getElem? hv))]
 intro v hv;exact gZ (by omega) (fun k hk=>cG _ _ hk) (hs v hv)
end
def rep (n:Nat)(zs:List Value):List Value:=(List.replicate n zs).flatten
theorem jS (z:Array Value)(n:Nat):(Builtin.zeroCells z n).toList=rep n z.toList:=by
 apply List.ext_getElem?;intro i;have hl:(rep n z.toList).length=n*z.size:=by
  unfold rep
  induction n with
  |zero=>simp
  |succ n ih=>rw [List.replicate_succ,List.flatten_cons,List.length_append,ih,Nat.succ_mul,Array.length_toList];omega
 have hg:∀ n i,i<n*z.size→(rep n z.toList)[i]? = z[i % z.size]? := by
  intro n
  induction n with
  |zero=>intro i hi;omega
  |succ n ih =>
   intro i hi;unfold rep;rw [List.replicate_succ,List.flatten_cons];by_cases h:i<z.size
   ·rw [List.getElem?_append_left (by simpa using h),Nat.mod_eq_of_lt h,Array.getElem?_toList]
   rw [List.getElem?_append_right (by simpa using Nat.le_of_not_lt h)];rw [Nat.succ_mul] at hi;have:=ih (i - z.size) (by omega);rw [show (List.replicate n z.toList).flatten=rep n z.toList from rfl,Array.length_toList,this];congr 1
   conv=>rhs;rw [show i=(i - z.size)+z.size by omega,Nat.add_mod_right]
 by_cases h:i<n*z.size
 ·rw [hg n i h];have h0:0<z.size:=Nat.pos_of_ne_zero (fun e=>by rw [e] at h;omega);have hlt:=Nat.mod_lt i h0;simp [Builtin.zeroCells,List.getElem?_range h,hlt]
 have e1:(Builtin.zeroCells z n).toList.length=n*z.size:=(by rw [Array.length_toList,size_zeroCells]);rw [List.getElem?_eq_none (by omega),List.getElem?_eq_none (by omega)]
abbrev KE:=Value→Heap→Nat→Prop
def oH (T:cQ)(h:Heap)(nx:Nat)(t:TypeId)(x v:Value)(K:KE):Prop :=
 match x with
 |.pointer (some ⟨k,o,none⟩) =>
  (match look T t,look h k with
  |some ti,some (.cells true _ sz cs) =>
   (match Nat.beq v.cells.size ti.size,(match v with|.tuple _=>false|_=>true) with
   |true,true=>dT (Nat.ble (o+v.cells.size) cs.length) (K undef (xA h k (.cells true false sz (eY cs o v.cells.toList))) nx)
   |_,_=>False)
  |_,_=>False)
 |_=>False
def RS (h:Heap)(nx:Nat)(v:Value)(K:KE):Prop :=
 match v with
 |.tuple _=>False
 |v=>K (.pointer (some ⟨nx,0,none⟩)) (cU h nx (.cells true false 1 v.cells.toList)) (nx+1)
def xL (T:cQ)(h:Heap)(nx:Nat)(t:TypeId)(K:KE):Prop :=
 match look T t with
 |some ti=>K (.pointer (some ⟨nx,0,none⟩)) (cU h nx (.cells true false 1 ti.zv.cells.toList)) (nx+1)
 |none=>False
def eJ (T:cQ)(h:Heap)(nx:Nat)(t:TypeId)(len:Nat)(ps:List (Nat × Value))(K:KE):Prop :=
 match look T t with
 |some { kind:=.sl e,.. } =>
  (match look T e with
  |some ei =>
   (match Nat.ble (len*ei.size) 1000000,kL ps with
   |true,true =>
    (match CB (fun i=>some (i*ei.size,ei.size)) ps (rep len ei.zv.cells.toList) with
    |some cells=>K (.slice (some ⟨nx,0,none⟩) len len) (cU h nx (.cells true false ei.size cells)) (nx+1)
    |none=>False)
   |_,_=>False)
  |none=>False)
 |_=>False
section
variable {P:Program}{T:cQ}{ι:Nat→Loc}{B nx:Nat}{h:Heap}
def MN (P:Program)(ι:Nat→Loc)(B nx:Nat)(w:World)(m:Sem Value)(K:KE):Prop :=
 ∃ v h' nx' ι' w',K v h' nx'∧eX ι' nx' v∧aQ ι' B h' nx' w'∧gF B w w'∧(∀ k,k<nx→ι' k=ι k)∧nx≤nx'∧m.run P w=.ok (tr ι' v) w'
theorem E4 {v:Value}(h1:∀ c,v≠.tuple c)(h2:eX ι nx v):kU ι nx v:=by
 cases v with
 |tuple c=>exact absurd rfl (h1 c)
 |_=>exact h2
theorem BG {v:Value}(hv:kU ι nx v):∀ u∈v.cells.toList,gP ι nx u:=by
 intro u hu;cases v with
 |agg c=>exact hv u hu
 |_ =>
  simp only [Value.cells,List.mem_singleton] at hu;subst hu;exact hv
theorem aAu (hT:cL P T){t:TypeId}{x v:Value}{K:KE}(hl:oH T h nx t x v K)(hv:eX ι nx v){w:World}(H:aQ ι B h nx w) :
  ∃ h' w',K undef h' nx∧aQ ι B h' nx w'∧gF B w w'∧(Instr.storeAt t (tr ι x) (tr ι v)).run P w=.ok () w':=by
 unfold oH at hl;split at hl
 case h_2=>exact hl.elim
 rename_i k o;split at hl
 case h_2=>exact hl.elim
 rename_i ti g sz cs ht hk;split at hl
 case h_2=>exact hl.elim
 rename_i hsz htup;obtain⟨hb,hK⟩:=aD.1 hl;have hti:=hT t _ ht;have hsz:=Nat.eq_of_beq_eq_true hsz;have hb:=Nat.le_of_ble_eq_true hb;have hvA:kU ι nx v:=E4 (fun c e=>by rw [e] at htup;cases htup) hv;have hp:=hti.pos;obtain⟨b,off,e,w',hι,hrun,hbel,hrel⟩:=H.put (P:=P) hk (o:=o) (vs:=v.cells.toList) (by simpa using hb) (BG hvA) (by
  intro e;have:v.cells.size=0:=(by rw [← Array.length_toList,e];rfl);omega)
 refine⟨_,w',hK,hrel,hbel,?_⟩;have hc:=zC hvA;simp only [fD,hι,Instr.storeAt,Instr.sureAddr,Sem.run_bind,Sem.run_pure,Result.andThen_ok,storeVar,hti.sizeOf];rw [hc];simp only [Array.size_map,hsz,ne_eq,not_true_eq_false,if_false,Sem.run_ite,Array.toList_map];simpa using hrun
theorem aEe {t:TypeId}{v:Value}{K:KE}(hl:RS h nx v K)(hv:eX ι nx v){w:World}(H:aQ ι B h nx w):MN P ι B nx w (Instr.box t (tr ι v)) K:=by
 have hK:(∀ c,v≠.tuple c)∧K (.pointer (some ⟨nx,0,none⟩)) (cU h nx (.cells true false 1 v.cells.toList)) (nx+1):=by
  unfold RS at hl;split at hl
  ·exact hl.elim
  rename_i hne;exact⟨hne,hl⟩
 obtain⟨hne,hK⟩:=hK;have hvA:=E4 hne hv;have hf:=H.fresh t (tr ι v).cells v.cells.toList 1 (by rw [zC hvA];simp) (BG hvA);refine⟨_,_,_,_,_,hK,?_,hf,?_,fun k hk=>cG _ _ hk,by omega,?_⟩
 ·simp [eX,kU,gP,oL,aZ,Loc.gR]
 ·exact (dK w _).mono H.size
 simp [Instr.box,newVar,newRow,fD,aZ]
theorem qE (hT:cL P T){t:TypeId}{ti:RR}(ht:look T t=some ti):(∀ u∈ti.zv.cells.toList,gS u=true):=by
 have hg:=(hT t _ ht).zg;intro u hu;cases hz:ti.zv with
 |agg c=>rw [hz] at hu hg;exact aT hg hu
 |_ =>
  rw [hz] at hu hg;simp only [Value.cells,List.mem_singleton] at hu;subst hu;exact hg
theorem nN {l:List Value}(h:∀ u∈l,gS u=true):l.map (bO ι)=l:=a8 (vH h)
theorem aAj (hT:cL P T){t:TypeId}{K:KE}(hl:xL T h nx t K){w:World}(H:aQ ι B h nx w):MN P ι B nx w (Instr.alloc t true (.tuple #[])) K:=by
 unfold xL at hl;split at hl
 case h_2=>exact hl.elim
 rename_i ti ht;have hti:=hT t _ ht;have hz:=qE hT ht;have hf:=H.fresh t ti.zv.cells ti.zv.cells.toList 1 (by rw [nN hz]) (fun v hv=>bY (hz v hv));refine⟨_,_,_,_,_,hl,?_,hf,?_,fun k hk=>cG _ _ hk,by omega,?_⟩
 ·simp [eX,kU,gP,oL,aZ,Loc.gR]
 ·exact (dK w _).mono H.size
 simp [Instr.alloc,hti.zero,newVar,newRow,fD,aZ]
theorem EW (hT:cL P T){t:TypeId}{len:Nat}{ps:List (Nat × Value)}{K:KE}(hl:eJ T h nx t len ps K)(hs:∀ p∈ps,eX ι nx p.2){w:World}(H:aQ ι B h nx w) :
  MN P ι B nx w (Instr.buildSlice t len (ps.map fun p=>(p.1,tr ι p.2)).toArray) K:=by
 unfold eJ at hl;split at hl
 case h_2=>exact hl.elim
 rename_i e s1 b1 z1 ht;split at hl
 case h_2=>exact hl.elim
 rename_i ei he;split at hl
 case h_2=>exact hl.elim
 rename_i hsz hap;have hsz:=Nat.le_of_ble_eq_true hsz;have hs':=pO hap hs;have hti:=hT t _ ht;have hei:=hT e _ he;split at hl
 case h_2=>exact hl.elim
 rename_i lcells hfill0;have hzs:ei.zv.cells.size=ei.size:=hei.zs;have hrep0:((Array.range (len*ei.size)).map ((if len*ei.size=0 then #[] else ei.zv.cells)[· % (if len*ei.size=0 then (#[]:Array Value) else ei.zv.cells).size]!)).toList=rep len ei.zv.cells.toList:=by
  rw [← jS];unfold Builtin.zeroCells;rw [hzs];by_cases h0:len*ei.size=0
  ·rw [h0];simp
  rw [if_neg h0,hzs]
 obtain⟨cells,hce⟩:∃ cells:Array Value,cells=lcells.toArray:=⟨_,rfl⟩;have hfill:Instr.fill (fun i=>some (i*ei.size,ei.size)) ((Array.range (len*ei.size)).map ((if len*ei.size=0 then #[] else ei.zv.cells)[· % (if len*ei.size=0 then (#[]:Array Value) else ei.zv.cells).size]!)) ps=some cells:=by
  rw [hce];exact ER _ _ _ _ _ hrep0 hfill0
 have hl0:lcells=cells.toList:=(by rw [hce]);rw [hl0] at hl;have hz:=qE hT he;generalize hz0:(if len*ei.size=0 then (#[]:Array Value) else ei.zv.cells)=z0 at hfill;have hz0g:∀ u∈z0.toList,gS u=true:=by
  subst hz0;split
  ·intro u hu;simp at hu
  exact hz
 have hrow:∀ u∈((Array.range (len*ei.size)).map (z0[· % z0.size]!)).toList,gS u=true:=by
  intro u hu;simp only [Array.toList_map,List.mem_map] at hu;obtain⟨j,hj,rfl⟩:=hu;by_cases h0:z0.size=0
  ·have:j<len*ei.size:=(by simpa using hj);have:len*ei.size≠0:=(by omega);subst hz0;rw [if_neg this] at h0;have:=hei.zs;have:=hei.pos;omega
  have hlt:j % z0.size<z0.size:=Nat.mod_lt _ (by omega);have e1:z0[j % z0.size]! = z0[j % z0.size]:=getElem!_pos z0 _ hlt;rw [e1];exact hz0g _ (by simp)
 have hfm:=FG (ι:=ι) (nx:=nx) _ ps _ cells hs' hfill;have hrm:((Array.range (len*ei.size)).map (z0[· % z0.size]!)).map (bO ι)=(Array.range (len*ei.size)).map (z0[· % z0.size]!):=by
  apply Array.ext';rw [Array.toList_map,nN hrow]
 rw [hrm] at hfm;have hcs:∀ v∈cells.toList,gP ι nx v:=HB _ (gP ι nx) ps _ cells (fun v hv=>bY (hrow v hv)) (fun p hp v hv=>BG (hs' p hp) v hv) hfill;have hf:=H.fresh e (cells.map (bO ι)) cells.toList ei.size (by simp) hcs;refine⟨_,_,_,_,_,hl,?_,hf,?_,fun k hk=>cG _ _ hk,by omega,?_⟩
 ·simp [eX,kU,gP,oL,aZ,Loc.gR]
 ·exact (dK w _).mono H.size
 simp only [Instr.buildSlice,Sem.run_bind,run_underlying (hti.sl rfl),Result.andThen_ok,hei.sizeOf,Sem.run_ite];rw [if_neg (by omega)];by_cases h0:len*ei.size=0
 ·rw [if_pos h0] at hz0;subst hz0;simp only [h0,if_true,Sem.run_pure,Result.andThen_ok] at hfm ⊢;rw [hfm];simp [newRow,tr,dW,bO,dY,aZ]
 rw [if_neg h0] at hz0;subst hz0;simp only [h0,if_false,Sem.run_bind,hei.zero,Result.andThen_ok,Sem.run_pure,hfm];simp [newRow,tr,dW,bO,dY,aZ]
end
def rem (h:Heap)(k:Nat):Heap :=
 match h with
 |[]=>[]
 |(j,o)::r=>match Nat.beq j k with|true=>rem r k|false=>(j,o)::rem r k
theorem dN (h:Heap)(k j:Nat):look (rem h k) j=if j=k then none else look h j:=by
 induction h with
 |nil=>simp [rem,look_nil]
 |cons x r ih =>
  obtain⟨i,o⟩:=x;by_cases hik:i=k
  ·subst hik;have e1:rem ((i,o)::r) i=rem r i:=(by simp [rem]);rw [e1,ih];by_cases hji:j=i
   ·rw [if_pos hji,if_pos hji]
   have:i.beq j=false:=by
    cases hb:i.beq j with
    |false=>rfl
    |true=>exact absurd (beq_true hb).symm hji
   rw [if_neg hji,if_neg hji];simp only [aB,this]
  have hb:i.beq k=false:=by
   cases hb:i.beq k with
   |false=>rfl
   |true=>exact absurd (beq_true hb) hik
  have e1:rem ((i,o)::r) k=(i,o)::rem r k:=(by simp only [rem,hb]);rw [e1];simp only [aB];cases hij:i.beq j with
  |true =>
   have:=beq_true hij;subst this;rw [if_neg hik]
  |false=>exact ih
section
variable {P:Program}{T:cQ}{ι:Nat→Loc}{B nx:Nat}{h:Heap}
theorem aQ.rem {w:World}(H:aQ ι B h nx w)(k:Nat):aQ ι B (rem h k) nx w:=by
 have key:∀ j o,look (Aw.rem h k) j=some o→look h j=some o:=fun j o hj=>by
  rw [dN] at hj;split at hj
  ·cases hj
  exact hj
 exact⟨fun j o hj=>H.obj j o (key j o hj),fun j j' o o' h1 h2=>H.sep j j' o o' (key _ _ h1) (key _ _ h2),fun j o hj=>H.low j o (key _ _ hj),H.size,fun j o hj=>H.sc j o (key _ _ hj)⟩
structure Src (P:Program) (w:World) (size:Nat) (x:Value) (m:Nat) (news:List Value):Prop where
 len:(Builtin.lenOf x).run P w=.ok m w
 one:∀ c,(Builtin.firstCells size m x).run P { w with drawn:=c }=.ok news.toArray { w with drawn:=c }
theorem jP {t u e:TypeId}{ty:TypeId}{i:TypeInfo}{d:TypeDesc}(ht:P.underlying t=some (.slice e))(hu:P.underlying u=some d)(hd:∀ k,d≠.int k)(hi:P.info? e=some i)
  (w:World) (base:Option Addr) (n c m:Nat) (x:Value) (news:List Value) (hx:Src P w i.size x m news) (hroom:n+m≤c) :
  (Builtin.append_ #[t,u] ty #[.slice base n c,x]).run P w =
   (match base with|some a=>(storeCells (a.add (n*i.size)) news).run P w|none=>.ok () w).andThen fun _ w'=>.ok (.slice base (n+m) c) w':=by
 have h1:=hx.len;have h2:(Builtin.firstCells i.size m x).run P w=.ok news.toArray w:=hx.one w.drawn;have hz:(match d with|.int _=>true|_=>false)=false:=by
  cases d <;> first|rfl|exact absurd rfl (hd _)
 cases base with
 |none=>simp [Builtin.append_,run_underlying ht,run_underlying hu,sizeOf,typeInfo,hi,hz,h1,h2,hroom]
 |some a=>simp [Builtin.append_,run_underlying ht,run_underlying hu,sizeOf,typeInfo,hi,hz,h1,h2,hroom]
theorem GV {t u e:TypeId}{ty:TypeId}{i:TypeInfo}{z:Value}{d:TypeDesc}(ht:P.underlying t=some (.slice e))(hu:P.underlying u=some d)(hd:∀ k,d≠.int k)(hi:P.info? e=some i)(hz:i.zero=some z)
  (w:World) (base:Option Addr) (n c m:Nat) (x:Value) (news olds:List Value) (hx:Src P w i.size x m news) (ho:(Builtin.firstCells i.size n (.slice base n c)).run P w.drew=.ok olds.toArray w.drew)
  (hroom:c<n+m) (hb:i.bytes≤1000) (hm:n+m≤1000000000) :
  ∃ cap,n+m≤cap∧(Builtin.append_ #[t,u] ty #[.slice base n c,x]).run P w =
    .ok (.slice (some ⟨w.heap.size,0,none⟩) (n+m) cap) (w.drew.alloc (.cells (olds++news++(Builtin.zeroCells z.cells (cap - (n+m))).toList).toArray e)):=by
 have h1:=hx.len;have h2:(Builtin.firstCells i.size m x).run P w.drew=.ok news.toArray w.drew:=hx.one (w.drawn+1);have hzz:(match d with|.int _=>true|_=>false)=false:=by
  cases d <;> first|rfl|exact absurd rfl (hd _)
 have hfit:Builtin.nextslicecap (n+m) c*i.bytes≤281474976710656:=growslice_fits hroom (by
  have:=Nat.mul_le_mul hm hb;omega)
 have hn:¬ (n+m≤c):=(by omega);have h63':¬ (9223372036854775807<((n:Int)+(m:Int))):=(by omega);have h48':¬ (281474976710656<Builtin.nextslicecap (n+m) c*i.bytes):=(by omega);refine⟨grownCap w (n+m) c e,grownCap_ge _ _ _ _,?_⟩;simp [Builtin.append_,run_underlying ht,run_underlying hu,sizeOf,typeInfo,zeroValue,hi,hz,hzz,h1,h2,ho,hn,h63',h48',Question.forced,newRow,grownCap];congr 2;apply Array.ext';simp [List.append_assoc]
end
def vhi (A:Ar)(n c:Nat)(hi:Option Value)(G:Nat→Prop):Prop :=
 match hi with
 |none=>G n
 |some (.int _ i)=>dT (A.andB (A.le 0 i) (A.le i (A.num c))) (G (A.eP i))
 |_=>False
def isZero:Option Value→Bool
 |none=>true
 |some (.int _ 0)=>true
 |_=>false
def Z2 (h:Heap)(nx k q r:Nat):Heap:=match look h k with
 |some (.cells true g sz cs)=>(match Nat.ble (q+r) cs.length with|true=>cU (rem h k) nx (.cells true g sz ((cs.drop q).take r))|false=>h)
 |some (.cells false g sz cs)=>cU h nx (.cells false g sz ((cs.drop q).take r))
 |_=>h
def sY (A:Ar)(T:cQ)(h:Heap)(nx:Nat)(t:TypeId)(x:Value)(lo hi mx:Option Value)(K:KE):Prop :=
 match look T t with
 |some { kind:=.sl e,.. } =>
  (match look T e with
  |none=>False
  |some ei =>
   match x,mx with
   |.slice none 0 0,none=>(match isZero lo,isZero hi with|true,true=>K (.slice none 0 0) h nx|_,_=>False)
   |.slice (some ⟨k,o,none⟩) n c,none =>
    vhi A n c hi fun hN =>
     (match lo with
     |none=>K (.slice (some ⟨k,o,none⟩) hN c) h nx
     |some (.int _ l)=>dT (A.andB (A.andB (A.le 0 l) (A.le l (A.num hN))) (A.le (A.num hN) (A.num c)))
      (match look h k with
      |some (.cells _ _ _ _)=>br (A.lt l (A.num c)) (fun _=>K (.slice (some ⟨k,A.ix o l ei.size,none⟩) (A.subN hN (A.eP l)) (A.subN c (A.eP l))) h nx) (fun _=>K (.slice (some ⟨nx,0,none⟩) 0 0) h (nx+1))
      |_=>False)
     |_=>False)
   |.slice (some ⟨k,o,none⟩) n c,some (.int _ 0) =>
    (match isZero lo,hi with|true,some (.int _ 0)=>K (.slice (some ⟨nx,0,none⟩) 0 0) (cU h nx .zero) (nx+1)|_,_=>False)
   |.slice (some ⟨k,o,none⟩) n c,some (.int _ m) =>
    (match lo,hi with
    |some (.int _ l),some (.int _ u)=>dT (A.andB (A.andB (A.le 0 l) (A.le l u)) (A.andB (A.le u m) (A.andB (A.le 1 m) (A.le m (A.num c))))) (K (.slice (some ⟨nx,0,none⟩) (A.subN (A.eP u) (A.eP l)) (A.subN (A.eP m) (A.eP l))) (Z2 h nx k (A.ix o l ei.size) (A.subN (A.eP m) (A.eP l)*ei.size)) (nx+1))
    |none,some (.int _ u)=>dT (A.andB (A.le 0 u) (A.andB (A.le u m) (A.andB (A.le 1 m) (A.le m (A.num c))))) (K (.slice (some ⟨nx,0,none⟩) (A.eP u) (A.eP m)) (Z2 h nx k o (A.eP m*ei.size)) (nx+1))
    |_,_=>False)
   |_,_=>False)
 |_=>False
section
variable {P:Program}{T:cQ}{ι:Nat→Loc}{B nx:Nat}{h:Heap}
def OL:Option Value→Option Nat
 |none=>some 0
 |some (.int _ i)=>if 0≤i then some i.toNat else none
 |_=>none
def TC (n c:Nat):Option Value→Option Nat
 |none=>some n
 |some (.int _ i)=>if 0≤i∧i≤c then some i.toNat else none
 |_=>none
theorem j7 {t e:TypeId}{s:Nat}(ht:P.underlying t=some (.slice e))(w:World)(hs:(sizeOf e).run P w=.ok s w)(a:Option Addr){n c:Nat}{lo hi:Option Value}{l hN:Nat}
  (hl:OL lo=some l) (hh:TC n c hi=some hN) (hle:l≤hN) :
  (Instr.sliceAt t (.slice a n c) lo hi none).run P w=.ok (.slice (if c=l then a else a.map (·.add (l*s))) (hN - l) (c - l)) w:=by
 have e1:(match hi with|some v=>Instr.sliceBound v c .sliceAcap|none=>pure n:Sem Nat).run P w=.ok hN w:=by
  cases hi with
  |none=>simp [TC] at hh;subst hh;simp
  |some v =>
   cases v <;> simp only [TC] at hh <;> try (cases hh;done)
   rename_i k i;split at hh
   ·rename_i hb;injection hh with hh;subst hh;simp [run_sliceBound_if,hb]
   ·cases hh
 have e2:(match lo with|some v=>Instr.sliceBound v hN .sliceB|none=>pure 0:Sem Nat).run P w=.ok l w:=by
  cases lo with
  |none=>simp [OL] at hl;subst hl;simp
  |some v =>
   cases v <;> simp only [OL] at hl <;> try (cases hl;done)
   rename_i k i;split at hl
   ·rename_i hb;injection hl with hl;subst hl;have:0≤i∧i≤hN:=⟨hb,by omega⟩;simp [run_sliceBound_if,this]
   ·cases hl
 have e3:(Instr.sliceBounds true n c lo hi none).run P w=.ok (l,hN,c) w:=by
  unfold Instr.sliceBounds;cases hi with
  |none =>
   simp at e1;subst e1;cases lo with
   |none=>simp at e2;subst e2;simp
   |some v=>simp at e2 ⊢;rw [e2];simp
  |some v =>
   simp at e1;cases lo with
   |none=>simp at e2;subst e2;simp [e1]
   |some v=>simp at e2 ⊢;rw [e1];simp [e2]
 simp only [Instr.sliceAt,Sem.run_bind,run_underlying ht,Result.andThen_ok,Instr.slice,e3,hs,Sem.run_pure]
theorem aIT {n c:Nat}{hi:Option Value}{G:Nat→Prop}(hl:vhi aF n c hi G):∃ hN,G hN∧(∀ c',c≤c'→TC n c' (hi.map (tr ι))=some hN)∧(hN=n∨hN≤c):=by
 unfold vhi at hl;split at hl
 ·exact⟨n,hl,fun _ _=>rfl,.inl rfl⟩
 ·rename_i k i;obtain⟨hb,hG⟩:=aD.1 hl;simp only [aF,Bool.and_eq_true,decide_eq_true_eq] at hb hG;refine⟨i.toNat,hG,fun c' hc=>?_,.inr (by omega)⟩;simp only [Option.map_some,gG,TC];rw [if_pos ⟨hb.1,by omega⟩]
 exact hl.elim
theorem JV {lo:Option Value}(h:isZero lo=true):OL (lo.map (tr ι))=some 0:=by
 unfold isZero at h;split at h
 ·rfl
 ·rfl
 ·cases h
theorem aAp {hi:Option Value}{c:Nat}(h:isZero hi=true):TC 0 c (hi.map (tr ι))=some 0:=by
 unfold isZero at h;split at h
 ·rfl
 ·simp [TC,gG]
 ·cases h
def Names (P:Program)(ι:Nat→Loc)(B nx:Nat)(w0:World)(h:Heap)(m:Sem Value)(K:KE):Prop :=
 ∃ v h' nx' ι',K v h' nx'∧eX ι' nx' v∧(∀ k,k<nx→ι' k=ι k)∧nx≤nx'∧∀ w,aQ ι B h nx w→aQ ι' B h' nx' w∧m.run P w=.ok (tr ι' v) w
theorem W0 {w:World}(H:aQ ι B h nx w){k b off ex q r x:Nat}(hι:ι k=.lay b off ex)(hx:(r=0∧x≤off+q)∨x=off+q):aQ (ins ι nx (.lay b x 0)) B (Z2 h nx k q r) (nx+1) w:=by
 unfold Z2;have hmem:∀ {cs:List Value} {v:Value},v∈(cs.drop q).take r→v∈cs:=fun hv=>List.mem_of_mem_drop (List.mem_of_mem_take hv);have hget:∀ {cs:List Value} {i:Nat} {v:Value},((cs.drop q).take r)[i]? = some v→x=off+q∧cs[q+i]? = some v:=fun {cs i v} hv=>by
  rw [List.getElem?_take] at hv;split at hv
  ·rename_i hlt;rw [List.getElem?_drop] at hv;exact⟨by omega,hv⟩
  ·cases hv
 split
 ·rename_i g sz cs hk;split
  ·rename_i hq;have hq:=Nat.le_of_ble_eq_true hq;obtain⟨h1,h2,arr,t,h3,h4,h5⟩:kI ι B w (.cells true g sz cs) (.lay b off ex):=hι▸H.obj k _ hk;refine (H.rem k).add _ _ ⟨h1,fun hg=>vH fun v hv=>aT (h2 hg) (hmem hv),arr,t,h3,?_,fun i v hv=>?_⟩ ?_ (fun j o' hj _ b' hb he=>?_)
   ·have:((cs.drop q).take r).length=r:=(by simp;omega);rw [this];rcases hx with ⟨h6,h7⟩|h6
    ·omega
    omega
   ·obtain⟨h6,h7⟩:=hget hv;have hs:=H.sc k _ hk v (hmem (List.mem_of_getElem? hv));rw [mF (ι:=ι) (fun j hj=>cG _ _ hj) hs,h6,Nat.add_assoc];exact h5 _ _ h7
   ·exact fun v hv=>gZ (by omega) (fun j hj=>cG _ _ hj) (H.sc k _ hk v (hmem hv))
   have hjk:k≠j:=fun e=>by
    subst e;rw [dN] at hj;simp at hj
   have hj':look h j=some o':=by
    rw [dN] at hj;split at hj
    ·cases hj
    exact hj
   refine H.sep k j _ o' hk hj' hjk rfl b' ?_ he;rw [hι];exact hb
  exact H.more _
 ·rename_i g sz cs hk;obtain⟨h1,h2,h5⟩:kI ι B w (.cells false g sz cs) (.lay b off ex):=hι▸H.obj k _ hk;refine H.add _ _ ⟨h1,fun hg=>vH fun v hv=>aT (h2 hg) (hmem hv),fun i v hv=>?_⟩ ?_ (fun j o' hj ha b' hb he=>?_)
  ·obtain⟨h6,h7⟩:=hget hv;have hs:=H.sc k _ hk v (hmem (List.mem_of_getElem? hv));rw [mF (ι:=ι) (fun j hj=>cG _ _ hj) hs,h6,Nat.add_assoc];exact h5 _ _ h7
  ·exact fun v hv=>gZ (by omega) (fun j hj=>cG _ _ hj) (H.sc k _ hk v (hmem hv))
  have hb2:(ι k).D0=some b':=(by rw [hι];exact hb);rcases ha with ha|ha
  ·cases ha
  by_cases hjk:j=k
  ·subst hjk;rw [hk] at hj;injection hj with hj;subst hj;cases ha
  exact H.sep j k o' _ hj hk hjk ha b' he hb2
 exact H.more _
theorem KQ (hT:cL P T){t:TypeId}{x:Value}{lo hi mx:Option Value}{K:KE}(hl:sY aF T h nx t x lo hi mx K)(hx:eX ι nx x){w0:World}(H0:aQ ι B h nx w0) :
  Names P ι B nx w0 h (Instr.sliceAt t (tr ι x) (lo.map (tr ι)) (hi.map (tr ι)) (mx.map (tr ι))) K:=by
 unfold sY at hl;split at hl
 case h_2=>exact hl.elim
 rename_i e s1 b1 z1 ht;split at hl
 ·exact hl.elim
 rename_i ei he;have hti:=hT t _ ht;have hei:=hT e _ he;have hts:=hti.sl rfl;split at hl
 ·split at hl
  case h_2=>exact hl.elim
  rename_i hz1 hz2;refine⟨_,_,_,ι,hl,by simp [eX,kU,gP,oL],fun _ _=>rfl,Nat.le_refl _,fun w H=>⟨H,?_⟩⟩;rw [dH,Option.map_none,j7 hts w (hei.sizeOf w) none (JV hz1) (aAp hz2) (Nat.le_refl _)];simp
 ·rename_i k o n c;have hx':k<nx∧((ι k).gR=false→n=0∧c=0):=hx;obtain⟨hN,hG,hhi,hle⟩:=aIT (ι:=ι) hl;split at hG
  ·refine⟨_,_,_,ι,hG,⟨hx'.1,fun e=>?_⟩,fun _ _=>rfl,Nat.le_refl _,fun w H=>⟨H,?_⟩⟩
   ·have:=hx'.2 e;omega
   ·cases hι:ι k with
    |nil p =>
     obtain⟨rfl,rfl⟩:=hx'.2 (by rw [hι];rfl);have h0:hN=0:=(by omega);subst h0;simp only [tr,dW,bO,dY,hι,Option.map_none];rw [j7 hts w (hei.sizeOf w) p (l:=0) rfl (hhi 0 (Nat.le_refl _)) (Nat.le_refl _)];simp
    |lay b off ex =>
     simp only [tr,dW,bO,dY,hι,Option.map_none];rw [j7 hts w (hei.sizeOf w) _ (l:=0) rfl (hhi (c+ex) (by omega)) (Nat.zero_le _)];simp [Addr.add_zero']
  ·rename_i kk l;obtain⟨hb,hG⟩:=aD.1 hG;simp only [aF,Bool.and_eq_true,decide_eq_true_eq] at hb;obtain⟨hb,hbc⟩:=hb;have hlo:OL ((some (Value.int kk l)).map (tr ι))=some l.toNat:=(by simp [OL,gG,hb.1]);split at hG
   ·rename_i wr g sz cs hk;rcases nW hG with ⟨hb2,hG⟩|⟨hb2,hG⟩
    ·simp only [aF,decide_eq_true_eq] at hb2 hG;refine⟨_,_,_,ι,hG,⟨hx'.1,fun e=>?_⟩,fun _ _=>rfl,Nat.le_refl _,fun w H=>⟨H,?_⟩⟩
     ·have:=hx'.2 e;omega
     ·cases hι:ι k with
      |nil p=>have:=hx'.2 (by rw [hι];rfl);omega
      |lay b off ex =>
       simp only [tr,dW,bO,dY,hι,Option.map_none];rw [j7 hts w (hei.sizeOf w) _ hlo (hhi (c+ex) (by omega)) (by omega),if_neg (by omega)];simp only [Option.map_some,Addr.add_lit,Nat.add_assoc];congr 2;omega
    simp only [aF,decide_eq_false_iff_not] at hb2 hG;cases hι:ι k with
    |nil p =>
     obtain⟨rfl,rfl⟩:=hx'.2 (by rw [hι];rfl);have h0:hN=0:=(by omega);subst h0;have hl0:l=0:=(by omega);subst hl0;refine⟨_,_,_,ins ι nx (.nil p),hG,⟨by simp,fun _=>⟨rfl,rfl⟩⟩,fun k hk=>cG _ _ hk,by omega,fun w H=>⟨H.more _,?_⟩⟩;simp only [tr,dW,bO,dY,hι,Option.map_none,aZ];rw [j7 hts w (hei.sizeOf w) p (l:=0) (by simp [OL,gG]) (hhi 0 (Nat.le_refl _)) (Nat.le_refl _)];simp
    |lay b off ex =>
     refine⟨_,_,_,ins ι nx (.lay b (off+o+(if c+ex=l.toNat then 0 else l.toNat*ei.size)) ex),hG,⟨by simp,fun e=>by rw [aZ] at e;cases e⟩,fun k hk=>cG _ _ hk,by omega,fun w H=>⟨H.more _,?_⟩⟩;simp only [tr,dW,bO,dY,hι,Option.map_none,aZ];rw [j7 hts w (hei.sizeOf w) _ hlo (hhi (c+ex) (by omega)) (by omega)];have e1:hN - l.toNat=0:=(by omega);have e2:c+ex - l.toNat=ex:=(by omega);rw [e1,e2];by_cases hce:c+ex=l.toNat
     ·rw [if_pos hce,if_pos hce];simp only [Nat.add_zero,Nat.zero_add]
     rw [if_neg hce,if_neg hce];simp only [Option.map_some,Addr.add_lit,Nat.add_zero,Nat.zero_add]
   exact hG.elim
  exact hG.elim
 ·rename_i k o n c kk;split at hl
  case h_2=>exact hl.elim
  rename_i kk' hz;have hx':k<nx∧((ι k).gR=false→n=0∧c=0):=hx;have hsl:∀ (w:World) (a:Option Addr) (m c':Nat),(Instr.sliceAt t (.slice a m c') (lo.map (tr ι)) (some (.int kk' 0)) (some (.int kk 0))).run P w=.ok (.slice a 0 0) w:=by
   intro w a m c';have e1:=JV (ι:=ι) hz;generalize lo.map (tr ι)=lo' at e1;cases lo' with
   |none =>
    simp [Instr.sliceAt,run_underlying hts,Instr.slice,Instr.sliceBounds,Instr.sliceBound,asIntOf,hei.sizeOf]
   |some v =>
    cases v <;> simp only [OL] at e1 <;> try (cases e1;done)
    rename_i k3 i;split at e1
    case isFalse=>cases e1
    have:i=0:=(by injection e1;omega);subst this;simp [Instr.sliceAt,run_underlying hts,Instr.slice,Instr.sliceBounds,Instr.sliceBound,asIntOf,hei.sizeOf]
  obtain⟨p,hp⟩:∃ p,∀ m c',∃ m' c'',tr ι (.slice (some ⟨k,o,none⟩) m c')=.slice p m' c'':=by
   cases hι:ι k with
   |nil p=>exact⟨p,fun m c'=>⟨m,c',by simp [tr,dW,bO,dY,hι]⟩⟩
   |lay b off ex=>exact⟨some ⟨b,off+o,none⟩,fun m c'=>⟨m,c'+ex,by simp [tr,dW,bO,dY,hι]⟩⟩
  refine⟨_,_,_,ins ι nx (.nil p),hl,⟨by simp,fun _=>by simp⟩,fun k hk=>cG _ _ hk,by omega,fun w H=>⟨?_,?_⟩⟩
  ·exact H.add .zero (.nil p) trivial trivial (fun k' o' _ _ b hb=>by cases hb)
  obtain⟨m',c'',e1⟩:=hp n c;rw [e1];have e2:tr (ins ι nx (.nil p)) (.slice (some ⟨nx,0,none⟩) 0 0)=.slice p 0 0:=(by simp [tr,dW,bO,dY,aZ]);rw [e2];exact hsl w _ _ _
 ·rename_i k o n c kk m hm0;split at hl
  case h_3=>exact hl.elim
  case h_2 =>
   rename_i k2 u;obtain⟨hb,hG⟩:=aD.1 hl;simp only [aF,Bool.and_eq_true,decide_eq_true_eq] at hb hG;obtain⟨hb2,hb3,hb4,hb5⟩:=hb;have hx':k<nx∧((ι k).gR=false→n=0∧c=0):=hx;cases hι:ι k with
   |nil p =>
    have:=(hx'.2 (by rw [hι];rfl)).2;omega
   |lay b off ex =>
    refine⟨_,_,_,ins ι nx (.lay b (off+o) 0),hG,⟨by simp,fun e=>by rw [aZ] at e;cases e⟩,fun k hk=>cG _ _ hk,by omega,fun w H=>⟨W0 H hι (.inr rfl),?_⟩⟩;have e1:tr ι (.slice (some ⟨k,o,none⟩) n c)=.slice (some ⟨b,off+o,none⟩) n (c+ex):=(by simp [tr,dW,bO,dY,hι]);have e2:∀ n c,tr (ins ι nx (.lay b (off+o) 0)) (.slice (some ⟨nx,0,none⟩) n c)=.slice (some ⟨b,off+o,none⟩) n c:=fun n c=>(by simp [tr,dW,bO,dY,aZ]);rw [e1,e2];simp only [Option.map_some,Option.map_none,gG];have b1:∀ (hi2:Nat) (wh:_),m≤(hi2:Int)→(Instr.sliceBound (.int kk m) hi2 wh).run P w=.ok m.toNat w:=fun hi2 wh hh=>by
     simp [run_sliceBound_if,show 0≤m∧m≤(hi2:Int) from ⟨by omega,hh⟩]
    have b2:∀ (hi2:Nat) (wh:_),u≤(hi2:Int)→(Instr.sliceBound (.int k2 u) hi2 wh).run P w=.ok u.toNat w:=fun hi2 wh hh=>by
     simp [run_sliceBound_if,show 0≤u∧u≤(hi2:Int) from ⟨by omega,hh⟩]
    simp only [Instr.sliceAt,Sem.run_bind,run_underlying hts,Result.andThen_ok,Instr.slice,Instr.sliceBounds,b1 (c+ex) _ (by omega),b2 m.toNat _ (by omega),hei.sizeOf,Sem.run_pure];have hm1:m.toNat≠0:=(by omega);simp [hm1,Addr.add_lit,Nat.add_assoc]
  rename_i k1 l k2 u;obtain⟨hb,hG⟩:=aD.1 hl;simp only [aF,Bool.and_eq_true,decide_eq_true_eq] at hb hG;obtain⟨⟨hb1,hb2⟩,hb3,hb4,hb5⟩:=hb;have hx':k<nx∧((ι k).gR=false→n=0∧c=0):=hx;cases hι:ι k with
  |nil p =>
   have:=(hx'.2 (by rw [hι];rfl)).2;omega
  |lay b off ex =>
   refine⟨_,_,_,ins ι nx (.lay b (off+o+(if m.toNat=l.toNat then 0 else l.toNat*ei.size)) 0),hG,⟨by simp,fun e=>by rw [aZ] at e;cases e⟩,fun k hk=>cG _ _ hk,by omega,fun w H=>⟨W0 H hι (by rcases Nat.eq_zero_or_pos (m.toNat - l.toNat) with h0|h0 <;> first|(rw [if_pos (by omega)];exact .inl ⟨by rw [h0,Nat.zero_mul],by omega⟩)|(rw [if_neg (by omega)];exact .inr (by omega))),?_⟩⟩;have e1:tr ι (.slice (some ⟨k,o,none⟩) n c)=.slice (some ⟨b,off+o,none⟩) n (c+ex):=(by simp [tr,dW,bO,dY,hι]);have e2:∀ n c,tr (ins ι nx (.lay b (off+o+(if m.toNat=l.toNat then 0 else l.toNat*ei.size)) 0)) (.slice (some ⟨nx,0,none⟩) n c)=.slice (some ⟨b,off+o+(if m.toNat=l.toNat then 0 else l.toNat*ei.size),none⟩) n c:=fun n c=>(by simp [tr,dW,bO,dY,aZ]);rw [e1,e2];simp only [Option.map_some,gG];have b1:∀ (hi2:Nat) (wh:_),m≤(hi2:Int)→(Instr.sliceBound (.int kk m) hi2 wh).run P w=.ok m.toNat w:=fun hi2 wh hh=>by
    simp [run_sliceBound_if,show 0≤m∧m≤(hi2:Int) from ⟨by omega,hh⟩]
   have b2:∀ (hi2:Nat) (wh:_),u≤(hi2:Int)→(Instr.sliceBound (.int k2 u) hi2 wh).run P w=.ok u.toNat w:=fun hi2 wh hh=>by
    simp [run_sliceBound_if,show 0≤u∧u≤(hi2:Int) from ⟨by omega,hh⟩]
   have b3:∀ (hi2:Nat) (wh:_),l≤(hi2:Int)→(Instr.sliceBound (.int k1 l) hi2 wh).run P w=.ok l.toNat w:=fun hi2 wh hh=>by
    simp [run_sliceBound_if,show 0≤l∧l≤(hi2:Int) from ⟨by omega,hh⟩]
   simp only [Instr.sliceAt,Sem.run_bind,run_underlying hts,Result.andThen_ok,Instr.slice,Instr.sliceBounds,b1 (c+ex) _ (by omega),b2 m.toNat _ (by omega),b3 u.toNat _ (by omega),hei.sizeOf,Sem.run_pure];by_cases hml:m.toNat=l.toNat
   ·simp [hml]
   simp [hml,Addr.add_lit,Nat.add_assoc]
 exact hl.elim
end
def I3 (h:Heap)(sz:Nat)(x:Value)(G:Nat→List Value→Prop):Prop :=
 match x with
 |.slice none 0 0=>G 0 []
 |.slice (some ⟨k,o,none⟩) m _ =>
  (match look h k with
  |some (.cells _ _ _ cs)=>dT (Nat.ble (o+m*sz) cs.length) (G m ((cs.drop o).take (m*sz)))
  |some .zero=>(match m with|0=>G 0 []|_=>False)
  |none=>(match m with|0=>G 0 []|_=>False)
  |_=>False)
 |_=>False
def jZ (A:Ar)(T:cQ)(h:Heap)(nx:Nat)(t:TypeId)(l c:Value)(K:KE):Prop :=
 match look T t,l,c with
 |some { kind:=.sl e,.. },.int .i64 i,.int .i64 j =>
  (match look T e with
  |some ei=>dT (A.andB (A.andB (A.le 0 i) (A.le i j)) (A.andB (A.le j 1000000000) (Nat.ble ei.bytes 1000)))
   (K (.slice (some ⟨nx,0,none⟩) (A.eP i) (A.eP j)) (cU h nx (.cells true false ei.size (rep (A.eP j) ei.zv.cells.toList))) (nx+1))
  |none=>False)
 |_,_,_=>False
def lN (A:Ar)(T:cQ)(h:Heap)(nx:Nat)(st xt:TypeId)(s x:Value)(K:KE):Prop :=
 match look T st,look T xt with
 |some { kind:=.sl e,.. },some { kind:=.int _,.. } =>
  (match look T e with
  |some ei=>(match s,x,Nat.ble ei.bytes 1000 with
   |.slice none 0 0,.int .i64 i,true=>dT (A.andB (A.lt 0 i) (A.le i 1000000000)) (K (.slice (some ⟨nx,0,none⟩) (A.eP i) (A.eP i)) (cU h nx (.cells true false ei.size (rep (A.eP i) ei.zv.cells.toList))) (nx+1))
   |_,_,_=>False)
  |none=>False)
 |some { kind:=.sl e,.. },some { kind:=.sl _,.. } =>
  (match look T e with
  |none=>False
  |some ei =>
   match Nat.ble ei.bytes 1000 with
   |false=>False
   |true =>
    I3 h ei.size x fun m src =>
     (match s with
     |.slice none 0 0=>br (Nat.beq m 0) (fun _=>K (.slice none 0 0) h nx)
      (fun _=>dT (Nat.ble m 1000000000) (K (.slice (some ⟨nx,0,none⟩) m m) (cU h nx (.cells true false ei.size src)) (nx+1)))
     |.slice (some ⟨k,o,none⟩) n c =>
      (match look h k with
      |some .zero=>(match n,c with
       |0,0=>br (Nat.beq m 0) (fun _=>K (.slice (some ⟨k,o,none⟩) 0 0) h nx)
        (fun _=>dT (Nat.ble m 1000000000) (K (.slice (some ⟨nx,0,none⟩) m m) (cU h nx (.cells true false ei.size src)) (nx+1)))
       |_,_=>False)
      |some (.cells true _ sz cs) =>
       br (Nat.ble (n+m) c)
        (fun _=>dT (Nat.ble (o+(n+m)*ei.size) cs.length) (K (.slice (some ⟨k,o,none⟩) (n+m) c) (xA h k (.cells true false sz (eY cs (o+n*ei.size) src))) nx))
        (fun _=>dT (A.andB (A.andB (Nat.ble (n+m) 1000000000) (Nat.ble (o+n*ei.size) cs.length)) (A.andB (Nat.beq (o+c*ei.size) cs.length) (Nat.beq sz ei.size)))
         (K (.slice (some ⟨nx,0,none⟩) (n+m) (n+m)) (cU (rem h k) nx (.cells true false ei.size ((cs.drop o).take (n*ei.size)++src))) (nx+1)))
      |_=>False)
     |_=>False))
 |_,_=>False
section
variable {P:Program}{T:cQ}{ι:Nat→Loc}{B nx:Nat}{h:Heap}
theorem aQ.drawn {w:World}(H:aQ ι B h nx w)(c:Nat):aQ ι B h nx { w with drawn:=c } :=
 H.BP (fun _ _ _ _ _=>rfl) (Nat.le_refl _)
theorem aQ.win {w:World}(H:aQ ι B h nx w){k:Nat}{wr g:Bool}{sz:Nat}{cs:List Value}(hk:look h k=some (.cells wr g sz cs)){b off e:Nat}(hι:ι k=.lay b off e){o n:Nat}(hl:o+n≤cs.length) :
  (loadCells ⟨b,off+o,none⟩ n).run P w=.ok (((cs.drop o).take n).map (bO ι)).toArray w:=by
 have hlen:(((cs.drop o).take n).map (bO ι)).length=n:=(by simp;omega);have:=run_loadCells_list (P:=P) w ⟨b,off+o,none⟩ (((cs.drop o).take n).map (bO ι)) (fun j v hj=>by
  obtain⟨u,hu,rfl⟩:=oT hj;rw [List.getElem?_take] at hu;split at hu
  case isFalse=>cases hu
  rw [List.getElem?_drop] at hu;obtain⟨b',off',e',hι',hc⟩:=H.cell hk hu;rw [hι] at hι';injection hι' with e1 e2 e3;subst e1;subst e2;rw [Addr.add_lit,Nat.add_assoc];exact hc)
 rwa [hlen] at this
theorem aE3 {sz:Nat}{x:Value}{G:Nat→List Value→Prop}(hl:I3 h sz x G)(hx:eX ι nx x){w:World}(H:aQ ι B h nx w) :
  ∃ m src,G m src∧src.length=m*sz∧(∀ v∈src,gP ι nx v)∧Src P w sz (tr ι x) m (src.map (bO ι)):=by
 unfold I3 at hl;split at hl
 ·exact⟨0,[],hl,by simp,by simp,⟨by simp [dH,Builtin.lenOf],fun c=>by simp [dH,Builtin.firstCells]⟩⟩
 ·rename_i k o m c;have hx':k<nx∧((ι k).gR=false→m=0∧c=0):=hx;split at hl
  ·rename_i wr g sz' cs hk;obtain⟨hb,hG⟩:=aD.1 hl;have hb:=Nat.le_of_ble_eq_true hb;refine⟨m,_,hG,by simp;omega,fun v hv=>H.sc k _ hk v (List.mem_of_mem_drop (List.mem_of_mem_take hv)),?_⟩;cases hι:ι k with
   |nil p =>
    obtain⟨rfl,rfl⟩:=hx'.2 (by rw [hι];rfl);refine⟨by simp [tr,dW,bO,dY,hι,Builtin.lenOf],fun c=>?_⟩;cases p with
    |none=>simp [tr,dW,bO,dY,hι,Builtin.firstCells]
    |some p=>simp [tr,dW,bO,dY,hι,Builtin.firstCells,loadCells,loadCellsFrom]
   |lay b off e =>
    refine⟨by simp [tr,dW,bO,dY,hι,Builtin.lenOf],fun c=>?_⟩;simp only [tr,dW,bO,dY,hι,Builtin.firstCells];exact (H.drawn c).win hk hι hb
  ·rename_i hk;split at hl
   case h_2=>exact hl.elim
   refine⟨0,[],hl,by simp,by simp,?_⟩;have hob:=H.obj k _ hk;cases hι:ι k with
   |nil p =>
    refine⟨by simp [tr,dW,bO,dY,hι,Builtin.lenOf],fun c=>?_⟩;cases p with
    |none=>simp [tr,dW,bO,dY,hι,Builtin.firstCells]
    |some p=>simp [tr,dW,bO,dY,hι,Builtin.firstCells,loadCells,loadCellsFrom]
   |lay b off e=>rw [hι] at hob;exact hob.elim
  ·rename_i hk;split at hl
   case h_2=>exact hl.elim
   refine⟨0,[],hl,by simp,by simp,?_⟩;cases hι:ι k with
   |nil p =>
    refine⟨by simp [tr,dW,bO,dY,hι,Builtin.lenOf],fun c=>?_⟩;cases p with
    |none=>simp [tr,dW,bO,dY,hι,Builtin.firstCells]
    |some p=>simp [tr,dW,bO,dY,hι,Builtin.firstCells,loadCells,loadCellsFrom]
   |lay b off e =>
    refine⟨by simp [tr,dW,bO,dY,hι,Builtin.lenOf],fun c=>?_⟩;simp [tr,dW,bO,dY,hι,Builtin.firstCells,loadCells,loadCellsFrom]
  exact hl.elim
 exact hl.elim
theorem aQ.grown {w:World}(H:aQ ι B h nx w)(e:TypeId)(cs:List Value)(sz cap need:Nat)(zs:List Value)(hz:zs.length=(cap - need)*sz)(hs:∀ v∈cs,gP ι nx v) :
  aQ (ins ι nx (.lay w.heap.size 0 (cap - need))) B (cU h nx (.cells true false sz cs)) (nx+1) (w.alloc (.cells (cs.map (bO ι)++zs).toArray e)):=by
 refine (H.ext (dK w _)).add _ _ ?_ ?_ (fun k o' hk _ b hb e'=>?_)
 ·refine⟨H.size,by simp,_,e,(MapKept.heap_alloc w _).1,by simp [hz],fun i v hv=>?_⟩;have hlt:=(List.getElem?_eq_some_iff.1 hv).1;rw [Nat.zero_add,List.getElem?_toArray,List.getElem?_append_left (by simpa using hlt),List.getElem?_map,hv];simp only [Option.map_some];rw [mF (ι:=ι) (fun k hk=>cG _ _ hk) (hs v (List.mem_of_getElem? hv))]
 ·intro v hv;exact gZ (by omega) (fun k hk=>cG _ _ hk) (hs v hv)
 have h1:=(H.obj k o' hk).lt e';have:w.heap.size=b:=(by simpa [Loc.D0] using hb);omega
theorem PF {cs:List Value}{o:Nat}:eY cs o []=cs:=by simp [eY]
theorem aQ.aKX {w:World}(H:aQ ι B h nx w){k:Nat}{g:Bool}{sz:Nat}{cs:List Value}(hk:look h k=some (.cells true g sz cs)){b off e:Nat}(hι:ι k=.lay b off e){o:Nat}{vs:List Value}(ho:o+vs.length≤cs.length)
  (hs:∀ v∈vs,gP ι nx v) :
  ∃ w',(storeCells ⟨b,off+o,none⟩ (vs.map (bO ι))).run P w=.ok () w'∧gF B w w'∧aQ ι B (xA h k (.cells true false sz (eY cs o vs))) nx w':=by
 by_cases hne:vs=[]
 ·subst hne;refine⟨w,by simp [storeCells],gF.refl _ _,?_⟩;rw [PF];have hob:=H.obj k _ hk;rw [hι] at hob;refine H.set hk rfl ?_ (fun v hv=>H.OY hk hv) rfl (fun _ _=>rfl) (Nat.le_refl _);rw [hι];exact⟨hob.1,by simp,hob.2.2⟩
 obtain⟨b',off',e',w',hι',h1,h2,h3⟩:=H.put (P:=P) hk ho hs hne;rw [hι] at hι';injection hι' with e1 e2 e3;subst e1;subst e2;exact⟨w',h1,h2,h3⟩
end
section
variable {P:Program}{T:cQ}{ι:Nat→Loc}{B nx:Nat}{h:Heap}
theorem HI {sz m:Nat}{src:List Value}(h1:src.length=m*sz)(h0:m=0):src=[]:=by
 subst h0;cases src with
 |nil=>rfl
 |cons a r=>simp at h1
theorem o7 {st xt e:TypeId}{ei si:RR}{d:TypeDesc}(hds:P.underlying st=some (.slice e))(hdx:P.underlying xt=some d)(hd:∀ k,d≠.int k)(hT:cL P T)(he:look T e=some ei)(hby:ei.bytes≤1000)
  {ty:TypeId} {x:Value} {m:Nat} {src olds:List Value} (hlen:src.length=m*ei.size) (hsc:∀ v∈src,gP ι nx v)
  {w:World} (H:aQ ι B h nx w) (hsrc:Src P w ei.size x m (src.map (bO ι))) {base:Option Addr} {n c:Nat} (hlo:olds.length=n*ei.size) (hos:∀ v∈olds,gP ι nx v)
  (hold:(Builtin.firstCells ei.size n (.slice base n c)).run P w.drew=.ok (olds.map (bO ι)).toArray w.drew) (hroom:c<n+m) (hm:n+m≤1000000000) {K:KE}
  (hK:K (.slice (some ⟨nx,0,none⟩) (n+m) (n+m)) (cU h nx (.cells true false ei.size (olds++src))) (nx+1)) :
  MN P ι B nx w (Builtin.append_ #[st,xt] ty #[.slice base n c,x]) K:=by
 have hei:=hT e _ he;obtain⟨inf,hi,h1,h2,h3⟩:=hei.info;obtain⟨cap,hc,hrun⟩:=GV (ty:=ty) hds hdx hd hi h3 w base n c m x (src.map (bO ι)) (olds.map (bO ι)) (by rw [h1];exact hsrc) (by rw [h1];exact hold) hroom (by omega) hm;have H':aQ ι B h nx w.drew:=H.drawn _;have hg:=H'.grown e (olds++src) ei.size cap (n+m) (Builtin.zeroCells ei.zv.cells (cap - (n+m))).toList (by
  rw [Array.length_toList,size_zeroCells,hei.zs]) (by
  intro v hv;rcases List.mem_append.1 hv with hv|hv
  ·exact hos v hv
  exact hsc v hv)
 refine⟨_,_,_,_,_,hK,?_,hg,?_,fun k hk=>cG _ _ hk,by omega,?_⟩
 ·simp [eX,kU,gP,oL,aZ,Loc.gR]
 ·exact gF.trans (⟨rfl,rfl,rfl,Nat.le_refl _,fun _ _=>rfl,Nat.le_succ _⟩:gF B w w.drew) ((dK w.drew _).mono H.size)
 rw [hrun];simp only [tr,dW,bO,dY,aZ,List.map_append,Nat.add_zero];congr 2
 ·omega
theorem I0 (hT:cL P T){t:TypeId}{l c:Value}{K:KE}(hl:jZ aF T h nx t l c K){w:World}(H:aQ ι B h nx w) :
  MN P ι B nx w (Instr.makeSlice t (tr ι l) (tr ι c)) K:=by
 unfold jZ at hl;split at hl
 case h_2=>exact hl.elim
 rename_i e s1 b1 z1 i j ht;split at hl
 case h_2=>exact hl.elim
 rename_i ei he;obtain⟨hb,hK⟩:=aD.1 hl;simp only [aF,Bool.and_eq_true,decide_eq_true_eq] at hb hK;obtain⟨⟨hb1,hb2⟩,hb3,hb4⟩:=hb;have hb4:=Nat.le_of_ble_eq_true hb4;have hts:=(hT t _ ht).sl rfl;have hei:=hT e _ he;obtain⟨inf,hi,hi1,hi2,hi3⟩:=hei.info;have hz:=qE hT he;have hrep:∀ v∈rep j.toNat ei.zv.cells.toList,gS v=true:=by
  intro v hv;simp only [rep,List.mem_flatten,List.mem_replicate] at hv;obtain⟨l,⟨_,rfl⟩,hv⟩:=hv;exact hz v hv
 have hcells:madeCells ei.zv.cells (j.toNat*inf.size)=(rep j.toNat ei.zv.cells.toList).toArray:=by
  have:=jS ei.zv.cells j.toNat;rw [← this,hi1,← hei.zs];rfl
 have h3:(inf.bytes:Int)*j≤281474976710656:=by
  have h3:inf.bytes*j.toNat≤1000*1000000000:=Nat.mul_le_mul (by omega) (by omega);have h4:((inf.bytes*j.toNat:Nat):Int)=inf.bytes*j:=(by rw [Int.natCast_mul,Int.toNat_of_nonneg (by omega)]);omega
 have hrun:=run_make (P:=P) w t e inf ei.zv hts hi hi3 .i64 .i64 i j hb1 hb2 h3 (by omega);have hf:=H.fresh e (madeCells ei.zv.cells (j.toNat*inf.size)) (rep j.toNat ei.zv.cells.toList) ei.size (by rw [hcells,nN hrep]) (fun v hv=>bY (hrep v hv));refine⟨_,_,_,_,_,hK,?_,hf,?_,fun k hk=>cG _ _ hk,by omega,?_⟩
 ·simp [eX,kU,gP,oL,aZ,Loc.gR]
 ·exact (dK w _).mono H.size
 rw [gG,gG,hrun];simp [tr,dW,bO,dY,aZ]
theorem UK (hT:cL P T){st xt ty:TypeId}{s x:Value}{K:KE}(hl:lN aF T h nx st xt s x K)(hs:eX ι nx s)(hx:eX ι nx x){w:World}(H:aQ ι B h nx w) :
  MN P ι B nx w (Builtin.append_ #[st,xt] ty #[tr ι s,tr ι x]) K:=by
 unfold lN at hl;split at hl
 case h_3=>exact hl.elim
 case h_1 =>
  rename_i e s1 b1 z1 ik s2 b2 z2 hst hxt;split at hl
  case h_2=>exact hl.elim
  rename_i ei he;split at hl
  case h_2=>exact hl.elim
  rename_i i hby
  have hby:=Nat.le_of_ble_eq_true hby
  obtain⟨hb,hK⟩:=aD.1 hl;simp only [aF,Bool.and_eq_true,decide_eq_true_eq] at hb hK;have hds:=(hT st _ hst).sl rfl;have hdx:=(hT xt _ hxt).int rfl;have hei:=hT e _ he;obtain⟨inf,hi,hi1,hi2,hi3⟩:=hei.info;have hz:=qE hT he;have hrep:∀ v∈rep i.toNat ei.zv.cells.toList,gS v=true:=by
   intro v hv;simp only [rep,List.mem_flatten,List.mem_replicate] at hv;obtain⟨l,⟨_,rfl⟩,hv⟩:=hv;exact hz v hv
  have hg:=(H.drawn (w.drawn+1)).grown e (rep i.toNat ei.zv.cells.toList) ei.size (grownCap w i.toNat 0 e) i.toNat (Builtin.zeroCells ei.zv.cells (grownCap w i.toNat 0 e - i.toNat)).toList (by
   rw [Array.length_toList,size_zeroCells,hei.zs]) (fun v hv=>bY (hrep v hv))
  refine⟨_,_,_,_,_,hK,?_,hg,?_,fun k hk=>cG _ _ hk,by omega,?_⟩
  ·simp [eX,kU,gP,oL,aZ,Loc.gR]
  ·exact gF.trans (⟨rfl,rfl,rfl,Nat.le_refl _,fun _ _=>rfl,Nat.le_succ _⟩:gF B w w.drew) ((dK w.drew _).mono H.size)
  have hn0:i.toNat≠0:=(by omega);have hpos:=hei.pos;have hns:¬ (i.toNat*ei.size=0):=Nat.pos_iff_ne_zero.1 (Nat.mul_pos (by omega) hpos);have hwr:IntKind.i64.wrap i=i:=IntWalk.i64_in i ⟨by omega,by omega⟩;have hfit:Builtin.nextslicecap i.toNat 0*inf.bytes≤281474976710656:=growslice_fits (by omega) (by
   have:=Nat.mul_le_mul (show i.toNat≤1000000000 by omega) (show inf.bytes≤1000 by omega);omega)
  have c1:¬ (i<0):=(by omega);have c2:¬ (281474976710656<i*(inf.bytes:Int)):=by
   have h3:i.toNat*inf.bytes≤1000000000*1000:=Nat.mul_le_mul (by omega) (by omega);have h4:((i.toNat*inf.bytes:Nat):Int)=i*inf.bytes:=(by rw [Int.natCast_mul,Int.toNat_of_nonneg (by omega)]);omega
  have c3:¬ (i.toNat=0):=hn0;have c4:¬ (9223372036854775807<(i.toNat:Int)):=(by omega);have c5:¬ (281474976710656<Builtin.nextslicecap i.toNat 0*inf.bytes):=(by omega);have c6:¬ (i.toNat=0∨inf.size=0):=(by omega);have hz':(Builtin.zeroCells ei.zv.cells i.toNat).toList=rep i.toNat ei.zv.cells.toList:=jS _ _;rw [dH,gG];simp only [tr,dW,bO,dY,aZ,Nat.add_zero];simp [Builtin.append_,run_underlying hds,run_underlying hdx,sizeOf,typeInfo,zeroValue,asInt,asIntOf,hi,hi3,hwr,c1,c2,c3,c4,c5,c6,Question.forced,newRow,grownCap,Builtin.firstCells,nN hrep];have d1:¬ (i≤0):=(by omega);have d2:¬ (9223372036854775807<max i 0):=(by omega);have d3:¬ (i.toNat*inf.size=0):=(by rw [hi1];exact hns);have d4:i.toNat+(grownCap w i.toNat 0 e - i.toNat)=grownCap w i.toNat 0 e:=by
   have:=grownCap_ge w i.toNat 0 e;omega
  simp only [grownCap] at d4;rw [if_neg d1,if_neg d2,if_neg d3,d4,← hz',← Array.toList_append]
 rename_i e s1 b1 z1 e' s2 b2 z2 hst hxt;split at hl
 ·exact hl.elim
 rename_i ei he;split at hl
 ·exact hl.elim
 rename_i hby
 have hby:=Nat.le_of_ble_eq_true hby
 have hds:=(hT st _ hst).sl rfl;have hdx:=(hT xt _ hxt).sl rfl;have hd:∀ k,TypeDesc.slice e'≠.int k:=fun k e=>(by cases e);have hei:=hT e _ he;obtain⟨inf,hi,hi1,hi2,hi3⟩:=hei.info;obtain⟨m,src,hG,hlen,hsc,hsrc⟩:=aE3 (P:=P) hl hx H;have hfirst0:∀ (p:Option Addr),(Builtin.firstCells ei.size 0 (.slice p 0 0)).run P w.drew=.ok (([]:List Value).map (bO ι)).toArray w.drew:=by
  intro p;cases p <;> simp [Builtin.firstCells,loadCells,loadCellsFrom]
 split at hG
 ·rcases nW hG with ⟨hm,hK⟩|⟨hm,hK⟩
  ·have hm:=beq_true hm;have:=HI hlen hm;subst this;subst hm;refine⟨_,_,_,ι,w,hK,by simp [eX,kU,gP,oL],H,gF.refl _ _,fun _ _=>rfl,Nat.le_refl _,?_⟩;rw [dH,jP hds hdx hd hi w none 0 0 0 (tr ι x) [] (by rw [hi1];exact hsrc) (by omega)];rfl
  obtain⟨h1,hK⟩:=aD.1 hK;have hm:=beq_false hm;have h1:=Nat.le_of_ble_eq_true h1;rw [dH];exact o7 (si:=ei) (olds:=[]) hds hdx hd hT he hby hlen hsc H hsrc (by simp) (by simp) (hfirst0 none) (by omega) (by omega) (by simpa using hK)
 ·rename_i k o n c;have hs':k<nx∧((ι k).gR=false→n=0∧c=0):=hs;split at hG
  ·rename_i hk;split at hG
   case h_2=>exact hG.elim
   have hob:=H.obj k _ hk;cases hι:ι k with
   |lay b off ex=>rw [hι] at hob;exact hob.elim
   |nil p =>
    have htr:tr ι (.slice (some ⟨k,o,none⟩) 0 0)=.slice p 0 0:=(by simp [tr,dW,bO,dY,hι]);rw [htr];rcases nW hG with ⟨hm,hK⟩|⟨hm,hK⟩
    ·have hm:=beq_true hm;have:=HI hlen hm;subst this;subst hm;refine⟨_,_,_,ι,w,hK,hs,H,gF.refl _ _,fun _ _=>rfl,Nat.le_refl _,?_⟩;rw [htr,jP hds hdx hd hi w p 0 0 0 (tr ι x) [] (by rw [hi1];exact hsrc) (by omega)];cases p <;> simp [storeCells]
    obtain⟨h1,hK⟩:=aD.1 hK;have hm:=beq_false hm;have h1:=Nat.le_of_ble_eq_true h1;exact o7 (si:=ei) (olds:=[]) hds hdx hd hT he hby hlen hsc H hsrc (by simp) (by simp) (hfirst0 p) (by omega) (by omega) (by simpa using hK)
  ·rename_i g sz cs hk;rcases nW hG with ⟨hm,hK⟩|⟨hm,hK⟩
   ·obtain⟨hb,hK⟩:=aD.1 hK;have hb:=Nat.le_of_ble_eq_true hb;have hm:=Nat.le_of_ble_eq_true hm;have hmul:(n+m)*ei.size=n*ei.size+m*ei.size:=Nat.add_mul _ _ _;cases hι:ι k with
    |nil p =>
     obtain⟨rfl,rfl⟩:=hs'.2 (by rw [hι];rfl);have hm0:m=0:=(by omega);have:=HI hlen hm0;subst this;subst hm0;have htr:tr ι (.slice (some ⟨k,o,none⟩) 0 0)=.slice p 0 0:=(by simp [tr,dW,bO,dY,hι]);rw [PF] at hK;refine⟨_,_,_,ι,w,hK,by exact⟨hs'.1,fun _=>⟨rfl,rfl⟩⟩,?_,gF.refl _ _,fun _ _=>rfl,Nat.le_refl _,?_⟩
     ·refine H.set hk rfl ?_ (fun v hv=>H.OY hk hv) rfl (fun _ _=>rfl) (Nat.le_refl _);have hob:=H.obj k _ hk;rw [hι] at hob ⊢;exact hob
     rw [htr,jP hds hdx hd hi w p 0 0 0 (tr ι x) [] (by rw [hi1];exact hsrc) (by omega)];cases p <;> simp [storeCells,tr,dW,bO,dY,hι]
    |lay b off ex =>
     obtain⟨w',h1,h2,h3⟩:=H.aKX (P:=P) hk hι (o:=o+n*ei.size) (vs:=src) (by omega) hsc;have htr:∀ n c,tr ι (.slice (some ⟨k,o,none⟩) n c)=.slice (some ⟨b,off+o,none⟩) n (c+ex):=fun n c=>(by simp [tr,dW,bO,dY,hι]);refine⟨_,_,_,ι,w',hK,⟨hs'.1,fun h=>by rw [hι] at h;cases h⟩,h3,h2,fun _ _=>rfl,Nat.le_refl _,?_⟩;rw [htr,htr,jP hds hdx hd hi w (some ⟨b,off+o,none⟩) n (c+ex) m (tr ι x) (src.map (bO ι)) (by rw [hi1];exact hsrc) (by omega)];simp only [hi1,Addr.add_lit,Nat.add_assoc] at h1 ⊢;rw [h1];rfl
   obtain⟨hb,hK'⟩:=aD.1 hK;clear hK;simp only [aF,Bool.and_eq_true] at hb;obtain⟨⟨hb1,hb2⟩,hb3,hb4⟩:=hb;have hb1:=Nat.le_of_ble_eq_true hb1;have hb2:=Nat.le_of_ble_eq_true hb2;have hb3:=beq_true hb3;have hb4:=beq_true hb4;subst hb4;have hm:¬ (n+m≤c):=fun hle=>by
    have:=Nat.ble_eq_true_of_le hle;rw [hm] at this;cases this
   have hmul:(n+m)*ei.size=n*ei.size+m*ei.size:=Nat.add_mul _ _ _;have hoc:∀ v∈(cs.drop o).take (n*ei.size),gP ι nx v:=fun v hv=>H.OY hk (List.mem_of_mem_drop (List.mem_of_mem_take hv));have hol:((cs.drop o).take (n*ei.size)).length=n*ei.size:=(by simp;omega);cases hι:ι k with
   |nil p =>
    obtain⟨rfl,rfl⟩:=hs'.2 (by rw [hι];rfl);have htr:tr ι (.slice (some ⟨k,o,none⟩) 0 0)=.slice p 0 0:=(by simp [tr,dW,bO,dY,hι]);rw [htr];refine o7 (si:=ei) (olds:=[]) hds hdx hd hT he hby hlen hsc (H.rem k) hsrc (by simp) (by simp) (hfirst0 p) (by omega) (by omega) ?_;simpa using hK'
   |lay b off ex =>
    have htr:tr ι (.slice (some ⟨k,o,none⟩) n c)=.slice (some ⟨b,off+o,none⟩) n (c+ex):=(by simp [tr,dW,bO,dY,hι]);rw [htr];by_cases hin:n+m≤c+ex
    ·-- in place,beyond what was known
     have hob:=H.obj k _ hk;rw [hι] at hob;obtain⟨hB,_,arr,t,a1,a2,a3⟩:=hob;have hone:∀ v∈src.map (bO ι),v.oneCell'=true:=by
      intro v hv;obtain⟨u,hu,rfl⟩:=List.mem_map.1 hv;exact (tX (hsc u hu)).1
     have hroom2:(n+m)*ei.size≤(c+ex)*ei.size:=Nat.mul_le_mul_right _ hin;have hcx:(c+ex)*ei.size=c*ei.size+ex*ei.size:=Nat.add_mul _ _ _;obtain⟨w',arr',e1,e2,e3,e4,e5⟩:=oD (P:=P) (off:=off+(o+n*ei.size)) (src.map (bO ι)) 0 w arr hone a1 (by simp;omega);have Hr:aQ ι B (rem h k) nx w':=by
      refine (H.rem k).BP (fun j o' b' hj hb'=>e2.other b' (fun e=>?_)) (Nat.le_of_eq e2.size.symm);subst e;rw [dN] at hj;split at hj
      ·cases hj
      rename_i hjk;exact H.sep k j _ o' hk hj (fun e=>hjk e.symm) rfl b' (by rw [hι];rfl) hb'
     have hnew:=Hr.add (.cells true false ei.size ((cs.drop o).take (n*ei.size)++src)) (.lay b (off+o) (c+ex - (n+m))) (by
      refine⟨hB,by simp,arr',t,e3,?_,fun i v hv=>?_⟩
      ·have:(c+ex - (n+m))*ei.size=(c+ex)*ei.size - (n+m)*ei.size:=Nat.sub_mul _ _ _;rw [e4,List.length_append,hol,hlen];omega
      ·rw [e5];simp only [List.length_map,Nat.add_zero];have hmem:=List.mem_of_getElem? hv;have hscv:gP ι nx v:=by
        rcases List.mem_append.1 hmem with hv|hv
        ·exact hoc v hv
        exact hsc v hv
       rw [mF (fun k hk=>cG _ _ hk) hscv];by_cases hi':i<n*ei.size
       ·rw [List.getElem?_append_left (by omega)] at hv;rw [List.getElem?_take_of_lt hi',List.getElem?_drop] at hv;rw [if_neg (by omega),Nat.add_assoc];exact a3 _ v hv
       rw [List.getElem?_append_right (by omega),hol] at hv;have:=(List.getElem?_eq_some_iff.1 hv).1;rw [if_pos (by omega),show off+o+i - (off+(o+n*ei.size))=i - n*ei.size by omega,List.getElem?_map,hv];rfl) (by
      intro v hv;refine gZ (by omega) (fun k hk=>cG _ _ hk) ?_;rcases List.mem_append.1 hv with hv|hv
      ·exact hoc v hv
      ·exact hsc v hv) (by
      intro j o' hj _ b' hb';have:b=b':=(by simpa [Loc.D0] using hb');subst this;rw [dN] at hj;split at hj
      ·cases hj
      rename_i hjk;exact H.sep k j _ o' hk hj (fun e=>hjk e.symm) rfl b (by rw [hι];rfl))
     refine⟨_,_,_,_,w',hK',?_,hnew,e2.below hB,fun k hk=>cG _ _ hk,by omega,?_⟩
     ·simp [eX,kU,gP,oL,aZ,Loc.gR]
     rw [jP hds hdx hd hi w (some ⟨b,off+o,none⟩) n (c+ex) m (tr ι x) (src.map (bO ι)) (by rw [hi1];exact hsrc) hin];simp only [hi1,Addr.add_lit,Nat.add_assoc] at e1 ⊢;rw [e1];simp only [Result.andThen_ok,tr,dW,bO,dY,aZ,Nat.add_zero];congr 2;omega
    refine o7 (si:=ei) (olds:=(cs.drop o).take (n*ei.size)) hds hdx hd hT he hby hlen hsc (H.rem k) hsrc hol hoc ?_ (by omega) (by omega) hK';simp only [Builtin.firstCells];exact (H.drawn _).win hk hι (by omega)
  exact hG.elim
 exact hG.elim
end
def jB (T:cQ)(cs:List Value):List (Nat × TypeId)→Bool
 |[]=>true
 |(o,t)::r=>match look T t,nth cs o with
  |some fi,some _=>(match fi.kind with
   |.int _=>jB T cs r
   |.bool=>jB T cs r
   |_=>false)
  |_,_=>false
def rQ (A:Ar)(T:cQ)(kt:TypeId)(key:Value):List (Value × Value)→Option (Option Value)
 |[]=>some none
 |(k,v)::r=>match veq A T 100 kt key k with
  |none=>none
  |some true=>some (some v)
  |some false=>rQ A T kt key r
def PE (h:Heap)(nx:Nat)(K:KE):Prop:=K (.map (some nx)) (cU h nx (.map [])) (nx+1)
def oY (A:Ar)(T:cQ)(h:Heap)(t:TypeId)(x key:Value)(ok:Bool)(K:Value→Prop):Prop :=
 match look T t,x,key with
 |some { kind:=.mp kt et,.. },.map (some k),.agg cs =>
  (match look T kt,look T et,look h k with
  |some { kind:=.st fs,.. },some ei,some (.map es) =>
   (match jB T cs.toList fs,dL cs.toList,rQ A T kt (.agg cs) es with
   |true,true,some r =>
    (match ok,r with
    |true,some v=>K (.tuple #[v,.bool true])
    |true,none=>K (.tuple #[ei.zv,.bool false])
    |false,some v=>K v
    |false,none=>K ei.zv)
   |_,_,_=>False)
  |_,_,_=>False)
 |_,_,_=>False
def jY (A:Ar)(T:cQ)(h:Heap)(nx:Nat)(t:TypeId)(x key v:Value)(K:KE):Prop :=
 match look T t,x,key,(match v with|.agg _=>false|.tuple _=>false|_=>true) with
 |some { kind:=.mp kt _,.. },.map (some k),.agg cs,true =>
  (match look T kt,look h k with
  |some { kind:=.st fs,.. },some (.map es) =>
   (match jB T cs.toList fs,dL cs.toList,rQ A T kt (.agg cs) es with
   |true,true,some none=>K undef (xA h k (.map (es++[(.agg cs,v)]))) nx
   |_,_,_=>False)
  |_,_=>False)
 |_,_,_,_=>False
def wW (T:cQ)(h:Heap)(nx:Nat)(t:TypeId)(x:Value)(K:KE):Prop :=
 match look T t,x with
 |some { kind:=.sl _,.. },.slice none 0 0=>K (.tuple #[]) h nx
 |some { kind:=.sl e,.. },.slice (some ⟨k,o,none⟩) n _ =>
  (match n with
  |0=>K (.tuple #[]) h nx
  |_=>(match look T e,look h k with
   |some ei,some (.cells true _ sz cs)=>dT (Nat.ble (o+n*ei.size) cs.length) (K (.tuple #[]) (xA h k (.cells true false sz (eY cs o (rep n ei.zv.cells.toList)))) nx)
   |_,_=>False))
 |_,_=>False
section
variable {P:Program}{T:cQ}{ι:Nat→Loc}{B nx:Nat}{h:Heap}
theorem B5 (hT:cL P T){t:TypeId}{fs:List (Nat × TypeId)}{s1 b1:Nat}{z1:Value}(ht:look T t=some ⟨.st fs,s1,b1,z1⟩){cs:Array Value}(hk:jB T cs.toList fs=true)(em:Bool)(d:Nat)(w:World) :
  (Instr.checkKey em (d+2) t (.agg cs)).run P w=.ok () w:=by
 have hti:=hT t _ ht;obtain⟨f,hd,hfs,hn⟩:=hti.st rfl;rw [show d+2=(d+1)+1 from rfl,Instr.checkKey];simp only [Sem.run_bind,run_underlying hd,Result.andThen_ok];rw [← Array.forIn_toList];subst hfs;clear hd ht hti;generalize f.toList=L at hk hn
 induction L with
 |nil=>simp
 |cons x L ih =>
  have hname : x.name ≠ "_" := hn x (by simp);simp only [List.map_cons,jB] at hk;split at hk
  case h_2=>cases hk
  rename_i fi v hfi hv;have hleaf:(∃ d,P.underlying x.type=some d∧((∃ k,d=.int k)∨d=.bool))∧fi.isAgg=false∧jB T cs.toList (L.map fun f=>(f.offset,f.type))=true:=by
   split at hk
   ·rename_i k hki;exact⟨⟨_,(hT _ _ hfi).int hki,.inl ⟨_,rfl⟩⟩,by simp [RR.isAgg,hki],hk⟩
   ·rename_i hki;exact⟨⟨_,(hT _ _ hfi).bool hki,.inr rfl⟩,by simp [RR.isAgg,hki],hk⟩
   ·cases hk
  obtain⟨⟨dd,hdd,hdk⟩,hagg,hk'⟩:=hleaf;have e1:=qY (P:=P) hT hfi hagg hv w;simp only [Array.toArray_toList] at e1;have e2:(Instr.checkKey em (d+1) x.type v).run P w=.ok () w:=by
   rw [Instr.checkKey];simp only [Sem.run_bind,run_underlying hdd,Result.andThen_ok];rcases hdk with ⟨k,rfl⟩|rfl <;> simp
  simp only [List.forIn_cons,Sem.run_bind,hname,ne_eq,not_false_eq_true,if_true,e1,Result.andThen_ok,e2,Sem.run_pure];exact ih hk' (fun y hy=>hn y (by simp [hy]))
theorem wD (hT:cL P T){kt:TypeId}{key:Value}:∀ (ents:List MapEntry) (es:List (Value × Value)) (f:Value→Value) (r:Option Value) (i:Nat),(∀ e∈es,gA e.1=true) →
  ents.map (fun e=>(e.key,e.val))=es.map (fun e=>(e.1,f e.2))→rQ aF T kt key es=some r→∀ w,
  ∃ j,(Instr.findAsking kt key ents i).run P w=.ok (r.map fun v=>(j,f v)) w
 |[],es,f,r,i,hg,he,hr,w=>by
  cases es with
  |nil=>simp [rQ] at hr;subst hr;exact⟨0,by simp [Instr.findAsking]⟩
  |cons a b=>simp at he
 |e::ents,es,f,r,i,hg,he,hr,w=>by
  cases es with
  |nil=>simp at he
  |cons a es =>
   obtain⟨k,v⟩:=a;simp only [List.map_cons,List.cons.injEq,Prod.mk.injEq] at he;obtain⟨⟨he1,he2⟩,he3⟩:=he;simp only [rQ] at hr;split at hr
   ·cases hr
   ·rename_i hq;have:(Op.equal kt key k).run P w=.ok _ w:=S0 (P:=P) hT 100 _ _ _ _ hq 10000 (by omega) w;injection hr with hr;subst hr;refine⟨i,?_⟩;simp only [Instr.findAsking,Sem.run_bind,he1,this,Result.andThen_ok,if_true,Sem.run_pure,he2,Option.map_some]
   rename_i hq;have:(Op.equal kt key k).run P w=.ok _ w:=S0 (P:=P) hT 100 _ _ _ _ hq 10000 (by omega) w;obtain⟨j,hj⟩:=wD hT ents es f r (i+1) (fun e he=>hg e (by simp [he])) he3 hr w;refine⟨j,?_⟩;simp only [Instr.findAsking,Sem.run_bind,he1,this,Result.andThen_ok,Bool.false_eq_true,if_false,hj]
theorem H6 (hT:cL P T){kt:TypeId}{fs:List (Nat × TypeId)}{s1 b1:Nat}{z1:Value}(ht:look T kt=some ⟨.st fs,s1,b1,z1⟩){key:Value}{ents:List MapEntry}{es:List (Value × Value)}{f:Value→Value}{r:Option Value}(hg:∀ e∈es,gA e.1=true)
  (he:ents.map (fun e=>(e.key,e.val))=es.map (fun e=>(e.1,f e.2))) (hr:rQ aF T kt key es=some r) (w:World) :
  ∃ j,(Instr.findKey kt key ents).run P w=.ok (r.map fun v=>(j,f v)) w:=by
 obtain⟨fl,hd,_,_⟩:=(hT kt _ ht).st rfl;cases ents with
 |nil =>
  cases es with
  |nil=>simp [rQ] at hr;subst hr;exact⟨0,by simp [Instr.findKey,run_underlying hd,Instr.findNow]⟩
  |cons a b=>simp at he
 |cons e ents =>
  obtain⟨j,hj⟩:=wD hT (e::ents) es f r 0 hg he hr w;exact⟨j,by simp [Instr.findKey,run_underlying hd,Instr.findNow,Instr.sameNow,hj]⟩
theorem QM {t:TypeId}{K:KE}(hl:PE h nx K){w:World}(H:aQ ι B h nx w):MN P ι B nx w (Instr.makeMap t none) K:=by
 have hf:=H.new (.map #[] 0) (.map []) ⟨H.size,#[],0,(MapKept.heap_alloc w _).1,by simp,by simp⟩ (by intro e he;cases he);refine⟨_,_,_,_,_,hl,?_,hf,?_,fun k hk=>cG _ _ hk,by omega,?_⟩
 ·simp [eX,kU,gP,oL,aZ,Loc.gR]
 ·exact (dK w _).mono H.size
 simp [Instr.makeMap,tr,dW,bO,dY,aZ]
theorem FF (hT:cL P T){t:TypeId}{x key:Value}{ok:Bool}{K:Value→Prop}(hl:oY aF T h t x key ok K)(hx:eX ι nx x){w0:World}(H0:aQ ι B h nx w0) :
  ∃ v,K v∧eX ι nx v∧∀ w,aQ ι B h nx w→(Instr.lookup t (tr ι x) (tr ι key) ok).run P w=.ok (tr ι v) w:=by
 unfold oY at hl;split at hl
 case h_2=>exact hl.elim
 rename_i kt et s1 b1 z1 k cs ht;split at hl
 case h_2=>exact hl.elim
 rename_i fs s2 b2 z2 ei es hkt het hk;split at hl
 case h_2=>exact hl.elim
 rename_i r hkf hg hfind;have htr:tr ι (.agg cs)=.agg cs:=gU (by simpa [gT,gA] using hg);have hm:=(hT t _ ht).mp rfl;have hei:=hT et _ het;have hx':k<nx∧(ι k).gR=true:=hx;have hz:kU ι nx ei.zv:=PN hei.zg
 have hrun:∀ w,aQ ι B h nx w→(Instr.lookup t (tr ι (.map (some k))) (tr ι (.agg cs)) ok).run P w =
   .ok (if ok then .tuple #[(match r with|some v=>bO ι v|none=>ei.zv),.bool r.isSome] else (match r with|some v=>bO ι v|none=>ei.zv)) w:=by
  intro w H;have hob:=H.obj k _ hk;cases hι:ι k with
  |nil p=>rw [hι] at hob;exact hob.elim
  |lay b o e =>
   rw [hι] at hob;obtain⟨hB,ents,clock,h1,h2,h3⟩:=hob;obtain⟨j,hj⟩:=H6 hT hkt h3 h2 hfind w;have hck:=B5 hT hkt hkf ents.isEmpty 9998 w;have e1:tr ι (.map (some k))=.map (some b):=(by simp [tr,dW,bO,dY,hι]);rw [e1,htr];simp only [Instr.lookup,Sem.run_bind,run_underlying hm,Result.andThen_ok,MapKept.run_getObj_map h1,Sem.run_pure,hck,hj];cases r with
   |none=>cases ok <;> simp [hei.zero]
   |some v=>cases ok <;> simp
 have hsc:∀ v,r=some v→gP ι nx v:=by
  intro v hv;subst hv;have hos:=H0.sc k _ hk;clear hrun hl H0 hk
  induction es with
  |nil=>simp [rQ] at hfind
  |cons a es ih =>
   obtain⟨k',v'⟩:=a;simp only [rQ] at hfind;split at hfind
   ·cases hfind
   ·injection hfind with hfind;injection hfind with hfind;subst hfind;exact hos (k',v') (by simp)
   exact ih hfind (fun e he=>hos e (by simp [he]))
 split at hl
 ·rename_i v;have hs:=hsc v rfl;refine⟨_,hl,?_,fun w H=>?_⟩
  ·intro u hu;simp at hu;rcases hu with rfl|rfl
   ·exact fZ hs
   simp [kU,gP,oL]
  rw [hrun w H];have e2:dW ι (.bool true)=.bool true:=rfl;simp [tr,yY hs,e2]
 ·refine⟨_,hl,?_,fun w H=>?_⟩
  ·intro u hu;simp at hu;rcases hu with rfl|rfl
   ·exact hz
   simp [kU,gP,oL]
  rw [hrun w H];have:dW ι ei.zv=ei.zv:=XA hei.zg;simp [tr,this];simp [dW,bO,dY]
 ·rename_i v;have hs:=hsc v rfl;exact⟨_,hl,lW (fZ hs),fun w H=>by rw [hrun w H,yE hs];rfl⟩
 exact⟨_,hl,lW hz,fun w H=>by rw [hrun w H,u7 hz,XA hei.zg];rfl⟩
theorem I6 (hT:cL P T){t:TypeId}{x key v:Value}{K:KE}(hl:jY aF T h nx t x key v K)(hx:eX ι nx x)(hv:eX ι nx v){w:World}(H:aQ ι B h nx w) :
  ∃ h' w',K undef h' nx∧aQ ι B h' nx w'∧gF B w w'∧(Instr.mapUpdate t (tr ι x) (tr ι key) (tr ι v)).run P w=.ok () w':=by
 unfold jY at hl;split at hl
 case h_2=>exact hl.elim
 rename_i kt et s1 b1 z1 k cs ht hag;split at hl
 case h_2=>exact hl.elim
 rename_i fs s2 b2 z2 es hkt hk;split at hl
 case h_2=>exact hl.elim
 rename_i hkf hg hfind;have hvS:gP ι nx v:=by
  cases v <;> first|exact hv|(simp at hag)
 have htr:tr ι (.agg cs)=.agg cs:=gU (by simpa [gT,gA] using hg);have hm:=(hT t _ ht).mp rfl;have hob:=H.obj k _ hk;cases hι:ι k with
 |nil p=>rw [hι] at hob;exact hob.elim
 |lay b o e =>
  rw [hι] at hob;obtain⟨hB,ents,clock,h1,h2,h3⟩:=hob;obtain⟨j,hj⟩:=H6 hT hkt h3 h2 hfind w;have hck:=B5 hT hkt hkf false 9998 w;have e1:tr ι (.map (some k))=.map (some b):=(by simp [tr,dW,bO,dY,hι]);refine⟨_,{ w with heap:=w.heap.setIfInBounds b (.map (ents.push ⟨.agg cs,bO ι v,clock⟩) (clock+1)) },hl,?_,?_,?_⟩
  ·refine H.set hk rfl ?_ ?_ rfl (fun c hc=>?_) (by simp)
   ·rw [hι];have hlt:=(Array.getElem?_eq_some_iff.1 h1).1;refine⟨hB,ents.push ⟨.agg cs,bO ι v,clock⟩,clock+1,by simp [Array.getElem?_setIfInBounds_self_of_lt hlt],by simp [h2],fun e he=>?_⟩;rcases List.mem_append.1 he with he|he
    ·exact h3 e he
    simp at he;subst he;simpa [gA] using hg
   ·intro e he;rcases List.mem_append.1 he with he|he
    ·exact H.sc k _ hk e he
    simp at he;subst he;exact hvS
   have:b≠c:=fun e=>hc (by rw [hι,e];rfl);simp [Array.getElem?_setIfInBounds_ne this]
  ·exact⟨rfl,rfl,rfl,by simp,fun c hc=>by
    have:b≠c:=(by omega);simp [Array.getElem?_setIfInBounds_ne this],Nat.le_refl _⟩
  rw [e1,htr,yE hvS];simp only [Instr.mapUpdate,Sem.run_bind,run_underlying hm,Result.andThen_ok,MapKept.run_getObj_map h1,hck,hj,Option.map_none,MapKept.run_setObj_map _ h1]
theorem Y2 (hT:cL P T){t ty:TypeId}{x:Value}{K:KE}(hl:wW T h nx t x K)(hx:eX ι nx x){w:World}(H:aQ ι B h nx w) :
  MN P ι B nx w (Builtin.clear_ #[t] ty #[tr ι x]) K:=by
 unfold wW at hl;split at hl
 case h_3=>exact hl.elim
 ·rename_i e s1 b1 z1 ht;have hd:=(hT t _ ht).sl rfl;refine⟨_,_,_,ι,w,hl,by simp [eX],H,gF.refl _ _,fun _ _=>rfl,Nat.le_refl _,?_⟩;rw [dH];simp [Builtin.clear_,run_underlying hd,tr]
 rename_i e s1 b1 z1 k o n c ht;have hd:=(hT t _ ht).sl rfl;have hx':k<nx∧((ι k).gR=false→n=0∧c=0):=hx;split at hl
 ·refine⟨_,_,_,ι,w,hl,by simp [eX],H,gF.refl _ _,fun _ _=>rfl,Nat.le_refl _,?_⟩;simp only [tr,dW,bO,dY];cases ι k with
  |nil p=>cases p <;> simp [Builtin.clear_,run_underlying hd]
  |lay b o e=>simp [Builtin.clear_,run_underlying hd]
 rename_i hn0;split at hl
 case h_2=>exact hl.elim
 rename_i ei g sz cs he hk;obtain⟨hb,hK⟩:=aD.1 hl;have hb:=Nat.le_of_ble_eq_true hb;have hei:=hT e _ he;cases hι:ι k with
 |nil p=>exact absurd (hx'.2 (by rw [hι];rfl)).1 hn0
 |lay b off ex =>
  have hz:=qE hT he;have hrep:∀ v∈rep n ei.zv.cells.toList,gS v=true:=by
   intro v hv;simp only [rep,List.mem_flatten,List.mem_replicate] at hv;obtain⟨l,⟨_,rfl⟩,hv⟩:=hv;exact hz v hv
  have hlen:(rep n ei.zv.cells.toList).length=n*ei.size:=by
   rw [← jS,Array.length_toList,size_zeroCells,hei.zs]
  obtain⟨w',h1,h2,h3⟩:=H.aKX (P:=P) hk hι (o:=o) (vs:=rep n ei.zv.cells.toList) (by omega) (fun v hv=>bY (hrep v hv));rw [nN hrep] at h1;refine⟨_,_,_,ι,w',hK,by simp [eX],h3,h2,fun _ _=>rfl,Nat.le_refl _,?_⟩;have e1:tr ι (.slice (some ⟨k,o,none⟩) n c)=.slice (some ⟨b,off+o,none⟩) n (c+ex):=(by simp [tr,dW,bO,dY,hι]);rw [e1];cases n with
  |zero=>exact absurd rfl hn0
  |succ n=>simp [Builtin.clear_,run_underlying hd,hei.zero,jS,h1,tr]
end
abbrev VC:=Nat→List Value→Heap→Nat→KE→Prop
abbrev VY:=Nat→List Value→Heap→Nat→KE→Prop
abbrev KS:=List (Nat × Value)→Heap→Nat→Prop
def kY (env:List (Nat × Value)):Option Operand→Option (Option Value)
 |none=>some none
 |some x=>match cK env x with|some v=>some (some v)|none=>none
def lC:List Value→Bool
 |[]=>true
 |.pointer (some _)::r=>lC r
 |_=>false
def pD (A:Ar)(T:cQ)(C:VC)(Y:VY)(env:List (Nat × Value))(h:Heap)(nx:Nat)(op:Op)(K:KE):Prop :=
 match op with
 |.store t x y=>on (cK env x) fun p=>on (cK env y) fun v=>oH T h nx t p v K
 |.alloc t=>xL T h nx t K
 |.box _ x=>on (cK env x) fun v=>RS h nx v K
 |.buildSlice t n ps=>(match kM env ps.toList with|some l=>eJ T h nx t n l K|none=>False)
 |.slice t x lo hi mx=>on (cK env x) fun v=>(match kY env lo,kY env hi,kY env mx with
  |some l,some u,some m=>sY A T h nx t v l u m K
  |_,_,_=>False)
 |.makeMap _ none=>PE h nx K
 |.makeSlice t l c=>on (cK env l) fun l=>on (cK env c) fun c=>jZ A T h nx t l c K
 |.lookup t m k ok=>on (cK env m) fun x=>on (cK env k) fun y=>oY A T h t x y ok (fun v=>K v h nx)
 |.mapUpdate t m k u=>on (cK env m) fun x=>on (cK env k) fun y=>on (cK env u) fun v=>jY A T h nx t x y v K
 |.call c=>(match c.callee with
  |.builtin .append=>(match c.argTypes.toList,jL env c.args.toList with|[st,xt],some [s,x]=>lN A T h nx st xt s x K|_,_=>False)
  |.builtin .clear=>(match c.argTypes.toList,jL env c.args.toList with|[t],some [x]=>wW T h nx t x K|_,_=>False)
  |.builtin _=>jC A T env h op (fun v=>K v h nx)
  |.value f=>on (cK env f) fun fv=>(match jL env c.args.toList with
   |some l=>(match fv with
    |.func (.func g) first cap=>(match first.toList,lC cap.toList with
     |[],true=>C g (l++cap.toList) h nx K
     |_,_=>False)
    |.func (.yield q) first _=>(match first.toList with
     |[]=>Y q l h nx K
     |_=>False)
    |_=>False)
   |none=>False)
  |_=>False)
 |_=>jC A T env h op (fun v=>K v h nx)
def eL {α:Type}:List α→Nat→Option α
 |[],_=>none
 |x::_,0=>some x
 |_::r,n+1=>eL r n
theorem dF {α:Type}(l:List α)(n:Nat):eL l n=l[n]? := by
 induction l generalizing n with
 |nil=>rfl
 |cons v r ih=>cases n <;> simp [eL,ih]
def fC (A:Ar)(ops:List Oper)(env:List (Nat × Value))(g:Option (Nat × Bool))(Y N:List (Nat × Value)→Prop):Prop :=
 match g with
 |none=>Y env
 |some (j,want)=>match eL ops j with
  |some o=>(match o.dst with
   |some t=>(match look env t with
    |some (.bool b)=>br (A.eqB b want) (fun _=>Y (put env t (.bool want))) (fun _=>N (put env t (.bool (!want))))
    |some (.tuple _)=>N env
    |_=>False)
   |none=>False)
  |none=>False
def dZ (tn:Nat)(env:List (Nat × Value))(dst:Option Nat)(v:Value)(K:List (Nat × Value)→Prop):Prop :=
 match dst with
 |none=>K env
 |some d=>match Nat.blt d tn with|true=>K (put env d v)|false=>False
def yQ (A:Ar)(T:cQ)(C:VC)(Y:VY)(tn:Nat)(ops:List Oper)(l:List Oper):List (Nat × Value)→Heap→Nat→KS→Prop :=
 @List.rec Oper (fun _=>List (Nat × Value)→Heap→Nat→KS→Prop) (fun env h nx K=>K env h nx)
  (fun o _ ih env h nx K=>fC A ops env o.guard
   (fun env=>pD A T C Y env h nx o.op fun v h' nx'=>dZ tn env o.dst v fun env'=>ih env' h' nx' K)
   (fun env=>dZ tn env o.dst undef fun env'=>ih env' h nx K)) l
theorem KX {A:Ar}{T:cQ}{C:VC}{Y:VY}{tn:Nat}{ops:List Oper}{o:Oper}{r:List Oper}{env:List (Nat × Value)}{h:Heap}{nx:Nat}{K:KS}:yQ A T C Y tn ops (o::r) env h nx K=fC A ops env o.guard
 (fun env=>pD A T C Y env h nx o.op fun v h' nx'=>dZ tn env o.dst v fun env'=>yQ A T C Y tn ops r env' h' nx' K)
 (fun env=>dZ tn env o.dst undef fun env'=>yQ A T C Y tn ops r env' h nx K):=rfl
structure Inv (B:Nat) (w0:World) (ι0:Nat→Loc) (nx0 tn:Nat) (ds:List Deferred) (ι:Nat→Loc) (env:List (Nat × Value)) (h:Heap) (nx:Nat) (a:Act) (w:World):Prop where
 env:c9 ι nx env a
 heap:aQ ι B h nx w
 below:gF B w0 w
 old:∀ k,k<nx0→ι k=ι0 k
 le:nx0≤nx
 size:a.tmps.size=tn
 defers:a.defers=ds
def Ret (B:Nat)(w0:World)(ι0:Nat→Loc)(nx0:Nat)(K:KE):Ending→World→Prop
 |.returned u,w=>∃ v h nx ι,K v h nx∧eX ι nx v∧aQ ι B h nx w∧gF B w0 w∧(∀ k,k<nx0→ι k=ι0 k)∧nx0≤nx∧u=tr ι v
 |_,_=>False
def Fr (r:Option Nat):Fence:={ Fence.wide with round:=r }
def bC (P:Program)(C:VC):Prop:=∀ f args h nx K,C f args h nx K→∀ ι B w,aQ ι B h nx w→(∀ v∈args,eX ι nx v) →
 (∃ fn, P.funcs[f]? = some fn ∧ fn.body.isSome = true ∧ (fn.name == "runtime.NumGoroutine") = false) ∧ CallsIn Fence.wide 0 P f (args.map (tr ι)).toArray w (Ret B w ι nx K)
def eO (P:Program)(Y:VY):Prop:=∀ l args h nx K,Y l args h nx K→∀ ι B w,aQ ι B h nx w→(∀ v∈args,eX ι nx v) →
 ∀ b o e,ι l=.lay b o e→∃ f tmps as bd,(Instr.yield b (args.map (tr ι)).toArray).run P w=.ok (.round b f tmps as bd) w∧RoundIn Fence.wide 0 P b f tmps as bd w (Ret B w ι nx K)
section
variable {P:Program}{T:cQ}{C:VC}{Y:VY}
theorem c9.xA {ι:Nat→Loc}{n:Nat}{env:List (Nat × Value)}{a:Act}(he:c9 ι n env a){d:Nat}{v:Value}(hd:d<a.tmps.size)(hv:eX ι n v):c9 ι n (put env d v) (a.put (some d) (tr ι v)):=by
 intro t u hu;rw [tY] at hu;by_cases e:t=d
 ·subst e;rw [if_pos rfl] at hu;injection hu with hu;subst hu;exact⟨by simp [Act.put,Array.getElem?_setIfInBounds_self_of_lt hd],hv⟩
 rw [if_neg e] at hu;obtain⟨h1,h2⟩:=he t u hu;refine⟨?_,h2⟩;simp only [Act.put];rw [Array.getElem?_setIfInBounds_ne (fun e'=>e e'.symm)];exact h1
theorem c9.same {ι:Nat→Loc}{n:Nat}{env:List (Nat × Value)}{a:Act}(he:c9 ι n env a){d:Nat}{v:Value}(hv:look env d=some v):c9 ι n (put env d v) a:=by
 intro t u hu;rw [tY] at hu;by_cases e:t=d
 ·subst e;rw [if_pos rfl] at hu;injection hu with hu;subst hu;exact he t v hv
 rw [if_neg e] at hu;exact he t u hu
theorem c9.names {ι ι':Nat→Loc}{n m:Nat}{env:List (Nat × Value)}{a:Act}(he:c9 ι n env a)(hle:n≤m)(hi:∀ k,k<n→ι' k=ι k):c9 ι' m env a:=by
 intro t u hu;obtain⟨h1,h2⟩:=he t u hu;exact⟨by rw [GO hi h2];exact h1,qM hle hi h2⟩
theorem oU {ι:Nat→Loc}{n tn:Nat}{env:List (Nat × Value)}{a:Act}(he:c9 ι n env a)(hs:a.tmps.size=tn){dst:Option Nat}{v:Value}{K:List (Nat × Value)→Prop}(hl:dZ tn env dst v K)(hv:eX ι n v) :
  ∃ env',K env'∧c9 ι n env' (a.put dst (tr ι v))∧(a.put dst (tr ι v)).tmps.size=tn∧(a.put dst (tr ι v)).defers=a.defers:=by
 unfold dZ at hl;cases dst with
 |none=>exact⟨env,hl,he,hs,rfl⟩
 |some d =>
  simp only at hl;split at hl
  ·rename_i hd;have hd:d<tn:=Nat.le_of_ble_eq_true hd;exact⟨_,hl,he.xA (by omega) hv,by simp [Act.put,hs],rfl⟩
  exact hl.elim
theorem vB {ι:Nat→Loc}{n:Nat}{env:List (Nat × Value)}{a:Act}(he:c9 ι n env a){ops:Array Oper}{o:Oper}{Yk N:List (Nat × Value)→Prop}(hl:fC aF ops.toList env o.guard Yk N) :
  ∃ env',c9 ι n env' a∧((Region.wanted o (yielded ops a.tmps)=true∧Yk env')∨(Region.wanted o (yielded ops a.tmps)=false∧N env')):=by
 unfold fC at hl;unfold Region.wanted;split at hl
 ·rename_i hg;rw [hg];exact⟨env,he,.inl ⟨rfl,hl⟩⟩
 rename_i j want hg;rw [hg];split at hl
 case h_2=>exact hl.elim
 rename_i q hq;split at hl
 case h_2=>exact hl.elim
 rename_i t ht;split at hl
 case h_3=>exact hl.elim
 case h_2 =>
  rename_i vs hb;rw [dF] at hq;have hy:yielded ops a.tmps j=none:=by
   have hq':ops[j]? = some q:=(by simpa using hq);simp [yielded,hq',ht,(he t _ hb).1,tr]
  exact⟨_,he,.inr ⟨by simp [hy],hl⟩⟩
 rename_i b hb;rw [dF] at hq;have hy:yielded ops a.tmps j=some b:=by
  have hq':ops[j]? = some q:=(by simpa using hq);simp [yielded,hq',ht,(he t _ hb).1,rD]
 simp only [hy];rcases nW hl with ⟨hbw,hk⟩|⟨hbw,hk⟩
 ·simp only [aF,beq_iff_eq] at hbw;subst hbw;exact⟨_,he.same hb,.inl ⟨by simp,hk⟩⟩
 simp only [aF,beq_eq_false_iff_ne,ne_eq] at hbw;have:b=!want:=(by cases b <;> cases want <;> simp_all);subst this;exact⟨_,he.same hb,.inr ⟨by simp,hk⟩⟩
theorem semAt_eq {o:Oper}(hd:∀ c,o.op≠.defer c)(r:Option Nat)(ρ:Operand→Value):o.semAt r ρ=execOp ρ o:=by
 cases r with
 |none=>exact Oper.semAt_none _ _
 |some l=>exact Oper.semAt_some l ρ o hd
def Z7 (P:Program)(ι:Nat→Loc)(B nx:Nat)(w:World)(m:Sem Next)(K:KE):Prop :=
 (∃ v h' nx' ι' w',K v h' nx'∧eX ι' nx' v∧aQ ι' B h' nx' w'∧gF B w w'∧(∀ k,k<nx→ι' k=ι k)∧nx≤nx'∧m.run P w=.ok (.value (tr ι' v)) w') ∨
 (∃ h' w',K undef h' nx∧aQ ι B h' nx w'∧gF B w w'∧m.run P w=.ok .skip w') ∨
 (∃ f args,m.run P w=.ok (.enter f args) w∧CallsIn Fence.wide 0 P f args w (Ret B w ι nx K)) ∨
 (∃ l f tmps as bd,m.run P w=.ok (.round l f tmps as bd) w∧RoundIn Fence.wide 0 P l f tmps as bd w (Ret B w ι nx K))
theorem Z7.upon {ι:Nat→Loc}{B nx:Nat}{w:World}{o:Oper}{a a':Act}{K:KE}(hr:Z7 P ι B nx w (execOp a.eval o) K)(hd:∀ c,o.op≠.defer c)(he:execOp a'.eval o=execOp a.eval o)
  (r:Option Nat) (next:Act→World→Prop) (Q:Exit→Act→World→Prop)
  (hn:∀ v h' nx' ι' w',K v h' nx'→eX ι' nx' v→aQ ι' B h' nx' w'→gF B w w'→(∀ k,k<nx→ι' k=ι k)→nx≤nx'→next (a'.put o.dst (tr ι' v)) w') :
  o.wpIn (Fr r) 0 P a' w next Q:=by
 refine⟨fun _ _=>trivial,?_⟩;rw [semAt_eq hd,he];rcases hr with ⟨v,h',nx',ι',w',h1,h2,h3,h4,h5,h6,h7⟩|⟨h',w',h1,h3,h4,h7⟩|⟨f,args,hrun,hcalls⟩|⟨l,f,tmps,as,bd,hrun,hround⟩
 ·rw [h7];exact hn v h' nx' ι' w' h1 h2 h3 h4 h5 h6
 ·rw [h7];have:=hn undef h' nx ι w' h1 (bU rfl) h3 h4 (fun _ _=>rfl) (Nat.le_refl _)
  rwa [gU (show gT undef=true from rfl)] at this
 ·rw [hrun];refine⟨fun hdep=>absurd hdep (by simp [Fr,Fence.wide]),?_⟩;refine CallsIn.mono (F:=Fence.wide) hcalls fun e w' hret=>?_;cases e with
  |returned u =>
   obtain⟨v,h',nx',ι',k1,k2,k3,k4,k5,k6,rfl⟩:=hret;exact hn v h' nx' ι' w' k1 k2 k3 k4 k5 k6
  |panicked c=>exact hret.elim
  |outgrown=>exact hret.elim
 rw [hrun];refine⟨fun hdep=>absurd hdep (by simp [Fr,Fence.wide]),?_⟩;refine RoundIn.mono (F:=Fence.wide) hround fun e w' hret=>?_;cases e with
 |returned u =>
  obtain⟨v,h',nx',ι',k1,k2,k3,k4,k5,k6,rfl⟩:=hret;exact hn v h' nx' ι' w' k1 k2 k3 k4 k5 k6
 |panicked c=>exact hret.elim
 |outgrown=>exact hret.elim
theorem upon_value {ι:Nat→Loc}{B nx:Nat}{w:World}{o:Oper}{a:Act}{K:KE}
 (h:∃ v h' nx' ι' w',K v h' nx'∧eX ι' nx' v∧aQ ι' B h' nx' w'∧gF B w w'∧(∀ k,k<nx→ι' k=ι k)∧nx≤nx'∧(execOp a.eval o).run P w=.ok (.value (tr ι' v)) w'):Z7 P ι B nx w (execOp a.eval o) K:=.inl h
theorem upon_skip {ι:Nat→Loc}{B nx:Nat}{w:World}{o:Oper}{a:Act}{K:KE}
 (h:∃ h' w',K undef h' nx∧aQ ι B h' nx w'∧gF B w w'∧(execOp a.eval o).run P w=.ok .skip w'):Z7 P ι B nx w (execOp a.eval o) K:=.inr (.inl h)
theorem lK {ι:Nat→Loc}{n:Nat}{env:List (Nat × Value)}{a:Act}(he:c9 ι n env a){x:Option Operand}{v:Option Value}(h:kY env x=some v):x.map a.eval=v.map (tr ι):=by
 cases x with
 |none=>simp [kY] at h;subst h;rfl
 |some x =>
  simp only [kY] at h;split at h
  ·rename_i u hu;injection h with h;subst h;simp [(he.cK hu).1]
  ·cases h
theorem j0 {ι:Nat→Loc}{B nx:Nat}{w:World}{m:Sem Value}{K:KE}(h:MN P ι B nx w m K) :
  ∃ v h' nx' ι' w',K v h' nx'∧eX ι' nx' v∧aQ ι' B h' nx' w'∧gF B w w'∧(∀ k,k<nx→ι' k=ι k)∧nx≤nx'∧(do pure (.value (← m)):Sem Next).run P w=.ok (.value (tr ι' v)) w':=by
 obtain⟨v,h',nx',ι',w',h1,h2,h3,h4,h5,h6,h7⟩:=h;exact⟨v,h',nx',ι',w',h1,h2,h3,h4,h5,h6,by simp only [Sem.run_bind,h7,Result.andThen_ok,Sem.run_pure]⟩
theorem wQ (hT:cL P T){ι:Nat→Loc}{B nx:Nat}{w:World}{h:Heap}{env:List (Nat × Value)}{a:Act}(he:c9 ι nx env a)(H:aQ ι B h nx w){o:Oper}{K:KE}
  (hl:jC aF T env h o.op (fun v=>K v h nx)):Z7 P ι B nx w (execOp a.eval o) K:=by
 obtain⟨v,h1,h2,h3⟩:=HO hT he hl H;exact upon_value ⟨v,h,nx,ι,w,h1,h2,H,gF.refl _ _,fun _ _=>rfl,Nat.le_refl _,h3 w H⟩
theorem iM:∀ {l:List Value},lC l=true→∀ v∈l,∃ p,v=.pointer (some p)
 |[],_,v,hv=>by cases hv
 |x::r,h,v,hv=>by
  unfold lC at h;split at h
  ·rename_i heq;cases heq
  ·rename_i p r' heq;injection heq with e1 e2;subst e1;subst e2;rcases List.mem_cons.1 hv with rfl|hv
   ·exact⟨_,rfl⟩
   exact iM h v hv
  ·cases h
theorem CI {env:List (Nat × Value)}{h:Heap}{nx:Nat}{op:Op}{K:KE}(hl:pD aF T C Y env h nx op K):∀ c,op≠.defer c:=by
 rintro c rfl;exact hl.elim
theorem SB (hT:cL P T)(hC:bC P C)(hY:eO P Y){ι:Nat→Loc}{B nx:Nat}{w:World}{h:Heap}{env:List (Nat × Value)}{a:Act}(he:c9 ι nx env a)(H:aQ ι B h nx w){o:Oper}{K:KE}
  (hl:pD aF T C Y env h nx o.op K):Z7 P ι B nx w (execOp a.eval o) K:=by
 have hl':=hl;obtain⟨dst,op,ty,pos,after,guard⟩:=o;simp only at hl;cases op
 case store t x y =>
  simp only [pD] at hl;obtain⟨p,hp,hl⟩:=c7 hl;obtain⟨v,hv,hl⟩:=c7 hl;obtain⟨e1,e2⟩:=he.cK hp;obtain⟨e3,e4⟩:=he.cK hv;obtain⟨h',w',h1,h2,h3,h4⟩:=aAu (P:=P) hT hl e4 H;exact upon_skip ⟨h',w',h1,h2,h3,by simp only [execOp,e1,e3,Sem.run_bind,h4,Result.andThen_ok,Sem.run_pure]⟩
 case alloc t =>
  simp only [pD] at hl;exact upon_value (j0 (aAj hT hl H))
 case box t x =>
  simp only [pD] at hl;obtain⟨v,hv,hl⟩:=c7 hl;obtain⟨e3,e4⟩:=he.cK hv;have:=j0 (aEe (P:=P) (t:=t) hl e4 H);rw [← e3] at this;exact upon_value this
 case buildSlice t n ps =>
  simp only [pD] at hl;split at hl
  case h_2=>exact hl.elim
  rename_i l hps;obtain⟨e1,e2⟩:=qV he hps;have:=j0 (EW (P:=P) hT hl e2 H);have e3:(ps.map fun p=>(p.1,a.eval p.2))=(l.map fun p=>(p.1,tr ι p.2)).toArray:=by
   apply Array.ext';simpa using e1
  rw [← e3] at this;exact upon_value this
 case slice t x lo hi mx =>
  simp only [pD] at hl;obtain⟨v,hv,hl⟩:=c7 hl;obtain⟨e3,e4⟩:=he.cK hv;split at hl
  case h_2=>exact hl.elim
  rename_i l u m h1 h2 h3;obtain⟨v',h',nx',ι',k1,k2,k3,k4,k5⟩:=KQ hT hl e4 H;obtain⟨k6,k7⟩:=k5 w H;rw [← lK he h1,← lK he h2,← lK he h3,← e3] at k7;refine upon_value ⟨v',h',nx',ι',w,k1,k2,k6,gF.refl _ _,k3,k4,?_⟩;simp only [execOp,Sem.run_bind,k7,Result.andThen_ok,Sem.run_pure]
 case makeSlice t l c =>
  simp only [pD] at hl;obtain⟨x,hx,hl⟩:=c7 hl;obtain⟨y,hy,hl⟩:=c7 hl;obtain⟨e1,e2⟩:=he.cK hx;obtain⟨e3,e4⟩:=he.cK hy;have:=j0 (I0 (P:=P) hT hl H);rw [← e1,← e3] at this;exact upon_value this
 case makeMap t r =>
  cases r with
  |none =>
   simp only [pD] at hl;exact upon_value (j0 (QM hl H))
  |some r=>simp only [pD] at hl;exact wQ (h:=h) hT he H (o:=⟨dst,_,ty,pos,after,guard⟩) hl
 case lookup t m k ok =>
  simp only [pD] at hl;obtain⟨x,hx,hl⟩:=c7 hl;obtain⟨y,hy,hl⟩:=c7 hl;obtain⟨e1,e2⟩:=he.cK hx;obtain⟨e3,e4⟩:=he.cK hy;obtain⟨v,h1,h2,h3⟩:=FF (P:=P) hT hl e2 H;have:=h3 w H;rw [← e1,← e3] at this;exact upon_value ⟨v,h,nx,ι,w,h1,h2,H,gF.refl _ _,fun _ _=>rfl,Nat.le_refl _,by simp only [execOp,Sem.run_bind,this,Result.andThen_ok,Sem.run_pure]⟩
 case mapUpdate t m k u =>
  simp only [pD] at hl;obtain⟨x,hx,hl⟩:=c7 hl;obtain⟨y,hy,hl⟩:=c7 hl;obtain⟨v,hv,hl⟩:=c7 hl;obtain⟨e1,e2⟩:=he.cK hx;obtain⟨e3,e4⟩:=he.cK hy;obtain⟨e5,e6⟩:=he.cK hv;obtain⟨h',w',h1,h2,h3,h4⟩:=I6 (P:=P) hT hl e2 e6 H;rw [← e1,← e3,← e5] at h4;exact upon_skip ⟨h',w',h1,h2,h3,by simp only [execOp,Sem.run_bind,h4,Result.andThen_ok,Sem.run_pure]⟩
 case call c =>
  obtain⟨cal,args,ats⟩:=c;simp only [pD] at hl;cases cal with
  |invoke r m=>exact hl.elim
  |builtin b =>
   by_cases hb1:b=.append
   ·subst hb1;simp only at hl;split at hl
    case h_2=>exact hl.elim
    rename_i st xt s x hts hvs;obtain⟨e1,e2⟩:=lH he hvs;have:=j0 (UK (P:=P) (ty:=ty) hT hl (e2 s (by simp)) (e2 x (by simp)) H);obtain⟨ats⟩:=ats;simp only at hts;subst hts;have e3:args.map a.eval=#[tr ι s,tr ι x]:=by
     apply Array.ext';simpa using e1
    rw [← e3] at this;exact upon_value this
   by_cases hb2:b=.clear
   ·subst hb2;simp only at hl;split at hl
    case h_2=>exact hl.elim
    rename_i t x hts hvs;obtain⟨e1,e2⟩:=lH he hvs;have:=j0 (Y2 (P:=P) (ty:=ty) hT hl (e2 x (by simp)) H);obtain⟨ats⟩:=ats;simp only at hts;subst hts;have e3:args.map a.eval=#[tr ι x]:=by
     apply Array.ext';simpa using e1
    rw [← e3] at this;exact upon_value this
   have hl2:jC aF T env h (.call { callee:=.builtin b,args:=args,argTypes:=ats }) (fun v=>K v h nx):=by
    cases b <;> first|exact hl|exact absurd rfl hb1|exact absurd rfl hb2
   exact wQ hT he H (o:=⟨dst,_,ty,pos,after,guard⟩) hl2
  |value f =>
   simp only at hl;obtain⟨fv,hfv,hl⟩:=c7 hl;obtain⟨e1,e2⟩:=he.cK hfv;split at hl
   case h_2=>exact hl.elim
   rename_i l hvs;obtain⟨e3,e4⟩:=lH he hvs;have hargs:args.map a.eval=(l.map (tr ι)).toArray:=by
    apply Array.ext';simpa using e3
   split at hl
   ·rename_i g first cap;split at hl
    case h_2=>exact hl.elim
    rename_i hfirst hcap;obtain⟨first⟩:=first;simp only at hfirst;subst hfirst;obtain⟨⟨fn,hfn,hbody,hname⟩,hcalls⟩:=hC g _ h nx K hl ι B w H (by
     intro v hv;rcases List.mem_append.1 hv with hv|hv
     ·exact e4 v hv
     have:=iM hcap v hv;obtain⟨p,rfl⟩:=this;exact e2.2 _ hv)
    have hcapm:cap.map (dY ι)=(cap.toList.map (tr ι)).toArray:=by
     apply Array.ext';simp only [Array.toList_map];apply List.map_congr_left;intro v hv;obtain⟨p,rfl⟩:=iM hcap v hv;rfl
    have hrun:(execOp a.eval ⟨dst,.call ⟨.value f,args,ats⟩,ty,pos,after,guard⟩).run P w=.ok (.enter g ((l++cap.toList).map (tr ι)).toArray) w:=by
     obtain⟨bdy,hb'⟩:=Option.isSome_iff_exists.1 hbody;have hname' : fn.name ≠ "runtime.NumGoroutine" := (by simpa using hname);simp [execOp,resolve,e1,tr,dW,bO,lM,Deferred.ofValue,invoke,callFunc,hfn,hname',hb',hargs,hcapm]
    exact .inr (.inr (.inl ⟨_,_,hrun,hcalls⟩))
   ·rename_i q first cap;split at hl
    case h_2=>exact hl.elim
    rename_i hfirst;obtain⟨first⟩:=first;simp only at hfirst;subst hfirst;have hq:q<nx∧(ι q).gR=true:=e2.1;cases hι:ι q with
    |nil p=>rw [hι] at hq;cases hq.2
    |lay b o ex =>
     obtain⟨f',tmps,as,bd,hy,hround⟩:=hY q l h nx K hl ι B w H e4 b o ex hι;have hrun:(execOp a.eval ⟨dst,.call ⟨.value f,args,ats⟩,ty,pos,after,guard⟩).run P w=.ok (.round b f' tmps as bd) w:=by
      simp [execOp,resolve,e1,tr,dW,bO,lM,hι,Deferred.ofValue,invoke,hargs,hy]
     exact .inr (.inr (.inr ⟨_,_,_,_,_,hrun,hround⟩))
   exact hl.elim
 all_goals (simp only [pD] at hl;exact wQ hT he H (o:=⟨dst,_,ty,pos,after,guard⟩) hl)
end
end Go.Aw
end
