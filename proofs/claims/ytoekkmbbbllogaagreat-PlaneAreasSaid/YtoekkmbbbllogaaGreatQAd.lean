/-
  Parts of a proof. No condition.
-/
import Derived.Test.YtoekkmbbbllogaaGreatQAc
set_option linter.unusedSimpArgs false
set_option linter.unusedVariables false
noncomputable section
namespace Go.Aw
open Go.RowKit
structure Wrote (w w':World) (b:Nat):Prop where
 os:w'.os=w.os
 tape:w'.tape=w.tape
 output:w'.output=w.output
 size:w'.heap.size=w.heap.size
 other:∀ c,c≠b→w'.heap[c]? = w.heap[c]?
 drawn:w'.drawn=w.drawn
theorem Wrote.refl (w:World)(b:Nat):Wrote w w b:=⟨rfl,rfl,rfl,rfl,fun _ _=>rfl,rfl⟩
theorem Wrote.trans {a b c:World}{x:Nat}(h:Wrote a b x)(k:Wrote b c x):Wrote a c x :=
 ⟨k.os.trans h.os,k.tape.trans h.tape,k.output.trans h.output,k.size.trans h.size,fun y hy=>(k.other y hy).trans (h.other y hy),k.drawn.trans h.drawn⟩
theorem Wrote.below {w w':World}{b B:Nat}(h:Wrote w w' b)(hb:B≤b):Bel B w w' :=
 ⟨h.os,h.tape,h.output,Nat.le_of_eq h.size.symm,fun k hk=>h.other k (by omega),Nat.le_of_eq h.drawn.symm⟩
theorem setCell_wrote (w:World){b o:Nat}{arr:Array Value}{t:TypeId}{fz:Nat × Nat}(v:Value)(hb:w.heap[b]? = some (.cells arr t fz)) :
  Wrote w (w.setCell ⟨b,o,none⟩ v) b∧(w.setCell ⟨b,o,none⟩ v).heap[b]? = some (.cells (arr.setIfInBounds o v) t fz):=by
 refine⟨⟨rfl,rfl,rfl,by simp [World.setCell],fun c hc=>Go.RowKit.Below.heap_setCell _ _ _ _ hc,rfl⟩,?_⟩
 simp [World.setCell,Array.getElem?_modify,hb]
theorem run_storeCells {P:Program}{b off:Nat}{t:TypeId}:∀ (vs:List Value) (i:Nat) (w:World) (arr:Array Value),(∀ v∈vs,v.oneCell'=true) →
  w.heap[b]? = some (.cells arr t (0,0))→off+i+vs.length≤arr.size →
  ∃ w' arr',(storeCells ⟨b,off,none⟩ vs i).run P w=.ok () w'∧Wrote w w' b∧w'.heap[b]? = some (.cells arr' t (0,0))∧arr'.size=arr.size ∧
    ∀ j,arr'[j]? = if off+i≤j∧j<off+i+vs.length then vs[j - (off+i)]? else arr[j]?
 |[],i,w,arr,_,hb,_=>⟨w,arr,by simp [storeCells],Wrote.refl _ _,hb,rfl,fun j=>by rw [if_neg (by simp only [List.length_nil];omega)]⟩
 |v::vs,i,w,arr,hv,hb,hs=>by
  simp only [List.length_cons] at hs
  have hc:w.cell? ⟨b,off+i,none⟩=some (arr[off+i]'(by omega)):=by
   simp [World.cell?,hb]
  have hf:w.frozen? ⟨b,off+i,none⟩=false:=by simp [World.frozen?,hb]
  obtain⟨hw1,hb1⟩:=setCell_wrote (o:=off+i) w v hb
  obtain⟨w',arr',h1,h2,h3,h4,h5⟩:=run_storeCells (P:=P) (off:=off) (t:=t) vs (i+1) (w.setCell ⟨b,off+i,none⟩ v) (arr.setIfInBounds (off+i) v) (fun u hu=>hv u (by simp [hu])) hb1 (by simp;omega)
  refine⟨w',arr',?_,hw1.trans h2,h3,by simp [h4],fun j=>?_⟩
  ·simp only [storeCells,Sem.run_bind]
   rw [Addr.add_lit,run_store _ _ _ _ _ (hv v (by simp)),hc]
   simp only [hf,Bool.false_eq_true,if_false,Result.andThen_ok,h1]
  ·rw [h5 j]
   simp only [List.length_cons]
   by_cases hj:j=off+i
   ·subst hj
    rw [if_neg (by omega),if_pos (by omega)]
    rw [Array.getElem?_setIfInBounds_self_of_lt (by omega)]
    simp
   ·by_cases hj2:off+(i+1)≤j∧j<off+(i+1)+vs.length
    ·rw [if_pos hj2,if_pos (by omega)]
     rw [show j - (off+i)=(j - (off+(i+1)))+1 by omega]
     simp
    ·rw [if_neg hj2,if_neg (by omega)]
     rw [Array.getElem?_setIfInBounds_ne (by omega)]
def putN (cs:List Value)(o:Nat)(vs:List Value):List Value:=cs.take o++vs++cs.drop (o+vs.length)
theorem putN_length {cs vs:List Value}{o:Nat}(h:o+vs.length≤cs.length):(putN cs o vs).length=cs.length:=by
 simp [putN];omega
theorem putN_get {cs vs:List Value}{o:Nat}(h:o+vs.length≤cs.length)(j:Nat):(putN cs o vs)[j]? = if o≤j∧j<o+vs.length then vs[j - o]? else cs[j]? := by
 unfold putN
 rw [List.append_assoc]
 by_cases h1:j<o
 ·rw [List.getElem?_append_left (by simp;omega),List.getElem?_take_of_lt h1,if_neg (by omega)]
 ·rw [List.getElem?_append_right (by simp;omega)]
  simp only [List.length_take]
  rw [Nat.min_eq_left (by omega)]
  by_cases h2:j<o+vs.length
  ·rw [List.getElem?_append_left (by omega),if_pos (by omega)]
  ·rw [List.getElem?_append_right (by omega),List.getElem?_drop,if_neg (by omega)]
   congr 1;omega
theorem putN_mem {cs vs:List Value}{o:Nat}{v:Value}(h:v∈putN cs o vs):v∈cs∨v∈vs:=by
 unfold putN at h
 rcases List.mem_append.1 h with h|h
 ·rcases List.mem_append.1 h with h|h
  ·exact .inl (List.mem_of_mem_take h)
  ·exact .inr h
 ·exact .inl (List.mem_of_mem_drop h)
section
variable {P:Program}{T:Tab}{ι:Nat→Loc}{B nx:Nat}{h:Heap}
theorem RelH.put {w:World}(H:RelH ι B h nx w){k:Nat}{g:Bool}{sz:Nat}{cs:List Value}(hk:look h k=some (.cells true g sz cs)){o:Nat}{vs:List Value}(ho:o+vs.length≤cs.length)
  (hs:∀ v∈vs,scS ι nx v) (hne:vs≠[]) :
  ∃ b off e w',ι k=.lay b off e∧(storeCells ⟨b,off+o,none⟩ (vs.map (trS ι))).run P w=.ok () w'∧Bel B w w' ∧
    RelH ι B (upd h k (.cells true false sz (putN cs o vs))) nx w':=by
 have hob:=H.obj k _ hk
 have hlen:0<vs.length:=by cases vs with|nil=>exact absurd rfl hne|cons _ _=>simp
 cases hι:ι k with
 |nil =>
  rw [hι] at hob
  have:cs=[]:=(show cs=[]∧_ from hob).1
  subst this
  simp only [List.length_nil] at ho;omega
 |lay b off e =>
  rw [hι] at hob
  obtain⟨hB,_,arr,t,h1,h2,h3⟩:=hob
  have hone:∀ v∈vs.map (trS ι),v.oneCell'=true:=by
   intro v hv
   obtain⟨u,hu,rfl⟩:=List.mem_map.1 hv
   exact (trS_oneCell (hs u hu)).1
  obtain⟨w',arr',e1,e2,e3,e4,e5⟩:=run_storeCells (P:=P) (off:=off+o) (vs.map (trS ι)) 0 w arr hone h1 (by simp;omega)
  refine⟨b,off,e,w',rfl,e1,e2.below hB,?_⟩
  refine H.set hk rfl ?_ ?_ rfl (fun c hc=>e2.other c (fun e=>hc (by rw [hι,e];rfl))) (Nat.le_of_eq e2.size.symm)
  ·rw [hι]
   refine⟨hB,by simp,arr',t,e3,?_,fun i v hv=>?_⟩
   ·rw [putN_length ho,e4];exact h2
   ·rw [putN_get ho] at hv
    rw [e5]
    simp only [List.length_map,Nat.add_zero]
    by_cases hi:o≤i∧i<o+vs.length
    ·rw [if_pos hi] at hv
     rw [if_pos (by omega),show off+i - (off+o)=i - o by omega,List.getElem?_map,hv]
     rfl
    ·rw [if_neg hi] at hv
     rw [if_neg (by omega)]
     exact h3 i v hv
  ·intro v hv
   rcases putN_mem hv with hv|hv
   ·exact H.sc k _ hk v hv
   ·exact hs v hv
theorem RelH.fresh {w:World}(H:RelH ι B h nx w)(t:TypeId)(arr:Array Value)(cs:List Value)(sz:Nat)(ha:arr.toList=cs.map (trS ι))(hs:∀ v∈cs,scS ι nx v) :
  RelH (ins ι nx (.lay w.heap.size 0 0)) B (hput h nx (.cells true false sz cs)) (nx+1) (w.alloc (.cells arr t)):=by
 have hsz:arr.size=cs.length:=by rw [← Array.length_toList,ha,List.length_map]
 refine H.new (.cells arr t) (.cells true false sz cs) ?_ ?_
 ·refine⟨H.size,by simp,arr,t,(MapKept.heap_alloc w _).1,by omega,fun i v hv=>?_⟩
  rw [Nat.zero_add,← Array.getElem?_toList,ha,List.getElem?_map,hv]
  simp only [Option.map_some]
  rw [trS_eq (ι:=ι) (fun k hk=>ins_lt _ _ hk) (hs v (List.mem_of_getElem? hv))]
 ·intro v hv
  exact scS_mono (by omega) (fun k hk=>ins_lt _ _ hk) (hs v hv)
end
end Go.Aw
end

noncomputable section
namespace Go.Aw
open Go.RowKit
def rep (n:Nat)(zs:List Value):List Value:=(List.replicate n zs).flatten
theorem zeroCells_rep (z:Array Value)(n:Nat):(Builtin.zeroCells z n).toList=rep n z.toList:=by
 apply List.ext_getElem?
 intro i
 have hl:(rep n z.toList).length=n*z.size:=by
  unfold rep
  induction n with
  |zero=>simp
  |succ n ih=>rw [List.replicate_succ,List.flatten_cons,List.length_append,ih,Nat.succ_mul,Array.length_toList];omega
 have hg:∀ n i,i<n*z.size→(rep n z.toList)[i]? = z[i % z.size]? := by
  intro n
  induction n with
  |zero=>intro i hi;omega
  |succ n ih =>
   intro i hi
   unfold rep
   rw [List.replicate_succ,List.flatten_cons]
   by_cases h:i<z.size
   ·rw [List.getElem?_append_left (by simpa using h),Nat.mod_eq_of_lt h,Array.getElem?_toList]
   ·rw [List.getElem?_append_right (by simpa using Nat.le_of_not_lt h)]
    rw [Nat.succ_mul] at hi
    have:=ih (i - z.size) (by omega)
    rw [show (List.replicate n z.toList).flatten=rep n z.toList from rfl,Array.length_toList,this]
    congr 1
    conv=>rhs;rw [show i=(i - z.size)+z.size by omega,Nat.add_mod_right]
 by_cases h:i<n*z.size
 ·rw [hg n i h]
  have h0:0<z.size:=Nat.pos_of_ne_zero (fun e=>by rw [e] at h;omega)
  have hlt:=Nat.mod_lt i h0
  simp [Builtin.zeroCells,List.getElem?_range h,hlt]
 ·have e1:(Builtin.zeroCells z n).toList.length=n*z.size:=by rw [Array.length_toList,size_zeroCells]
  rw [List.getElem?_eq_none (by omega),List.getElem?_eq_none (by omega)]
abbrev KE:=Value→Heap→Nat→Prop
def vstore (T:Tab)(h:Heap)(nx:Nat)(t:TypeId)(x v:Value)(K:KE):Prop :=
 match x with
 |.pointer (some ⟨k,o,none⟩) =>
  (match look T t,look h k with
  |some ti,some (.cells true _ sz cs) =>
   (match Nat.beq v.cells.size ti.size,(match v with|.tuple _=>false|_=>true) with
   |true,true=>must (Nat.ble (o+v.cells.size) cs.length) (K undef (upd h k (.cells true false sz (putN cs o v.cells.toList))) nx)
   |_,_=>False)
  |_,_=>False)
 |_=>False
def vbox (h:Heap)(nx:Nat)(v:Value)(K:KE):Prop :=
 match v with
 |.tuple _=>False
 |v=>K (.pointer (some ⟨nx,0,none⟩)) (hput h nx (.cells true false 1 v.cells.toList)) (nx+1)
def valloc (T:Tab)(h:Heap)(nx:Nat)(t:TypeId)(K:KE):Prop :=
 match look T t with
 |some ti=>K (.pointer (some ⟨nx,0,none⟩)) (hput h nx (.cells true false 1 ti.zv.cells.toList)) (nx+1)
 |none=>False
def vbuildSlice (T:Tab)(h:Heap)(nx:Nat)(t:TypeId)(len:Nat)(ps:List (Nat × Value))(K:KE):Prop :=
 match look T t with
 |some { kind:=.sl e,.. } =>
  (match look T e with
  |some ei =>
   (match Nat.ble (len*ei.size) 1000000,aggParts ps with
   |true,true =>
    (match fillL (fun i=>some (i*ei.size,ei.size)) ps (rep len ei.zv.cells.toList) with
    |some cells=>K (.slice (some ⟨nx,0,none⟩) len len) (hput h nx (.cells true false ei.size cells)) (nx+1)
    |none=>False)
   |_,_=>False)
  |none=>False)
 |_=>False
section
variable {P:Program}{T:Tab}{ι:Nat→Loc}{B nx:Nat}{h:Heap}
def Does (P:Program)(ι:Nat→Loc)(B nx:Nat)(w:World)(m:Sem Value)(K:KE):Prop :=
 ∃ v h' nx' ι' w',K v h' nx'∧scT ι' nx' v∧RelH ι' B h' nx' w'∧Bel B w w'∧(∀ k,k<nx→ι' k=ι k)∧nx≤nx'∧m.run P w=.ok (tr ι' v) w'
theorem scA_of_T {v:Value}(h1:∀ c,v≠.tuple c)(h2:scT ι nx v):scA ι nx v:=by
 cases v with
 |tuple c=>exact absurd rfl (h1 c)
 |_=>exact h2
theorem scA_cells {v:Value}(hv:scA ι nx v):∀ u∈v.cells.toList,scS ι nx u:=by
 intro u hu
 cases v with
 |agg c=>exact hv u hu
 |_ =>
  simp only [Value.cells,List.mem_singleton] at hu
  subst hu
  exact hv
theorem vstore_ok (hT:TabOK P T){t:TypeId}{x v:Value}{K:KE}(hl:vstore T h nx t x v K)(hv:scT ι nx v){w:World}(H:RelH ι B h nx w) :
  ∃ h' w',K undef h' nx∧RelH ι B h' nx w'∧Bel B w w'∧(Instr.storeAt t (tr ι x) (tr ι v)).run P w=.ok () w':=by
 unfold vstore at hl
 split at hl
 case h_2=>exact hl.elim
 rename_i k o
 split at hl
 case h_2=>exact hl.elim
 rename_i ti g sz cs ht hk
 split at hl
 case h_2=>exact hl.elim
 rename_i hsz htup
 obtain⟨hb,hK⟩:=must_iff.1 hl
 have hti:=hT t _ ht
 have hsz:=Nat.eq_of_beq_eq_true hsz
 have hb:=Nat.le_of_ble_eq_true hb
 have hvA:scA ι nx v:=scA_of_T (fun c e=>by rw [e] at htup;cases htup) hv
 have hp:=hti.pos
 obtain⟨b,off,e,w',hι,hrun,hbel,hrel⟩:=H.put (P:=P) hk (o:=o) (vs:=v.cells.toList) (by simpa using hb) (scA_cells hvA) (by
  intro e
  have:v.cells.size=0:=by rw [← Array.length_toList,e];rfl
  omega)
 refine⟨_,w',hK,hrel,hbel,?_⟩
 have hc:=cells_tr hvA
 simp only [tr_pointer,hι,Instr.storeAt,Instr.sureAddr,Sem.run_bind,Sem.run_pure,Result.andThen_ok,storeVar,hti.sizeOf]
 rw [hc]
 simp only [Array.size_map,hsz,ne_eq,not_true_eq_false,if_false,Sem.run_ite,Array.toList_map]
 simpa using hrun
theorem vbox_ok {t:TypeId}{v:Value}{K:KE}(hl:vbox h nx v K)(hv:scT ι nx v){w:World}(H:RelH ι B h nx w):Does P ι B nx w (Instr.box t (tr ι v)) K:=by
 have hK:(∀ c,v≠.tuple c)∧K (.pointer (some ⟨nx,0,none⟩)) (hput h nx (.cells true false 1 v.cells.toList)) (nx+1):=by
  unfold vbox at hl
  split at hl
  ·exact hl.elim
  ·rename_i hne;exact⟨hne,hl⟩
 obtain⟨hne,hK⟩:=hK
 have hvA:=scA_of_T hne hv
 have hf:=H.fresh t (tr ι v).cells v.cells.toList 1 (by rw [cells_tr hvA];simp) (scA_cells hvA)
 refine⟨_,_,_,_,_,hK,?_,hf,?_,fun k hk=>ins_lt _ _ hk,by omega,?_⟩
 ·simp [scT,scA,scS,scP,ins_same,Loc.isAt]
 ·exact (below_alloc w _).mono H.size
 ·simp [Instr.box,newVar,newRow,tr_pointer,ins_same]
theorem zv_cells (hT:TabOK P T){t:TypeId}{ti:TyI}(ht:look T t=some ti):(∀ u∈ti.zv.cells.toList,gS u=true):=by
 have hg:=(hT t _ ht).zg
 intro u hu
 cases hz:ti.zv with
 |agg c=>rw [hz] at hu hg;exact allG_mem hg hu
 |_ =>
  rw [hz] at hu hg
  simp only [Value.cells,List.mem_singleton] at hu
  subst hu
  exact hg
theorem map_trS_of {l:List Value}(h:∀ u∈l,gS u=true):l.map (trS ι)=l:=map_trS_g (allG_of h)
theorem valloc_ok (hT:TabOK P T){t:TypeId}{K:KE}(hl:valloc T h nx t K){w:World}(H:RelH ι B h nx w):Does P ι B nx w (Instr.alloc t true (.tuple #[])) K:=by
 unfold valloc at hl
 split at hl
 case h_2=>exact hl.elim
 rename_i ti ht
 have hti:=hT t _ ht
 have hz:=zv_cells hT ht
 have hf:=H.fresh t ti.zv.cells ti.zv.cells.toList 1 (by rw [map_trS_of hz]) (fun v hv=>scS_g (hz v hv))
 refine⟨_,_,_,_,_,hl,?_,hf,?_,fun k hk=>ins_lt _ _ hk,by omega,?_⟩
 ·simp [scT,scA,scS,scP,ins_same,Loc.isAt]
 ·exact (below_alloc w _).mono H.size
 ·simp [Instr.alloc,hti.zero,newVar,newRow,tr_pointer,ins_same]
theorem vbuildSlice_ok (hT:TabOK P T){t:TypeId}{len:Nat}{ps:List (Nat × Value)}{K:KE}(hl:vbuildSlice T h nx t len ps K)(hs:∀ p∈ps,scT ι nx p.2){w:World}(H:RelH ι B h nx w) :
  Does P ι B nx w (Instr.buildSlice t len (ps.map fun p=>(p.1,tr ι p.2)).toArray) K:=by
 unfold vbuildSlice at hl
 split at hl
 case h_2=>exact hl.elim
 rename_i e s1 b1 z1 ht
 split at hl
 case h_2=>exact hl.elim
 rename_i ei he
 split at hl
 case h_2=>exact hl.elim
 rename_i hsz hap
 have hsz:=Nat.le_of_ble_eq_true hsz
 have hs':=aggParts_spec hap hs
 have hti:=hT t _ ht
 have hei:=hT e _ he
 split at hl
 case h_2=>exact hl.elim
 rename_i lcells hfill0
 have hzs:ei.zv.cells.size=ei.size:=hei.zs
 have hrep0:((Array.range (len*ei.size)).map ((if len*ei.size=0 then #[] else ei.zv.cells)[· % (if len*ei.size=0 then (#[]:Array Value) else ei.zv.cells).size]!)).toList=rep len ei.zv.cells.toList:=by
  rw [← zeroCells_rep]
  unfold Builtin.zeroCells
  rw [hzs]
  by_cases h0:len*ei.size=0
  ·rw [h0];simp
  ·rw [if_neg h0,hzs]
 obtain⟨cells,hce⟩:∃ cells:Array Value,cells=lcells.toArray:=⟨_,rfl⟩
 have hfill:Instr.fill (fun i=>some (i*ei.size,ei.size)) ((Array.range (len*ei.size)).map ((if len*ei.size=0 then #[] else ei.zv.cells)[· % (if len*ei.size=0 then (#[]:Array Value) else ei.zv.cells).size]!)) ps=some cells:=by
  rw [hce];exact fillL_ok _ _ _ _ _ hrep0 hfill0
 have hl0:lcells=cells.toList:=by rw [hce]
 rw [hl0] at hl
 have hz:=zv_cells hT he
 generalize hz0:(if len*ei.size=0 then (#[]:Array Value) else ei.zv.cells)=z0 at hfill
 have hz0g:∀ u∈z0.toList,gS u=true:=by
  subst hz0
  split
  ·intro u hu;simp at hu
  ·exact hz
 have hrow:∀ u∈((Array.range (len*ei.size)).map (z0[· % z0.size]!)).toList,gS u=true:=by
  intro u hu
  simp only [Array.toList_map,List.mem_map] at hu
  obtain⟨j,hj,rfl⟩:=hu
  by_cases h0:z0.size=0
  ·have:j<len*ei.size:=by simpa using hj
   have:len*ei.size≠0:=by omega
   subst hz0
   rw [if_neg this] at h0
   have:=hei.zs
   have:=hei.pos
   omega
  ·have hlt:j % z0.size<z0.size:=Nat.mod_lt _ (by omega)
   have e1:z0[j % z0.size]! = z0[j % z0.size]:=getElem!_pos z0 _ hlt
   rw [e1]
   exact hz0g _ (by simp)
 have hfm:=fill_map (ι:=ι) (nx:=nx) _ ps _ cells hs' hfill
 have hrm:((Array.range (len*ei.size)).map (z0[· % z0.size]!)).map (trS ι)=(Array.range (len*ei.size)).map (z0[· % z0.size]!):=by
  apply Array.ext'
  rw [Array.toList_map,map_trS_of hrow]
 rw [hrm] at hfm
 have hcs:∀ v∈cells.toList,scS ι nx v:=fill_mem _ (scS ι nx) ps _ cells (fun v hv=>scS_g (hrow v hv)) (fun p hp v hv=>scA_cells (hs' p hp) v hv) hfill
 have hf:=H.fresh e (cells.map (trS ι)) cells.toList ei.size (by simp) hcs
 refine⟨_,_,_,_,_,hl,?_,hf,?_,fun k hk=>ins_lt _ _ hk,by omega,?_⟩
 ·simp [scT,scA,scS,scP,ins_same,Loc.isAt]
 ·exact (below_alloc w _).mono H.size
 ·simp only [Instr.buildSlice,Sem.run_bind,run_underlying (hti.sl rfl),Result.andThen_ok,hei.sizeOf,Sem.run_ite]
  rw [if_neg (by omega)]
  by_cases h0:len*ei.size=0
  ·rw [if_pos h0] at hz0
   subst hz0
   simp only [h0,if_true,Sem.run_pure,Result.andThen_ok] at hfm ⊢
   rw [hfm]
   simp [newRow,tr,trA,trS,trP,ins_same]
  ·rw [if_neg h0] at hz0
   subst hz0
   simp only [h0,if_false,Sem.run_bind,hei.zero,Result.andThen_ok,Sem.run_pure,hfm]
   simp [newRow,tr,trA,trS,trP,ins_same]
end
end Go.Aw
end

noncomputable section
namespace Go.Aw
open Go.RowKit
def rem (h:Heap)(k:Nat):Heap :=
 match h with
 |[]=>[]
 |(j,o)::r=>match Nat.beq j k with|true=>rem r k|false=>(j,o)::rem r k
theorem look_rem (h:Heap)(k j:Nat):look (rem h k) j=if j=k then none else look h j:=by
 induction h with
 |nil=>simp [rem,look_nil]
 |cons x r ih =>
  obtain⟨i,o⟩:=x
  by_cases hik:i=k
  ·subst hik
   have e1:rem ((i,o)::r) i=rem r i:=by simp [rem]
   rw [e1,ih]
   by_cases hji:j=i
   ·rw [if_pos hji,if_pos hji]
   ·have:i.beq j=false:=by
     cases hb:i.beq j with
     |false=>rfl
     |true=>exact absurd (beq_true hb).symm hji
    rw [if_neg hji,if_neg hji]
    simp only [look_cons,this]
  ·have hb:i.beq k=false:=by
    cases hb:i.beq k with
    |false=>rfl
    |true=>exact absurd (beq_true hb) hik
   have e1:rem ((i,o)::r) k=(i,o)::rem r k:=by simp only [rem,hb]
   rw [e1]
   simp only [look_cons]
   cases hij:i.beq j with
   |true =>
    have:=beq_true hij
    subst this
    rw [if_neg hik]
   |false=>exact ih
section
variable {P:Program}{T:Tab}{ι:Nat→Loc}{B nx:Nat}{h:Heap}
theorem RelH.rem {w:World}(H:RelH ι B h nx w)(k:Nat):RelH ι B (rem h k) nx w:=by
 have key:∀ j o,look (Aw.rem h k) j=some o→look h j=some o:=fun j o hj=>by
  rw [look_rem] at hj
  split at hj
  ·cases hj
  ·exact hj
 exact⟨fun j o hj=>H.obj j o (key j o hj),fun j j' o o' h1 h2=>H.sep j j' o o' (key _ _ h1) (key _ _ h2),fun j o hj=>H.low j o (key _ _ hj),H.size,fun j o hj=>H.sc j o (key _ _ hj)⟩
structure Src (P:Program) (w:World) (size:Nat) (x:Value) (m:Nat) (news:List Value):Prop where
 len:(Builtin.lenOf x).run P w=.ok m w
 one:∀ c,(Builtin.firstCells size m x).run P { w with drawn:=c }=.ok news.toArray { w with drawn:=c }
theorem run_append_in {t u e:TypeId}{ty:TypeId}{i:TypeInfo}{d:TypeDesc}(ht:P.underlying t=some (.slice e))(hu:P.underlying u=some d)(hd:∀ k,d≠.int k)(hi:P.info? e=some i)
  (w:World) (base:Option Addr) (n c m:Nat) (x:Value) (news:List Value) (hx:Src P w i.size x m news) (hroom:n+m≤c) :
  (Builtin.append_ #[t,u] ty #[.slice base n c,x]).run P w =
   (match base with|some a=>(storeCells (a.add (n*i.size)) news).run P w|none=>.ok () w).andThen fun _ w'=>.ok (.slice base (n+m) c) w':=by
 have h1:=hx.len
 have h2:(Builtin.firstCells i.size m x).run P w=.ok news.toArray w:=hx.one w.drawn
 have hz:(match d with|.int _=>true|_=>false)=false:=by
  cases d <;> first|rfl|exact absurd rfl (hd _)
 cases base with
 |none=>simp [Builtin.append_,run_underlying ht,run_underlying hu,sizeOf,typeInfo,hi,hz,h1,h2,hroom]
 |some a=>simp [Builtin.append_,run_underlying ht,run_underlying hu,sizeOf,typeInfo,hi,hz,h1,h2,hroom]
theorem run_append_out {t u e:TypeId}{ty:TypeId}{i:TypeInfo}{z:Value}{d:TypeDesc}(ht:P.underlying t=some (.slice e))(hu:P.underlying u=some d)(hd:∀ k,d≠.int k)(hi:P.info? e=some i)(hz:i.zero=some z)
  (w:World) (base:Option Addr) (n c m:Nat) (x:Value) (news olds:List Value) (hx:Src P w i.size x m news) (ho:(Builtin.firstCells i.size n (.slice base n c)).run P w.drew=.ok olds.toArray w.drew)
  (hroom:c<n+m) (hb:i.bytes≤1000) (hm:n+m≤1000000000) :
  ∃ cap,n+m≤cap∧(Builtin.append_ #[t,u] ty #[.slice base n c,x]).run P w =
    .ok (.slice (some ⟨w.heap.size,0,none⟩) (n+m) cap) (w.drew.alloc (.cells (olds++news++(Builtin.zeroCells z.cells (cap - (n+m))).toList).toArray e)):=by
 have h1:=hx.len
 have h2:(Builtin.firstCells i.size m x).run P w.drew=.ok news.toArray w.drew:=hx.one (w.drawn+1)
 have hzz:(match d with|.int _=>true|_=>false)=false:=by
  cases d <;> first|rfl|exact absurd rfl (hd _)
 have hfit:Builtin.nextslicecap (n+m) c*i.bytes≤281474976710656:=growslice_fits hroom (by
  have:=Nat.mul_le_mul hm hb;omega)
 have hn:¬ (n+m≤c):=by omega
 have h63':¬ (9223372036854775807<((n:Int)+(m:Int))):=by omega
 have h48':¬ (281474976710656<Builtin.nextslicecap (n+m) c*i.bytes):=by omega
 refine⟨grownCap w (n+m) c e,grownCap_ge _ _ _ _,?_⟩
 simp [Builtin.append_,run_underlying ht,run_underlying hu,sizeOf,typeInfo,zeroValue,hi,hz,hzz,h1,h2,ho,hn,h63',h48',Question.forced,newRow,grownCap]
 congr 2
 apply Array.ext'
 simp [List.append_assoc]
end
end Go.Aw
end

noncomputable section
namespace Go.Aw
open Go.RowKit
def vhi (A:Ar)(n c:Nat)(hi:Option Value)(G:Nat→Prop):Prop :=
 match hi with
 |none=>G n
 |some (.int _ i)=>must (A.andB (A.le 0 i) (A.le i (A.num c))) (G (A.toN i))
 |_=>False
def isZero:Option Value→Bool
 |none=>true
 |some (.int _ 0)=>true
 |_=>false
def cap3 (h:Heap)(nx k q r:Nat):Heap:=match look h k with
 |some (.cells true _ _ _)=>h
 |some (.cells false g sz cs)=>hput h nx (.cells false g sz ((cs.drop q).take r))
 |_=>h
def vslice (A:Ar)(T:Tab)(h:Heap)(nx:Nat)(t:TypeId)(x:Value)(lo hi mx:Option Value)(K:KE):Prop :=
 match look T t with
 |some { kind:=.sl e,.. } =>
  (match look T e with
  |none=>False
  |some ei =>
   match x,mx with
   |.slice none 0 0,none=>(match isZero lo,isZero hi with|true,true=>K (.slice none 0 0) h nx|_,_=>False)
   |.slice (some ⟨k,o,none⟩) n c,none =>
    vhi A n c hi fun hN =>
     (match lo with
     |none=>K (.slice (some ⟨k,o,none⟩) hN c) h nx
     |some (.int _ l)=>must (A.andB (A.andB (A.le 0 l) (A.le l (A.num hN))) (A.le (A.num hN) (A.num c)))
      (match look h k with
      |some (.cells _ _ _ _)=>br (A.lt l (A.num c)) (fun _=>K (.slice (some ⟨k,A.ix o l ei.size,none⟩) (A.subN hN (A.toN l)) (A.subN c (A.toN l))) h nx) (fun _=>K (.slice (some ⟨nx,0,none⟩) 0 0) h (nx+1))
      |_=>False)
     |_=>False)
   |.slice (some ⟨k,o,none⟩) n c,some (.int _ 0) =>
    (match isZero lo,hi with|true,some (.int _ 0)=>K (.slice (some ⟨nx,0,none⟩) 0 0) (hput h nx .zero) (nx+1)|_,_=>False)
   |.slice (some ⟨k,o,none⟩) n c,some (.int _ m) =>
    (match lo,hi with
    |some (.int _ l),some (.int _ u)=>must (A.andB (A.andB (A.le 0 l) (A.le l u)) (A.andB (A.le u m) (A.andB (A.le 1 m) (A.le m (A.num c))))) (K (.slice (some ⟨nx,0,none⟩) (A.subN (A.toN u) (A.toN l)) (A.subN (A.toN m) (A.toN l))) (cap3 h nx k (A.ix o l ei.size) (A.subN (A.toN m) (A.toN l)*ei.size)) (nx+1))
    |none,some (.int _ u)=>must (A.andB (A.le 0 u) (A.andB (A.le u m) (A.andB (A.le 1 m) (A.le m (A.num c))))) (K (.slice (some ⟨nx,0,none⟩) (A.toN u) (A.toN m)) (cap3 h nx k o (A.toN m*ei.size)) (nx+1))
    |_,_=>False)
   |_,_=>False)
 |_=>False
section
variable {P:Program}{T:Tab}{ι:Nat→Loc}{B nx:Nat}{h:Heap}
def loOf:Option Value→Option Nat
 |none=>some 0
 |some (.int _ i)=>if 0≤i then some i.toNat else none
 |_=>none
def hiOf (n c:Nat):Option Value→Option Nat
 |none=>some n
 |some (.int _ i)=>if 0≤i∧i≤c then some i.toNat else none
 |_=>none
theorem run_sliceAt {t e:TypeId}{s:Nat}(ht:P.underlying t=some (.slice e))(w:World)(hs:(sizeOf e).run P w=.ok s w)(a:Option Addr){n c:Nat}{lo hi:Option Value}{l hN:Nat}
  (hl:loOf lo=some l) (hh:hiOf n c hi=some hN) (hle:l≤hN) :
  (Instr.sliceAt t (.slice a n c) lo hi none).run P w=.ok (.slice (if c=l then a else a.map (·.add (l*s))) (hN - l) (c - l)) w:=by
 have e1:(match hi with|some v=>Instr.sliceBound v c .sliceAcap|none=>pure n:Sem Nat).run P w=.ok hN w:=by
  cases hi with
  |none=>simp [hiOf] at hh;subst hh;simp
  |some v =>
   cases v <;> simp only [hiOf] at hh <;> try (cases hh;done)
   rename_i k i
   split at hh
   ·rename_i hb
    injection hh with hh
    subst hh
    simp [run_sliceBound_if,hb]
   ·cases hh
 have e2:(match lo with|some v=>Instr.sliceBound v hN .sliceB|none=>pure 0:Sem Nat).run P w=.ok l w:=by
  cases lo with
  |none=>simp [loOf] at hl;subst hl;simp
  |some v =>
   cases v <;> simp only [loOf] at hl <;> try (cases hl;done)
   rename_i k i
   split at hl
   ·rename_i hb
    injection hl with hl
    subst hl
    have:0≤i∧i≤hN:=⟨hb,by omega⟩
    simp [run_sliceBound_if,this]
   ·cases hl
 have e3:(Instr.sliceBounds true n c lo hi none).run P w=.ok (l,hN,c) w:=by
  unfold Instr.sliceBounds
  cases hi with
  |none =>
   simp at e1
   subst e1
   cases lo with
   |none=>simp at e2;subst e2;simp
   |some v=>simp at e2 ⊢;rw [e2];simp
  |some v =>
   simp at e1
   cases lo with
   |none=>simp at e2;subst e2;simp [e1]
   |some v=>simp at e2 ⊢;rw [e1];simp [e2]
 simp only [Instr.sliceAt,Sem.run_bind,run_underlying ht,Result.andThen_ok,Instr.slice,e3,hs,Sem.run_pure]
theorem vhi_ok {n c:Nat}{hi:Option Value}{G:Nat→Prop}(hl:vhi std n c hi G):∃ hN,G hN∧(∀ c',c≤c'→hiOf n c' (hi.map (tr ι))=some hN)∧(hN=n∨hN≤c):=by
 unfold vhi at hl
 split at hl
 ·exact⟨n,hl,fun _ _=>rfl,.inl rfl⟩
 ·rename_i k i
  obtain⟨hb,hG⟩:=must_iff.1 hl
  simp only [std,Bool.and_eq_true,decide_eq_true_eq] at hb hG
  refine⟨i.toNat,hG,fun c' hc=>?_,.inr (by omega)⟩
  simp only [Option.map_some,tr_int,hiOf]
  rw [if_pos ⟨hb.1,by omega⟩]
 ·exact hl.elim
theorem isZero_lo {lo:Option Value}(h:isZero lo=true):loOf (lo.map (tr ι))=some 0:=by
 unfold isZero at h
 split at h
 ·rfl
 ·rfl
 ·cases h
theorem isZero_hi {hi:Option Value}{c:Nat}(h:isZero hi=true):hiOf 0 c (hi.map (tr ι))=some 0:=by
 unfold isZero at h
 split at h
 ·rfl
 ·simp [hiOf,tr_int]
 ·cases h
def Names (P:Program)(ι:Nat→Loc)(B nx:Nat)(w0:World)(h:Heap)(m:Sem Value)(K:KE):Prop :=
 ∃ v h' nx' ι',K v h' nx'∧scT ι' nx' v∧(∀ k,k<nx→ι' k=ι k)∧nx≤nx'∧∀ w,RelH ι B h nx w→RelH ι' B h' nx' w∧m.run P w=.ok (tr ι' v) w
theorem cap3_ok {w:World}(H:RelH ι B h nx w){k b off ex q r x:Nat}(hι:ι k=.lay b off ex)(hx:(r=0∧x≤off+q)∨x=off+q):RelH (ins ι nx (.lay b x 0)) B (cap3 h nx k q r) (nx+1) w:=by
 unfold cap3
 have hmem:∀ {cs:List Value} {v:Value},v∈(cs.drop q).take r→v∈cs:=fun hv=>List.mem_of_mem_drop (List.mem_of_mem_take hv)
 have hget:∀ {cs:List Value} {i:Nat} {v:Value},((cs.drop q).take r)[i]? = some v→x=off+q∧cs[q+i]? = some v:=fun {cs i v} hv=>by
  rw [List.getElem?_take] at hv
  split at hv
  ·rename_i hlt
   rw [List.getElem?_drop] at hv
   exact⟨by omega,hv⟩
  ·cases hv
 split
 ·exact H.more _
 ·rename_i g sz cs hk
  obtain⟨h1,h2,h5⟩:ORel ι B w (.cells false g sz cs) (.lay b off ex):=hι▸H.obj k _ hk
  refine H.add _ _ ⟨h1,fun hg=>allG_of fun v hv=>allG_mem (h2 hg) (hmem hv),fun i v hv=>?_⟩ ?_ (fun j o' hj ha b' hb he=>?_)
  ·obtain⟨h6,h7⟩:=hget hv
   have hs:=H.sc k _ hk v (hmem (List.mem_of_getElem? hv))
   rw [trS_eq (ι:=ι) (fun j hj=>ins_lt _ _ hj) hs,h6,Nat.add_assoc]
   exact h5 _ _ h7
  ·exact fun v hv=>scS_mono (by omega) (fun j hj=>ins_lt _ _ hj) (H.sc k _ hk v (hmem hv))
  ·have hb2:(ι k).blk=some b':=by rw [hι];exact hb
   rcases ha with ha|ha
   ·cases ha
   ·by_cases hjk:j=k
    ·subst hjk
     rw [hk] at hj
     injection hj with hj
     subst hj
     cases ha
    ·exact H.sep j k o' _ hj hk hjk ha b' he hb2
 ·exact H.more _
theorem vslice_ok (hT:TabOK P T){t:TypeId}{x:Value}{lo hi mx:Option Value}{K:KE}(hl:vslice std T h nx t x lo hi mx K)(hx:scT ι nx x){w0:World}(H0:RelH ι B h nx w0) :
  Names P ι B nx w0 h (Instr.sliceAt t (tr ι x) (lo.map (tr ι)) (hi.map (tr ι)) (mx.map (tr ι))) K:=by
 unfold vslice at hl
 split at hl
 case h_2=>exact hl.elim
 rename_i e s1 b1 z1 ht
 split at hl
 ·exact hl.elim
 rename_i ei he
 have hti:=hT t _ ht
 have hei:=hT e _ he
 have hts:=hti.sl rfl
 split at hl
 ·split at hl
  case h_2=>exact hl.elim
  rename_i hz1 hz2
  refine⟨_,_,_,ι,hl,by simp [scT,scA,scS,scP],fun _ _=>rfl,Nat.le_refl _,fun w H=>⟨H,?_⟩⟩
  rw [tr_slice_none,Option.map_none,run_sliceAt hts w (hei.sizeOf w) none (isZero_lo hz1) (isZero_hi hz2) (Nat.le_refl _)]
  simp
 ·rename_i k o n c
  have hx':k<nx∧((ι k).isAt=false→n=0∧c=0):=hx
  obtain⟨hN,hG,hhi,hle⟩:=vhi_ok (ι:=ι) hl
  split at hG
  ·refine⟨_,_,_,ι,hG,⟨hx'.1,fun e=>?_⟩,fun _ _=>rfl,Nat.le_refl _,fun w H=>⟨H,?_⟩⟩
   ·have:=hx'.2 e
    omega
   ·cases hι:ι k with
    |nil p =>
     obtain⟨rfl,rfl⟩:=hx'.2 (by rw [hι];rfl)
     have h0:hN=0:=by omega
     subst h0
     simp only [tr,trA,trS,trP,hι,Option.map_none]
     rw [run_sliceAt hts w (hei.sizeOf w) p (l:=0) rfl (hhi 0 (Nat.le_refl _)) (Nat.le_refl _)]
     simp
    |lay b off ex =>
     simp only [tr,trA,trS,trP,hι,Option.map_none]
     rw [run_sliceAt hts w (hei.sizeOf w) _ (l:=0) rfl (hhi (c+ex) (by omega)) (Nat.zero_le _)]
     simp [Addr.add_zero']
  ·rename_i kk l
   obtain⟨hb,hG⟩:=must_iff.1 hG
   simp only [std,Bool.and_eq_true,decide_eq_true_eq] at hb
   obtain⟨hb,hbc⟩:=hb
   have hlo:loOf ((some (Value.int kk l)).map (tr ι))=some l.toNat:=by simp [loOf,tr_int,hb.1]
   split at hG
   ·rename_i wr g sz cs hk
    rcases br_cases hG with ⟨hb2,hG⟩|⟨hb2,hG⟩
    ·simp only [std,decide_eq_true_eq] at hb2 hG
     refine⟨_,_,_,ι,hG,⟨hx'.1,fun e=>?_⟩,fun _ _=>rfl,Nat.le_refl _,fun w H=>⟨H,?_⟩⟩
     ·have:=hx'.2 e
      omega
     ·cases hι:ι k with
      |nil p=>have:=hx'.2 (by rw [hι];rfl);omega
      |lay b off ex =>
       simp only [tr,trA,trS,trP,hι,Option.map_none]
       rw [run_sliceAt hts w (hei.sizeOf w) _ hlo (hhi (c+ex) (by omega)) (by omega),if_neg (by omega)]
       simp only [Option.map_some,Addr.add_lit,Nat.add_assoc]
       congr 2
       omega
    ·simp only [std,decide_eq_false_iff_not] at hb2 hG
     cases hι:ι k with
     |nil p =>
      obtain⟨rfl,rfl⟩:=hx'.2 (by rw [hι];rfl)
      have h0:hN=0:=by omega
      subst h0
      have hl0:l=0:=by omega
      subst hl0
      refine⟨_,_,_,ins ι nx (.nil p),hG,⟨by simp,fun _=>⟨rfl,rfl⟩⟩,fun k hk=>ins_lt _ _ hk,by omega,fun w H=>⟨H.more _,?_⟩⟩
      simp only [tr,trA,trS,trP,hι,Option.map_none,ins_same]
      rw [run_sliceAt hts w (hei.sizeOf w) p (l:=0) (by simp [loOf,tr_int]) (hhi 0 (Nat.le_refl _)) (Nat.le_refl _)]
      simp
     |lay b off ex =>
      refine⟨_,_,_,ins ι nx (.lay b (off+o+(if c+ex=l.toNat then 0 else l.toNat*ei.size)) ex),hG,⟨by simp,fun e=>by rw [ins_same] at e;cases e⟩,fun k hk=>ins_lt _ _ hk,by omega,fun w H=>⟨H.more _,?_⟩⟩
      simp only [tr,trA,trS,trP,hι,Option.map_none,ins_same]
      rw [run_sliceAt hts w (hei.sizeOf w) _ hlo (hhi (c+ex) (by omega)) (by omega)]
      have e1:hN - l.toNat=0:=by omega
      have e2:c+ex - l.toNat=ex:=by omega
      rw [e1,e2]
      by_cases hce:c+ex=l.toNat
      ·rw [if_pos hce,if_pos hce]
       simp only [Nat.add_zero,Nat.zero_add]
      ·rw [if_neg hce,if_neg hce]
       simp only [Option.map_some,Addr.add_lit,Nat.add_zero,Nat.zero_add]
   ·exact hG.elim
  ·exact hG.elim
 ·rename_i k o n c kk
  split at hl
  case h_2=>exact hl.elim
  rename_i kk' hz
  have hx':k<nx∧((ι k).isAt=false→n=0∧c=0):=hx
  have hsl:∀ (w:World) (a:Option Addr) (m c':Nat),(Instr.sliceAt t (.slice a m c') (lo.map (tr ι)) (some (.int kk' 0)) (some (.int kk 0))).run P w=.ok (.slice a 0 0) w:=by
   intro w a m c'
   have e1:=isZero_lo (ι:=ι) hz
   generalize lo.map (tr ι)=lo' at e1
   cases lo' with
   |none =>
    simp [Instr.sliceAt,run_underlying hts,Instr.slice,Instr.sliceBounds,Instr.sliceBound,asIntOf,hei.sizeOf]
   |some v =>
    cases v <;> simp only [loOf] at e1 <;> try (cases e1;done)
    rename_i k3 i
    split at e1
    case isFalse=>cases e1
    have:i=0:=by injection e1;omega
    subst this
    simp [Instr.sliceAt,run_underlying hts,Instr.slice,Instr.sliceBounds,Instr.sliceBound,asIntOf,hei.sizeOf]
  obtain⟨p,hp⟩:∃ p,∀ m c',∃ m' c'',tr ι (.slice (some ⟨k,o,none⟩) m c')=.slice p m' c'':=by
   cases hι:ι k with
   |nil p=>exact⟨p,fun m c'=>⟨m,c',by simp [tr,trA,trS,trP,hι]⟩⟩
   |lay b off ex=>exact⟨some ⟨b,off+o,none⟩,fun m c'=>⟨m,c'+ex,by simp [tr,trA,trS,trP,hι]⟩⟩
  refine⟨_,_,_,ins ι nx (.nil p),hl,⟨by simp,fun _=>by simp⟩,fun k hk=>ins_lt _ _ hk,by omega,fun w H=>⟨?_,?_⟩⟩
  ·exact H.add .zero (.nil p) trivial trivial (fun k' o' _ _ b hb=>by cases hb)
  ·obtain⟨m',c'',e1⟩:=hp n c
   rw [e1]
   have e2:tr (ins ι nx (.nil p)) (.slice (some ⟨nx,0,none⟩) 0 0)=.slice p 0 0:=by simp [tr,trA,trS,trP,ins_same]
   rw [e2]
   exact hsl w _ _ _
 ·rename_i k o n c kk m hm0
  split at hl
  case h_3=>exact hl.elim
  case h_2 =>
   rename_i k2 u
   obtain⟨hb,hG⟩:=must_iff.1 hl
   simp only [std,Bool.and_eq_true,decide_eq_true_eq] at hb hG
   obtain⟨hb2,hb3,hb4,hb5⟩:=hb
   have hx':k<nx∧((ι k).isAt=false→n=0∧c=0):=hx
   cases hι:ι k with
   |nil p =>
    have:=(hx'.2 (by rw [hι];rfl)).2
    omega
   |lay b off ex =>
    refine⟨_,_,_,ins ι nx (.lay b (off+o) 0),hG,⟨by simp,fun e=>by rw [ins_same] at e;cases e⟩,fun k hk=>ins_lt _ _ hk,by omega,fun w H=>⟨cap3_ok H hι (.inr rfl),?_⟩⟩
    have e1:tr ι (.slice (some ⟨k,o,none⟩) n c)=.slice (some ⟨b,off+o,none⟩) n (c+ex):=by simp [tr,trA,trS,trP,hι]
    have e2:∀ n c,tr (ins ι nx (.lay b (off+o) 0)) (.slice (some ⟨nx,0,none⟩) n c)=.slice (some ⟨b,off+o,none⟩) n c:=fun n c=>by simp [tr,trA,trS,trP,ins_same]
    rw [e1,e2]
    simp only [Option.map_some,Option.map_none,tr_int]
    have b1:∀ (hi2:Nat) (wh:_),m≤(hi2:Int)→(Instr.sliceBound (.int kk m) hi2 wh).run P w=.ok m.toNat w:=fun hi2 wh hh=>by
     simp [run_sliceBound_if,show 0≤m∧m≤(hi2:Int) from ⟨by omega,hh⟩]
    have b2:∀ (hi2:Nat) (wh:_),u≤(hi2:Int)→(Instr.sliceBound (.int k2 u) hi2 wh).run P w=.ok u.toNat w:=fun hi2 wh hh=>by
     simp [run_sliceBound_if,show 0≤u∧u≤(hi2:Int) from ⟨by omega,hh⟩]
    simp only [Instr.sliceAt,Sem.run_bind,run_underlying hts,Result.andThen_ok,Instr.slice,Instr.sliceBounds,b1 (c+ex) _ (by omega),b2 m.toNat _ (by omega),hei.sizeOf,Sem.run_pure]
    have hm1:m.toNat≠0:=by omega
    simp [hm1,Addr.add_lit,Nat.add_assoc]
  rename_i k1 l k2 u
  obtain⟨hb,hG⟩:=must_iff.1 hl
  simp only [std,Bool.and_eq_true,decide_eq_true_eq] at hb hG
  obtain⟨⟨hb1,hb2⟩,hb3,hb4,hb5⟩:=hb
  have hx':k<nx∧((ι k).isAt=false→n=0∧c=0):=hx
  cases hι:ι k with
  |nil p =>
   have:=(hx'.2 (by rw [hι];rfl)).2
   omega
  |lay b off ex =>
   refine⟨_,_,_,ins ι nx (.lay b (off+o+(if m.toNat=l.toNat then 0 else l.toNat*ei.size)) 0),hG,⟨by simp,fun e=>by rw [ins_same] at e;cases e⟩,fun k hk=>ins_lt _ _ hk,by omega,fun w H=>⟨cap3_ok H hι (by rcases Nat.eq_zero_or_pos (m.toNat - l.toNat) with h0|h0 <;> first|(rw [if_pos (by omega)];exact .inl ⟨by rw [h0,Nat.zero_mul],by omega⟩)|(rw [if_neg (by omega)];exact .inr (by omega))),?_⟩⟩
   have e1:tr ι (.slice (some ⟨k,o,none⟩) n c)=.slice (some ⟨b,off+o,none⟩) n (c+ex):=by simp [tr,trA,trS,trP,hι]
   have e2:∀ n c,tr (ins ι nx (.lay b (off+o+(if m.toNat=l.toNat then 0 else l.toNat*ei.size)) 0)) (.slice (some ⟨nx,0,none⟩) n c)=.slice (some ⟨b,off+o+(if m.toNat=l.toNat then 0 else l.toNat*ei.size),none⟩) n c:=fun n c=>by simp [tr,trA,trS,trP,ins_same]
   rw [e1,e2]
   simp only [Option.map_some,tr_int]
   have b1:∀ (hi2:Nat) (wh:_),m≤(hi2:Int)→(Instr.sliceBound (.int kk m) hi2 wh).run P w=.ok m.toNat w:=fun hi2 wh hh=>by
    simp [run_sliceBound_if,show 0≤m∧m≤(hi2:Int) from ⟨by omega,hh⟩]
   have b2:∀ (hi2:Nat) (wh:_),u≤(hi2:Int)→(Instr.sliceBound (.int k2 u) hi2 wh).run P w=.ok u.toNat w:=fun hi2 wh hh=>by
    simp [run_sliceBound_if,show 0≤u∧u≤(hi2:Int) from ⟨by omega,hh⟩]
   have b3:∀ (hi2:Nat) (wh:_),l≤(hi2:Int)→(Instr.sliceBound (.int k1 l) hi2 wh).run P w=.ok l.toNat w:=fun hi2 wh hh=>by
    simp [run_sliceBound_if,show 0≤l∧l≤(hi2:Int) from ⟨by omega,hh⟩]
   simp only [Instr.sliceAt,Sem.run_bind,run_underlying hts,Result.andThen_ok,Instr.slice,Instr.sliceBounds,b1 (c+ex) _ (by omega),b2 m.toNat _ (by omega),b3 u.toNat _ (by omega),hei.sizeOf,Sem.run_pure]
   by_cases hml:m.toNat=l.toNat
   ·simp [hml]
   ·simp [hml,Addr.add_lit,Nat.add_assoc]
 ·exact hl.elim
end
end Go.Aw
end
