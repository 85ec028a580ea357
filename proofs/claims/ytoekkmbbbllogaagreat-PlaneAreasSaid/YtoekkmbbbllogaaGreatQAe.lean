/-
  Parts of a proof. No condition.
-/
import Derived.Test.YtoekkmbbbllogaaGreatQAd
import Derived.Laws.MakeOwn
set_option linter.unusedSimpArgs false
set_option linter.unusedVariables false
noncomputable section
namespace Go.Aw
open Go.RowKit
def vsrc (h:Heap)(sz:Nat)(x:Value)(G:Nat→List Value→Prop):Prop :=
 match x with
 |.slice none 0 0=>G 0 []
 |.slice (some ⟨k,o,none⟩) m _ =>
  (match look h k with
  |some (.cells _ _ _ cs)=>must (Nat.ble (o+m*sz) cs.length) (G m ((cs.drop o).take (m*sz)))
  |some .zero=>(match m with|0=>G 0 []|_=>False)
  |none=>(match m with|0=>G 0 []|_=>False)
  |_=>False)
 |_=>False
def vmakeSlice (A:Ar)(T:Tab)(h:Heap)(nx:Nat)(t:TypeId)(l c:Value)(K:KE):Prop :=
 match look T t,l,c with
 |some { kind:=.sl e,.. },.int .i64 i,.int .i64 j =>
  (match look T e with
  |some ei=>must (A.andB (A.andB (A.le 0 i) (A.le i j)) (A.andB (A.le j 1000000000) (Nat.ble ei.bytes 1000)))
   (K (.slice (some ⟨nx,0,none⟩) (A.toN i) (A.toN j)) (hput h nx (.cells true false ei.size (rep (A.toN j) ei.zv.cells.toList))) (nx+1))
  |none=>False)
 |_,_,_=>False
def vappend (A:Ar)(T:Tab)(h:Heap)(nx:Nat)(st xt:TypeId)(s x:Value)(K:KE):Prop :=
 match look T st,look T xt with
 |some { kind:=.sl e,.. },some { kind:=.int _,.. } =>
  (match look T e with
  |some ei=>(match s,x,Nat.ble ei.bytes 1000 with
   |.slice none 0 0,.int .i64 i,true=>must (A.andB (A.lt 0 i) (A.le i 1000000000)) (K (.slice (some ⟨nx,0,none⟩) (A.toN i) (A.toN i)) (hput h nx (.cells true false ei.size (rep (A.toN i) ei.zv.cells.toList))) (nx+1))
   |_,_,_=>False)
  |none=>False)
 |some { kind:=.sl e,.. },some { kind:=.sl _,.. } =>
  (match look T e with
  |none=>False
  |some ei =>
   match Nat.ble ei.bytes 1000 with
   |false=>False
   |true =>
    vsrc h ei.size x fun m src =>
     (match s with
     |.slice none 0 0=>br (Nat.beq m 0) (fun _=>K (.slice none 0 0) h nx)
      (fun _=>must (Nat.ble m 1000000000) (K (.slice (some ⟨nx,0,none⟩) m m) (hput h nx (.cells true false ei.size src)) (nx+1)))
     |.slice (some ⟨k,o,none⟩) n c =>
      (match look h k with
      |some .zero=>(match n,c with
       |0,0=>br (Nat.beq m 0) (fun _=>K (.slice (some ⟨k,o,none⟩) 0 0) h nx)
        (fun _=>must (Nat.ble m 1000000000) (K (.slice (some ⟨nx,0,none⟩) m m) (hput h nx (.cells true false ei.size src)) (nx+1)))
       |_,_=>False)
      |some (.cells true _ sz cs) =>
       br (Nat.ble (n+m) c)
        (fun _=>must (Nat.ble (o+(n+m)*ei.size) cs.length) (K (.slice (some ⟨k,o,none⟩) (n+m) c) (upd h k (.cells true false sz (putN cs (o+n*ei.size) src))) nx))
        (fun _=>must (A.andB (A.andB (Nat.ble (n+m) 1000000000) (Nat.ble (o+n*ei.size) cs.length)) (A.andB (Nat.beq (o+c*ei.size) cs.length) (Nat.beq sz ei.size)))
         (K (.slice (some ⟨nx,0,none⟩) (n+m) (n+m)) (hput (rem h k) nx (.cells true false ei.size ((cs.drop o).take (n*ei.size)++src))) (nx+1)))
      |_=>False)
     |_=>False))
 |_,_=>False
section
variable {P:Program}{T:Tab}{ι:Nat→Loc}{B nx:Nat}{h:Heap}
theorem RelH.drawn {w:World}(H:RelH ι B h nx w)(c:Nat):RelH ι B h nx { w with drawn:=c } :=
 H.keep (fun _ _ _ _ _=>rfl) (Nat.le_refl _)
theorem RelH.win {w:World}(H:RelH ι B h nx w){k:Nat}{wr g:Bool}{sz:Nat}{cs:List Value}(hk:look h k=some (.cells wr g sz cs)){b off e:Nat}(hι:ι k=.lay b off e){o n:Nat}(hl:o+n≤cs.length) :
  (loadCells ⟨b,off+o,none⟩ n).run P w=.ok (((cs.drop o).take n).map (trS ι)).toArray w:=by
 have hlen:(((cs.drop o).take n).map (trS ι)).length=n:=by simp;omega
 have:=run_loadCells_list (P:=P) w ⟨b,off+o,none⟩ (((cs.drop o).take n).map (trS ι)) (fun j v hj=>by
  obtain⟨u,hu,rfl⟩:=map_getElem?_some hj
  rw [List.getElem?_take] at hu
  split at hu
  case isFalse=>cases hu
  rw [List.getElem?_drop] at hu
  obtain⟨b',off',e',hι',hc⟩:=H.cell hk hu
  rw [hι] at hι'
  injection hι' with e1 e2 e3
  subst e1;subst e2
  rw [Addr.add_lit,Nat.add_assoc]
  exact hc)
 rwa [hlen] at this
theorem vsrc_ok {sz:Nat}{x:Value}{G:Nat→List Value→Prop}(hl:vsrc h sz x G)(hx:scT ι nx x){w:World}(H:RelH ι B h nx w) :
  ∃ m src,G m src∧src.length=m*sz∧(∀ v∈src,scS ι nx v)∧Src P w sz (tr ι x) m (src.map (trS ι)):=by
 unfold vsrc at hl
 split at hl
 ·exact⟨0,[],hl,by simp,by simp,⟨by simp [tr_slice_none,Builtin.lenOf],fun c=>by simp [tr_slice_none,Builtin.firstCells]⟩⟩
 ·rename_i k o m c
  have hx':k<nx∧((ι k).isAt=false→m=0∧c=0):=hx
  split at hl
  ·rename_i wr g sz' cs hk
   obtain⟨hb,hG⟩:=must_iff.1 hl
   have hb:=Nat.le_of_ble_eq_true hb
   refine⟨m,_,hG,by simp;omega,fun v hv=>H.sc k _ hk v (List.mem_of_mem_drop (List.mem_of_mem_take hv)),?_⟩
   cases hι:ι k with
   |nil p =>
    obtain⟨rfl,rfl⟩:=hx'.2 (by rw [hι];rfl)
    refine⟨by simp [tr,trA,trS,trP,hι,Builtin.lenOf],fun c=>?_⟩
    cases p with
    |none=>simp [tr,trA,trS,trP,hι,Builtin.firstCells]
    |some p=>simp [tr,trA,trS,trP,hι,Builtin.firstCells,loadCells,loadCellsFrom]
   |lay b off e =>
    refine⟨by simp [tr,trA,trS,trP,hι,Builtin.lenOf],fun c=>?_⟩
    simp only [tr,trA,trS,trP,hι,Builtin.firstCells]
    exact (H.drawn c).win hk hι hb
  ·rename_i hk
   split at hl
   case h_2=>exact hl.elim
   refine⟨0,[],hl,by simp,by simp,?_⟩
   have hob:=H.obj k _ hk
   cases hι:ι k with
   |nil p =>
    refine⟨by simp [tr,trA,trS,trP,hι,Builtin.lenOf],fun c=>?_⟩
    cases p with
    |none=>simp [tr,trA,trS,trP,hι,Builtin.firstCells]
    |some p=>simp [tr,trA,trS,trP,hι,Builtin.firstCells,loadCells,loadCellsFrom]
   |lay b off e=>rw [hι] at hob;exact hob.elim
  ·rename_i hk
   split at hl
   case h_2=>exact hl.elim
   refine⟨0,[],hl,by simp,by simp,?_⟩
   cases hι:ι k with
   |nil p =>
    refine⟨by simp [tr,trA,trS,trP,hι,Builtin.lenOf],fun c=>?_⟩
    cases p with
    |none=>simp [tr,trA,trS,trP,hι,Builtin.firstCells]
    |some p=>simp [tr,trA,trS,trP,hι,Builtin.firstCells,loadCells,loadCellsFrom]
   |lay b off e =>
    refine⟨by simp [tr,trA,trS,trP,hι,Builtin.lenOf],fun c=>?_⟩
    simp [tr,trA,trS,trP,hι,Builtin.firstCells,loadCells,loadCellsFrom]
  ·exact hl.elim
 ·exact hl.elim
theorem RelH.grown {w:World}(H:RelH ι B h nx w)(e:TypeId)(cs:List Value)(sz cap need:Nat)(zs:List Value)(hz:zs.length=(cap - need)*sz)(hs:∀ v∈cs,scS ι nx v) :
  RelH (ins ι nx (.lay w.heap.size 0 (cap - need))) B (hput h nx (.cells true false sz cs)) (nx+1) (w.alloc (.cells (cs.map (trS ι)++zs).toArray e)):=by
 refine (H.ext (below_alloc w _)).add _ _ ?_ ?_ (fun k o' hk _ b hb e'=>?_)
 ·refine⟨H.size,by simp,_,e,(MapKept.heap_alloc w _).1,by simp [hz],fun i v hv=>?_⟩
  have hlt:=(List.getElem?_eq_some_iff.1 hv).1
  rw [Nat.zero_add,List.getElem?_toArray,List.getElem?_append_left (by simpa using hlt),List.getElem?_map,hv]
  simp only [Option.map_some]
  rw [trS_eq (ι:=ι) (fun k hk=>ins_lt _ _ hk) (hs v (List.mem_of_getElem? hv))]
 ·intro v hv
  exact scS_mono (by omega) (fun k hk=>ins_lt _ _ hk) (hs v hv)
 ·have h1:=(H.obj k o' hk).lt e'
  have:w.heap.size=b:=by simpa [Loc.blk] using hb
  omega
theorem putN_nil {cs:List Value}{o:Nat}:putN cs o []=cs:=by simp [putN]
theorem RelH.put' {w:World}(H:RelH ι B h nx w){k:Nat}{g:Bool}{sz:Nat}{cs:List Value}(hk:look h k=some (.cells true g sz cs)){b off e:Nat}(hι:ι k=.lay b off e){o:Nat}{vs:List Value}(ho:o+vs.length≤cs.length)
  (hs:∀ v∈vs,scS ι nx v) :
  ∃ w',(storeCells ⟨b,off+o,none⟩ (vs.map (trS ι))).run P w=.ok () w'∧Bel B w w'∧RelH ι B (upd h k (.cells true false sz (putN cs o vs))) nx w':=by
 by_cases hne:vs=[]
 ·subst hne
  refine⟨w,by simp [storeCells],Bel.refl _ _,?_⟩
  rw [putN_nil]
  have hob:=H.obj k _ hk
  rw [hι] at hob
  refine H.set hk rfl ?_ (fun v hv=>H.scell hk hv) rfl (fun _ _=>rfl) (Nat.le_refl _)
  rw [hι]
  exact⟨hob.1,by simp,hob.2.2⟩
 ·obtain⟨b',off',e',w',hι',h1,h2,h3⟩:=H.put (P:=P) hk ho hs hne
  rw [hι] at hι'
  injection hι' with e1 e2 e3
  subst e1;subst e2
  exact⟨w',h1,h2,h3⟩
end
end Go.Aw
end

noncomputable section
namespace Go.Aw
open Go.RowKit
section
variable {P:Program}{T:Tab}{ι:Nat→Loc}{B nx:Nat}{h:Heap}
theorem vsrc_nil {sz m:Nat}{src:List Value}(h1:src.length=m*sz)(h0:m=0):src=[]:=by
 subst h0
 cases src with
 |nil=>rfl
 |cons a r=>simp at h1
theorem vappend_new {st xt e:TypeId}{ei si:TyI}{d:TypeDesc}(hds:P.underlying st=some (.slice e))(hdx:P.underlying xt=some d)(hd:∀ k,d≠.int k)(hT:TabOK P T)(he:look T e=some ei)(hby:ei.bytes≤1000)
  {ty:TypeId} {x:Value} {m:Nat} {src olds:List Value} (hlen:src.length=m*ei.size) (hsc:∀ v∈src,scS ι nx v)
  {w:World} (H:RelH ι B h nx w) (hsrc:Src P w ei.size x m (src.map (trS ι))) {base:Option Addr} {n c:Nat} (hlo:olds.length=n*ei.size) (hos:∀ v∈olds,scS ι nx v)
  (hold:(Builtin.firstCells ei.size n (.slice base n c)).run P w.drew=.ok (olds.map (trS ι)).toArray w.drew) (hroom:c<n+m) (hm:n+m≤1000000000) {K:KE}
  (hK:K (.slice (some ⟨nx,0,none⟩) (n+m) (n+m)) (hput h nx (.cells true false ei.size (olds++src))) (nx+1)) :
  Does P ι B nx w (Builtin.append_ #[st,xt] ty #[.slice base n c,x]) K:=by
 have hei:=hT e _ he
 obtain⟨inf,hi,h1,h2,h3⟩:=hei.info
 obtain⟨cap,hc,hrun⟩:=run_append_out (ty:=ty) hds hdx hd hi h3 w base n c m x (src.map (trS ι)) (olds.map (trS ι)) (by rw [h1];exact hsrc) (by rw [h1];exact hold) hroom (by omega) hm
 have H':RelH ι B h nx w.drew:=H.drawn _
 have hg:=H'.grown e (olds++src) ei.size cap (n+m) (Builtin.zeroCells ei.zv.cells (cap - (n+m))).toList (by
  rw [Array.length_toList,size_zeroCells,hei.zs]) (by
  intro v hv
  rcases List.mem_append.1 hv with hv|hv
  ·exact hos v hv
  ·exact hsc v hv)
 refine⟨_,_,_,_,_,hK,?_,hg,?_,fun k hk=>ins_lt _ _ hk,by omega,?_⟩
 ·simp [scT,scA,scS,scP,ins_same,Loc.isAt]
 ·exact Bel.trans (⟨rfl,rfl,rfl,Nat.le_refl _,fun _ _=>rfl,Nat.le_succ _⟩:Bel B w w.drew) ((below_alloc w.drew _).mono H.size)
 ·rw [hrun]
  simp only [tr,trA,trS,trP,ins_same,List.map_append,Nat.add_zero]
  congr 2
  ·omega
theorem vmakeSlice_ok (hT:TabOK P T){t:TypeId}{l c:Value}{K:KE}(hl:vmakeSlice std T h nx t l c K){w:World}(H:RelH ι B h nx w) :
  Does P ι B nx w (Instr.makeSlice t (tr ι l) (tr ι c)) K:=by
 unfold vmakeSlice at hl
 split at hl
 case h_2=>exact hl.elim
 rename_i e s1 b1 z1 i j ht
 split at hl
 case h_2=>exact hl.elim
 rename_i ei he
 obtain⟨hb,hK⟩:=must_iff.1 hl
 simp only [std,Bool.and_eq_true,decide_eq_true_eq] at hb hK
 obtain⟨⟨hb1,hb2⟩,hb3,hb4⟩:=hb
 have hb4:=Nat.le_of_ble_eq_true hb4
 have hts:=(hT t _ ht).sl rfl
 have hei:=hT e _ he
 obtain⟨inf,hi,hi1,hi2,hi3⟩:=hei.info
 have hz:=zv_cells hT he
 have hrep:∀ v∈rep j.toNat ei.zv.cells.toList,gS v=true:=by
  intro v hv
  simp only [rep,List.mem_flatten,List.mem_replicate] at hv
  obtain⟨l,⟨_,rfl⟩,hv⟩:=hv
  exact hz v hv
 have hcells:madeCells ei.zv.cells (j.toNat*inf.size)=(rep j.toNat ei.zv.cells.toList).toArray:=by
  have:=zeroCells_rep ei.zv.cells j.toNat
  rw [← this,hi1,← hei.zs]
  rfl
 have h3:(inf.bytes:Int)*j≤281474976710656:=by
  have h3:inf.bytes*j.toNat≤1000*1000000000:=Nat.mul_le_mul (by omega) (by omega)
  have h4:((inf.bytes*j.toNat:Nat):Int)=inf.bytes*j:=by rw [Int.natCast_mul,Int.toNat_of_nonneg (by omega)]
  omega
 have hrun:=run_make (P:=P) w t e inf ei.zv hts hi hi3 .i64 .i64 i j hb1 hb2 h3 (by omega)
 have hf:=H.fresh e (madeCells ei.zv.cells (j.toNat*inf.size)) (rep j.toNat ei.zv.cells.toList) ei.size (by rw [hcells,map_trS_of hrep]) (fun v hv=>scS_g (hrep v hv))
 refine⟨_,_,_,_,_,hK,?_,hf,?_,fun k hk=>ins_lt _ _ hk,by omega,?_⟩
 ·simp [scT,scA,scS,scP,ins_same,Loc.isAt]
 ·exact (below_alloc w _).mono H.size
 ·rw [tr_int,tr_int,hrun]
  simp [tr,trA,trS,trP,ins_same]
theorem vappend_ok (hT:TabOK P T){st xt ty:TypeId}{s x:Value}{K:KE}(hl:vappend std T h nx st xt s x K)(hs:scT ι nx s)(hx:scT ι nx x){w:World}(H:RelH ι B h nx w) :
  Does P ι B nx w (Builtin.append_ #[st,xt] ty #[tr ι s,tr ι x]) K:=by
 unfold vappend at hl
 split at hl
 case h_3=>exact hl.elim
 case h_1 =>
  rename_i e s1 b1 z1 ik s2 b2 z2 hst hxt
  split at hl
  case h_2=>exact hl.elim
  rename_i ei he
  split at hl
  case h_2=>exact hl.elim
  rename_i i hby
  have hby:=Nat.le_of_ble_eq_true hby
  obtain⟨hb,hK⟩:=must_iff.1 hl
  simp only [std,Bool.and_eq_true,decide_eq_true_eq] at hb hK
  have hds:=(hT st _ hst).sl rfl
  have hdx:=(hT xt _ hxt).int rfl
  have hei:=hT e _ he
  obtain⟨inf,hi,hi1,hi2,hi3⟩:=hei.info
  have hz:=zv_cells hT he
  have hrep:∀ v∈rep i.toNat ei.zv.cells.toList,gS v=true:=by
   intro v hv
   simp only [rep,List.mem_flatten,List.mem_replicate] at hv
   obtain⟨l,⟨_,rfl⟩,hv⟩:=hv
   exact hz v hv
  have hg:=(H.drawn (w.drawn+1)).grown e (rep i.toNat ei.zv.cells.toList) ei.size (grownCap w i.toNat 0 e) i.toNat (Builtin.zeroCells ei.zv.cells (grownCap w i.toNat 0 e - i.toNat)).toList (by
   rw [Array.length_toList,size_zeroCells,hei.zs]) (fun v hv=>scS_g (hrep v hv))
  refine⟨_,_,_,_,_,hK,?_,hg,?_,fun k hk=>ins_lt _ _ hk,by omega,?_⟩
  ·simp [scT,scA,scS,scP,ins_same,Loc.isAt]
  ·exact Bel.trans (⟨rfl,rfl,rfl,Nat.le_refl _,fun _ _=>rfl,Nat.le_succ _⟩:Bel B w w.drew) ((below_alloc w.drew _).mono H.size)
  ·have hn0:i.toNat≠0:=by omega
   have hpos:=hei.pos
   have hns:¬ (i.toNat*ei.size=0):=Nat.pos_iff_ne_zero.1 (Nat.mul_pos (by omega) hpos)
   have hwr:IntKind.i64.wrap i=i:=IntWalk.i64_in i ⟨by omega,by omega⟩
   have hfit:Builtin.nextslicecap i.toNat 0*inf.bytes≤281474976710656:=growslice_fits (by omega) (by
    have:=Nat.mul_le_mul (show i.toNat≤1000000000 by omega) (show inf.bytes≤1000 by omega);omega)
   have c1:¬ (i<0):=by omega
   have c2:¬ (281474976710656<i*(inf.bytes:Int)):=by
    have h3:i.toNat*inf.bytes≤1000000000*1000:=Nat.mul_le_mul (by omega) (by omega)
    have h4:((i.toNat*inf.bytes:Nat):Int)=i*inf.bytes:=by rw [Int.natCast_mul,Int.toNat_of_nonneg (by omega)]
    omega
   have c3:¬ (i.toNat=0):=hn0
   have c4:¬ (9223372036854775807<(i.toNat:Int)):=by omega
   have c5:¬ (281474976710656<Builtin.nextslicecap i.toNat 0*inf.bytes):=by omega
   have c6:¬ (i.toNat=0∨inf.size=0):=by omega
   have hz':(Builtin.zeroCells ei.zv.cells i.toNat).toList=rep i.toNat ei.zv.cells.toList:=zeroCells_rep _ _
   rw [tr_slice_none,tr_int]
   simp only [tr,trA,trS,trP,ins_same,Nat.add_zero]
   simp [Builtin.append_,run_underlying hds,run_underlying hdx,sizeOf,typeInfo,zeroValue,asInt,asIntOf,hi,hi3,hwr,c1,c2,c3,c4,c5,c6,Question.forced,newRow,grownCap,Builtin.firstCells,map_trS_of hrep]
   have d1:¬ (i≤0):=by omega
   have d2:¬ (9223372036854775807<max i 0):=by omega
   have d3:¬ (i.toNat*inf.size=0):=by rw [hi1];exact hns
   have d4:i.toNat+(grownCap w i.toNat 0 e - i.toNat)=grownCap w i.toNat 0 e:=by
    have:=grownCap_ge w i.toNat 0 e
    omega
   simp only [grownCap] at d4
   rw [if_neg d1,if_neg d2,if_neg d3,d4,← hz',← Array.toList_append]
 rename_i e s1 b1 z1 e' s2 b2 z2 hst hxt
 split at hl
 ·exact hl.elim
 rename_i ei he
 split at hl
 ·exact hl.elim
 rename_i hby
 have hby:=Nat.le_of_ble_eq_true hby
 have hds:=(hT st _ hst).sl rfl
 have hdx:=(hT xt _ hxt).sl rfl
 have hd:∀ k,TypeDesc.slice e'≠.int k:=fun k e=>by cases e
 have hei:=hT e _ he
 obtain⟨inf,hi,hi1,hi2,hi3⟩:=hei.info
 obtain⟨m,src,hG,hlen,hsc,hsrc⟩:=vsrc_ok (P:=P) hl hx H
 have hfirst0:∀ (p:Option Addr),(Builtin.firstCells ei.size 0 (.slice p 0 0)).run P w.drew=.ok (([]:List Value).map (trS ι)).toArray w.drew:=by
  intro p
  cases p <;> simp [Builtin.firstCells,loadCells,loadCellsFrom]
 split at hG
 ·rcases br_cases hG with ⟨hm,hK⟩|⟨hm,hK⟩
  ·have hm:=beq_true hm
   have:=vsrc_nil hlen hm
   subst this;subst hm
   refine⟨_,_,_,ι,w,hK,by simp [scT,scA,scS,scP],H,Bel.refl _ _,fun _ _=>rfl,Nat.le_refl _,?_⟩
   rw [tr_slice_none,run_append_in hds hdx hd hi w none 0 0 0 (tr ι x) [] (by rw [hi1];exact hsrc) (by omega)]
   rfl
  ·obtain⟨h1,hK⟩:=must_iff.1 hK
   have hm:=beq_false hm
   have h1:=Nat.le_of_ble_eq_true h1
   rw [tr_slice_none]
   exact vappend_new (si:=ei) (olds:=[]) hds hdx hd hT he hby hlen hsc H hsrc (by simp) (by simp) (hfirst0 none) (by omega) (by omega) (by simpa using hK)
 ·rename_i k o n c
  have hs':k<nx∧((ι k).isAt=false→n=0∧c=0):=hs
  split at hG
  ·rename_i hk
   split at hG
   case h_2=>exact hG.elim
   have hob:=H.obj k _ hk
   cases hι:ι k with
   |lay b off ex=>rw [hι] at hob;exact hob.elim
   |nil p =>
    have htr:tr ι (.slice (some ⟨k,o,none⟩) 0 0)=.slice p 0 0:=by simp [tr,trA,trS,trP,hι]
    rw [htr]
    rcases br_cases hG with ⟨hm,hK⟩|⟨hm,hK⟩
    ·have hm:=beq_true hm
     have:=vsrc_nil hlen hm
     subst this;subst hm
     refine⟨_,_,_,ι,w,hK,hs,H,Bel.refl _ _,fun _ _=>rfl,Nat.le_refl _,?_⟩
     rw [htr,run_append_in hds hdx hd hi w p 0 0 0 (tr ι x) [] (by rw [hi1];exact hsrc) (by omega)]
     cases p <;> simp [storeCells]
    ·obtain⟨h1,hK⟩:=must_iff.1 hK
     have hm:=beq_false hm
     have h1:=Nat.le_of_ble_eq_true h1
     exact vappend_new (si:=ei) (olds:=[]) hds hdx hd hT he hby hlen hsc H hsrc (by simp) (by simp) (hfirst0 p) (by omega) (by omega) (by simpa using hK)
  ·rename_i g sz cs hk
   rcases br_cases hG with ⟨hm,hK⟩|⟨hm,hK⟩
   ·obtain⟨hb,hK⟩:=must_iff.1 hK
    have hb:=Nat.le_of_ble_eq_true hb
    have hm:=Nat.le_of_ble_eq_true hm
    have hmul:(n+m)*ei.size=n*ei.size+m*ei.size:=Nat.add_mul _ _ _
    cases hι:ι k with
    |nil p =>
     obtain⟨rfl,rfl⟩:=hs'.2 (by rw [hι];rfl)
     have hm0:m=0:=by omega
     have:=vsrc_nil hlen hm0
     subst this;subst hm0
     have htr:tr ι (.slice (some ⟨k,o,none⟩) 0 0)=.slice p 0 0:=by simp [tr,trA,trS,trP,hι]
     rw [putN_nil] at hK
     refine⟨_,_,_,ι,w,hK,by exact⟨hs'.1,fun _=>⟨rfl,rfl⟩⟩,?_,Bel.refl _ _,fun _ _=>rfl,Nat.le_refl _,?_⟩
     ·refine H.set hk rfl ?_ (fun v hv=>H.scell hk hv) rfl (fun _ _=>rfl) (Nat.le_refl _)
      have hob:=H.obj k _ hk
      rw [hι] at hob ⊢
      exact hob
     ·rw [htr,run_append_in hds hdx hd hi w p 0 0 0 (tr ι x) [] (by rw [hi1];exact hsrc) (by omega)]
      cases p <;> simp [storeCells,tr,trA,trS,trP,hι]
    |lay b off ex =>
     obtain⟨w',h1,h2,h3⟩:=H.put' (P:=P) hk hι (o:=o+n*ei.size) (vs:=src) (by omega) hsc
     have htr:∀ n c,tr ι (.slice (some ⟨k,o,none⟩) n c)=.slice (some ⟨b,off+o,none⟩) n (c+ex):=fun n c=>by simp [tr,trA,trS,trP,hι]
     refine⟨_,_,_,ι,w',hK,⟨hs'.1,fun h=>by rw [hι] at h;cases h⟩,h3,h2,fun _ _=>rfl,Nat.le_refl _,?_⟩
     rw [htr,htr,run_append_in hds hdx hd hi w (some ⟨b,off+o,none⟩) n (c+ex) m (tr ι x) (src.map (trS ι)) (by rw [hi1];exact hsrc) (by omega)]
     simp only [hi1,Addr.add_lit,Nat.add_assoc] at h1 ⊢
     rw [h1]
     rfl
   ·obtain⟨hb,hK'⟩:=must_iff.1 hK
    clear hK
    simp only [std,Bool.and_eq_true] at hb
    obtain⟨⟨hb1,hb2⟩,hb3,hb4⟩:=hb
    have hb1:=Nat.le_of_ble_eq_true hb1
    have hb2:=Nat.le_of_ble_eq_true hb2
    have hb3:=beq_true hb3
    have hb4:=beq_true hb4
    subst hb4
    have hm:¬ (n+m≤c):=fun hle=>by
     have:=Nat.ble_eq_true_of_le hle
     rw [hm] at this;cases this
    have hmul:(n+m)*ei.size=n*ei.size+m*ei.size:=Nat.add_mul _ _ _
    have hoc:∀ v∈(cs.drop o).take (n*ei.size),scS ι nx v:=fun v hv=>H.scell hk (List.mem_of_mem_drop (List.mem_of_mem_take hv))
    have hol:((cs.drop o).take (n*ei.size)).length=n*ei.size:=by simp;omega
    cases hι:ι k with
    |nil p =>
     obtain⟨rfl,rfl⟩:=hs'.2 (by rw [hι];rfl)
     have htr:tr ι (.slice (some ⟨k,o,none⟩) 0 0)=.slice p 0 0:=by simp [tr,trA,trS,trP,hι]
     rw [htr]
     refine vappend_new (si:=ei) (olds:=[]) hds hdx hd hT he hby hlen hsc (H.rem k) hsrc (by simp) (by simp) (hfirst0 p) (by omega) (by omega) ?_
     simpa using hK'
    |lay b off ex =>
     have htr:tr ι (.slice (some ⟨k,o,none⟩) n c)=.slice (some ⟨b,off+o,none⟩) n (c+ex):=by simp [tr,trA,trS,trP,hι]
     rw [htr]
     by_cases hin:n+m≤c+ex
     ·-- in place,beyond what was known
      have hob:=H.obj k _ hk
      rw [hι] at hob
      obtain⟨hB,_,arr,t,a1,a2,a3⟩:=hob
      have hone:∀ v∈src.map (trS ι),v.oneCell'=true:=by
       intro v hv
       obtain⟨u,hu,rfl⟩:=List.mem_map.1 hv
       exact (trS_oneCell (hsc u hu)).1
      have hroom2:(n+m)*ei.size≤(c+ex)*ei.size:=Nat.mul_le_mul_right _ hin
      have hcx:(c+ex)*ei.size=c*ei.size+ex*ei.size:=Nat.add_mul _ _ _
      obtain⟨w',arr',e1,e2,e3,e4,e5⟩:=run_storeCells (P:=P) (off:=off+(o+n*ei.size)) (src.map (trS ι)) 0 w arr hone a1 (by simp;omega)
      have Hr:RelH ι B (rem h k) nx w':=by
       refine (H.rem k).keep (fun j o' b' hj hb'=>e2.other b' (fun e=>?_)) (Nat.le_of_eq e2.size.symm)
       subst e
       rw [look_rem] at hj
       split at hj
       ·cases hj
       ·rename_i hjk
        exact H.sep k j _ o' hk hj (fun e=>hjk e.symm) rfl b' (by rw [hι];rfl) hb'
      have hnew:=Hr.add (.cells true false ei.size ((cs.drop o).take (n*ei.size)++src)) (.lay b (off+o) (c+ex - (n+m))) (by
       refine⟨hB,by simp,arr',t,e3,?_,fun i v hv=>?_⟩
       ·have:(c+ex - (n+m))*ei.size=(c+ex)*ei.size - (n+m)*ei.size:=Nat.sub_mul _ _ _
        rw [e4,List.length_append,hol,hlen]
        omega
       ·rw [e5]
        simp only [List.length_map,Nat.add_zero]
        have hmem:=List.mem_of_getElem? hv
        have hscv:scS ι nx v:=by
         rcases List.mem_append.1 hmem with hv|hv
         ·exact hoc v hv
         ·exact hsc v hv
        rw [trS_eq (fun k hk=>ins_lt _ _ hk) hscv]
        by_cases hi':i<n*ei.size
        ·rw [List.getElem?_append_left (by omega)] at hv
         rw [List.getElem?_take_of_lt hi',List.getElem?_drop] at hv
         rw [if_neg (by omega),Nat.add_assoc]
         exact a3 _ v hv
        ·rw [List.getElem?_append_right (by omega),hol] at hv
         have:=(List.getElem?_eq_some_iff.1 hv).1
         rw [if_pos (by omega),show off+o+i - (off+(o+n*ei.size))=i - n*ei.size by omega,List.getElem?_map,hv]
         rfl) (by
       intro v hv
       refine scS_mono (by omega) (fun k hk=>ins_lt _ _ hk) ?_
       rcases List.mem_append.1 hv with hv|hv
       ·exact hoc v hv
       ·exact hsc v hv) (by
       intro j o' hj _ b' hb'
       have:b=b':=by simpa [Loc.blk] using hb'
       subst this
       rw [look_rem] at hj
       split at hj
       ·cases hj
       ·rename_i hjk
        exact H.sep k j _ o' hk hj (fun e=>hjk e.symm) rfl b (by rw [hι];rfl))
      refine⟨_,_,_,_,w',hK',?_,hnew,e2.below hB,fun k hk=>ins_lt _ _ hk,by omega,?_⟩
      ·simp [scT,scA,scS,scP,ins_same,Loc.isAt]
      ·rw [run_append_in hds hdx hd hi w (some ⟨b,off+o,none⟩) n (c+ex) m (tr ι x) (src.map (trS ι)) (by rw [hi1];exact hsrc) hin]
       simp only [hi1,Addr.add_lit,Nat.add_assoc] at e1 ⊢
       rw [e1]
       simp only [Result.andThen_ok,tr,trA,trS,trP,ins_same,Nat.add_zero]
       congr 2
       omega
     ·refine vappend_new (si:=ei) (olds:=(cs.drop o).take (n*ei.size)) hds hdx hd hT he hby hlen hsc (H.rem k) hsrc hol hoc ?_ (by omega) (by omega) hK'
      simp only [Builtin.firstCells]
      exact (H.drawn _).win hk hι (by omega)
  ·exact hG.elim
 ·exact hG.elim
end
end Go.Aw
end
