/-
  Parts of a proof. No condition.
-/
import Derived.Test.YtoekkmbbbllogaaGreatQAa
set_option linter.unusedSimpArgs false
set_option linter.unusedVariables false
noncomputable section
namespace Go.Aw
open Go.RowKit
def kNum:IntKind→Nat
 |.i8=>0|.i16=>1|.i32=>2|.i64=>3|.u8=>4|.u16=>5|.u32=>6|.u64=>7
def kEq (a b:IntKind):Bool:=Nat.beq (kNum a) (kNum b)
theorem kEq_true {a b:IntKind}(h:kEq a b=true):a=b:=by
 have:=Nat.eq_of_beq_eq_true h
 cases a <;> cases b <;> first|rfl|(simp [kNum] at this)
theorem map_getElem?_some {l:List Value}{f:Value→Value}{j:Nat}{v:Value}(hj:(l.map f)[j]? = some v):∃ u,l[j]? = some u∧v=f u:=by
 rw [List.getElem?_map] at hj
 cases hl:l[j]? with
 |none=>rw [hl] at hj;cases hj
 |some u=>rw [hl] at hj;injection hj with hj;exact⟨u,rfl,hj.symm⟩
def Looks (P:Program)(ι:Nat→Loc)(B nx:Nat)(h:Heap)(m:Sem Value)(v:Value):Prop :=
 scA ι nx v∧∀ w,RelH ι B h nx w→m.run P w=.ok (tr ι v) w
section
variable {P:Program}{T:Tab}{ι:Nat→Loc}{B nx:Nat}{h:Heap}
theorem RelH.cell {w:World}(H:RelH ι B h nx w){k:Nat}{wr g:Bool}{sz:Nat}{cs:List Value}(hk:look h k=some (.cells wr g sz cs)){i:Nat}{v:Value}(hv:cs[i]? = some v) :
  ∃ b o e,ι k=.lay b o e∧w.cell? ⟨b,o+i,none⟩=some (trS ι v):=by
 have ho:=H.obj k _ hk
 cases hl:ι k with
 |nil =>
  rw [hl] at ho
  have:cs=[]:=(show cs=[]∧_ from ho).1
  subst this
  simp at hv
 |lay b o e =>
  rw [hl] at ho
  refine⟨b,o,e,rfl,?_⟩
  cases wr with
  |true =>
   obtain⟨_,_,arr,t,h1,_,h2⟩:=ho
   simp [World.cell?,h1,h2 i v hv]
  |false=>exact ho.2.2 i v hv
theorem RelH.scell {w:World}(H:RelH ι B h nx w){k:Nat}{wr g:Bool}{sz:Nat}{cs:List Value}(hk:look h k=some (.cells wr g sz cs)){v:Value}(hv:v∈cs):scS ι nx v:=H.sc k _ hk v hv
theorem RelH.cells {w:World}(H:RelH ι B h nx w){k:Nat}{wr g:Bool}{sz:Nat}{cs:List Value}(hk:look h k=some (.cells wr g sz cs)){o n:Nat}{l:List Value}(hn:getN cs o n=some l)(h0:0<n) :
  ∃ b off e,ι k=.lay b off e∧(∀ v∈l,scS ι nx v)∧(loadCells ⟨b,off+o,none⟩ n).run P w=.ok (l.map (trS ι)).toArray w:=by
 obtain⟨hlen,hat⟩:=getN_spec hn
 obtain⟨_,v0,hv0⟩:=hat 0 h0
 obtain⟨b,off,e,hι,_⟩:=H.cell hk hv0
 refine⟨b,off,e,hι,fun v hv=>?_,?_⟩
 ·obtain⟨j,hj⟩:=List.getElem?_of_mem hv
  have hjl:j<n:=by
   have:=(List.getElem?_eq_some_iff.1 hj).1;omega
  rw [(hat j hjl).1] at hj
  exact H.scell hk (List.mem_of_getElem? hj)
 ·have hcells:=run_loadCells_list (P:=P) w ⟨b,off+o,none⟩ (l.map (trS ι)) (fun j v hj=>by
   obtain⟨u,hu,rfl⟩:=map_getElem?_some hj
   have hjl:j<n:=by
    have:=(List.getElem?_eq_some_iff.1 hu).1;omega
   rw [(hat j hjl).1] at hu
   obtain⟨b',off',e',hι',hc⟩:=H.cell hk hu
   rw [hι] at hι'
   injection hι' with e1 e2 e3
   subst e1;subst e2
   rw [Addr.add_lit,Nat.add_assoc]
   exact hc)
  rwa [List.length_map,hlen] at hcells
theorem tr_pointer {k o:Nat}:tr ι (.pointer (some ⟨k,o,none⟩))=.pointer (match ι k with|.nil p=>p|.lay b off _=>some ⟨b,off+o,none⟩):=rfl
theorem tr_int (k:IntKind)(n:Int):tr ι (.int k n)=.int k n:=rfl
theorem tr_bool (b:Bool):tr ι (.bool b)=.bool b:=rfl
theorem tr_string (b:ByteArray):tr ι (.string b)=.string b:=rfl
theorem tr_agg (cs:Array Value):tr ι (.agg cs)=.agg (cs.map (trS ι)):=rfl
theorem tr_slice_none (n c:Nat):tr ι (.slice none n c)=.slice none n c:=rfl
def vload (T:Tab)(h:Heap)(t:TypeId)(x:Value)(K:Value→Prop):Prop :=
 match x with
 |.pointer (some ⟨k,o,none⟩) =>
  match look T t,look h k with
  |some ti,some (.cells _ _ _ cs) =>
   match ti.isAgg with
   |true=>(match getN cs o ti.size with|some l=>K (.agg l.toArray)|none=>False)
   |false=>(match nth cs o with|some v=>K v|none=>False)
  |_,_=>False
 |_=>False
theorem vload_ok (hT:TabOK P T){t:TypeId}{x:Value}{K:Value→Prop}(hl:vload T h t x K){w0:World}(H0:RelH ι B h nx w0) :
  ∃ v,K v∧Looks P ι B nx h (Instr.loadAt t (tr ι x)) v:=by
 unfold vload at hl
 split at hl
 case h_2=>exact hl.elim
 rename_i k o
 split at hl
 case h_2=>exact hl.elim
 rename_i ti wr g sz cs ht hk
 have hti:=hT t ti ht
 split at hl
 ·rename_i hagg
  split at hl
  case h_2=>exact hl.elim
  rename_i l hn
  obtain⟨_,_,_,_,hsc,_⟩:=H0.cells (P:=P) hk hn hti.pos
  refine⟨_,hl,fun v hv=>hsc v (by simpa using hv),fun w H=>?_⟩
  obtain⟨b,off,e,hι,_,hrun⟩:=H.cells (P:=P) hk hn hti.pos
  simp only [tr_pointer,hι,Instr.loadAt,Instr.sureAddr,loadVar,Sem.run_bind,Sem.run_pure,Result.andThen_ok,hti.isAgg,hagg,if_true,hti.sizeOf,hrun,tr_agg]
  simp
 ·rename_i hagg
  split at hl
  case h_2=>exact hl.elim
  rename_i v hn
  rw [nth_eq] at hn
  have hs:=H0.scell hk (List.mem_of_getElem? hn)
  refine⟨v,hl,scA_of_S hs,fun w H=>?_⟩
  obtain⟨b,off,e,hι,hc⟩:=H.cell hk hn
  simp only [tr_of_S hs]
  simp only [tr_pointer,hι,Instr.loadAt,Instr.sureAddr,loadVar,Sem.run_bind,Sem.run_pure,Result.andThen_ok,hti.isAgg,hagg,Bool.false_eq_true,if_false]
  simp [hc]
def vfieldAddr (T:Tab)(st:TypeId)(x:Value)(f:Nat)(K:Value→Prop):Prop :=
 match x,look T st with
 |.pointer (some ⟨k,o,none⟩),some { kind:=.st fs,.. } =>
  match fs[f]? with
  |some (off,ft)=>(match look T ft with|some _=>K (.pointer (some ⟨k,o+off,none⟩))|none=>False)
  |none=>False
 |_,_=>False
theorem fields_at {f:Array Field}{fs:List (Nat × TypeId)}(hf:f.toList.map (fun f=>(f.offset,f.type))=fs){i off:Nat}{ft:TypeId}(h:fs[i]? = some (off,ft)) :
  ∃ x,f[i]? = some x∧x.offset=off∧x.type=ft:=by
 subst hf
 rw [List.getElem?_map] at h
 cases hx:f[i]? with
 |none=>simp [hx] at h
 |some x =>
  simp [hx] at h
  exact⟨x,rfl,h.1,h.2⟩
theorem vfieldAddr_ok (hT:TabOK P T){t:TypeId}{x:Value}{i:Nat}{K:Value→Prop}(hl:vfieldAddr T t x i K)(hx:scA ι nx x) :
  ∃ v,K v∧Looks P ι B nx h (Instr.fieldAt t (tr ι x) i) v:=by
 unfold vfieldAddr at hl
 split at hl
 case h_2=>exact hl.elim
 rename_i k o fs si by_ zv ht
 split at hl
 case h_2=>exact hl.elim
 rename_i off ft hf
 split at hl
 case h_2=>exact hl.elim
 rename_i fi hft
 have hti:=hT t _ ht
 obtain⟨f,hd,hfs,_⟩:=hti.st rfl
 obtain⟨y,hy,ho,hyt⟩:=fields_at hfs hf
 have hft':=hT ft _ hft
 have hx':k<nx∧(ι k).isAt=true:=hx
 refine⟨_,hl,hx',fun w H=>?_⟩
 cases hι:ι k with
 |nil p=>rw [hι] at hx';cases hx'.2
 |lay b off' e =>
  have hp:=hft'.pos
  simp only [tr_pointer,hι,Instr.fieldAt,Sem.run_bind,run_underlying hd,Result.andThen_ok,hy,Instr.sureAddr,Sem.run_pure,fieldPlace,hyt,hft'.sizeOf,Sem.run_ite,ho]
  rw [if_neg (by omega)]
  simp [Addr.add_lit,Nat.add_assoc]
def vindexAddr (A:Ar)(T:Tab)(t:TypeId)(x ix:Value)(K:Value→Prop):Prop :=
 match look T t,x,ix with
 |some { kind:=.sl e,.. },.slice (some ⟨k,o,none⟩) n _,.int _ i =>
  (match look T e with|some ei=>must (A.andB (A.le 0 i) (A.lt i (A.num n))) (K (.pointer (some ⟨k,A.ix o i ei.size,none⟩)))|none=>False)
 |some { kind:=.ar n e,.. },.pointer (some ⟨k,o,none⟩),.int _ i =>
  (match look T e with|some ei=>must (A.andB (A.le 0 i) (A.lt i (A.num n))) (K (.pointer (some ⟨k,A.ix o i ei.size,none⟩)))|none=>False)
 |_,_,_=>False
theorem vindexAddr_ok (hT:TabOK P T){t:TypeId}{x ix:Value}{K:Value→Prop}(hl:vindexAddr std T t x ix K)(hx:scA ι nx x) :
  ∃ v,K v∧Looks P ι B nx h (Instr.indexAt t (tr ι x) (tr ι ix)) v:=by
 unfold vindexAddr at hl
 split at hl
 case h_3=>exact hl.elim
 ·rename_i e s1 b1 z1 k o n c kk i ht
  split at hl
  case h_2=>exact hl.elim
  rename_i ei he
  obtain⟨hb,hK⟩:=must_iff.1 hl
  simp only [std,Bool.and_eq_true,decide_eq_true_eq] at hb
  have hti:=hT t _ ht
  have hei:=hT e _ he
  have hx':k<nx∧((ι k).isAt=false→n=0∧c=0):=hx
  have hnil:(ι k).isAt=true:=by
   cases e:(ι k).isAt with
   |true=>rfl
   |false=>have:=(hx'.2 e).1;omega
  refine⟨_,hK,⟨hx'.1,hnil⟩,fun w H=>?_⟩
  cases hι:ι k with
  |nil p=>rw [hι] at hnil;cases hnil
  |lay b off' ex =>
   have hs:=hti.sl rfl
   simp only [tr_pointer,hι,Instr.indexAt,tr,trA,trS,trP,Sem.run_bind,asIntOf,Sem.run_pure,Result.andThen_ok,run_underlying hs,hb.1,hb.2,and_self,if_true,hei.sizeOf,Addr.add_lit,std,Nat.add_assoc]
 ·rename_i n e s1 b1 z1 k o kk i ht
  split at hl
  case h_2=>exact hl.elim
  rename_i ei he
  obtain⟨hb,hK⟩:=must_iff.1 hl
  simp only [std,Bool.and_eq_true,decide_eq_true_eq] at hb
  have hti:=hT t _ ht
  have hei:=hT e _ he
  have hx':k<nx∧(ι k).isAt=true:=hx
  refine⟨_,hK,hx',fun w H=>?_⟩
  cases hι:ι k with
  |nil p=>rw [hι] at hx';cases hx'.2
  |lay b off' ex =>
   have hs:=hti.ar rfl
   simp only [tr_pointer,hι,Instr.indexAt,tr,trA,trS,trP,Sem.run_bind,asIntOf,Instr.sureAddr,Sem.run_pure,Result.andThen_ok,run_underlying hs,hb.1,hb.2,and_self,if_true,hei.sizeOf,Addr.add_lit,std,Nat.add_assoc]
end
end Go.Aw
end

noncomputable section
namespace Go.Aw
open Go.RowKit
section
variable {P:Program}{T:Tab}{ι:Nat→Loc}{B nx:Nat}{h:Heap}
def vpart (T:Tab)(t:TypeId)(cs:List Value)(o:Nat)(K:Value→Prop):Prop :=
 match look T t with
 |some ti=>(match ti.isAgg with
  |true=>(match getN cs o ti.size with|some l=>K (.agg l.toArray)|none=>False)
  |false=>(match nth cs o with|some v=>K v|none=>False))
 |none=>False
theorem getN_take {cs:List Value}:∀ {n o:Nat} {l:List Value},getN cs o n=some l→l=(cs.drop o).take n:=by
 intro n o l h
 obtain⟨h1,h2⟩:=getN_spec h
 apply List.ext_getElem?
 intro j
 by_cases hj:j<n
 ·rw [(h2 j hj).1,List.getElem?_take_of_lt hj,List.getElem?_drop]
 ·rw [List.getElem?_eq_none (by omega),List.getElem?_eq_none (by rw [List.length_take];omega)]
theorem vpart_ok (hT:TabOK P T){t:TypeId}{cs:List Value}{o:Nat}{K:Value→Prop}(hl:vpart T t cs o K)(hx:∀ v∈cs,scS ι nx v) :
  ∃ v,K v∧Looks P ι B nx h (part t (cs.map (trS ι)).toArray o) v:=by
 unfold vpart at hl
 split at hl
 case h_2=>exact hl.elim
 rename_i ti ht
 have hti:=hT t _ ht
 split at hl
 ·rename_i hagg
  split at hl
  case h_2=>exact hl.elim
  rename_i l hn
  have hl':=getN_take hn
  refine⟨_,hl,fun v hv=>?_,fun w H=>?_⟩
  ·have:v∈l:=by simpa using hv
   rw [hl'] at this
   exact hx v (List.mem_of_mem_drop (List.mem_of_mem_take this))
  ·simp only [part,Sem.run_bind,hti.isAgg,Result.andThen_ok,hagg,if_true,hti.sizeOf,Sem.run_pure,tr_agg]
   congr 2
   apply Array.ext'
   subst hl'
   simp [List.map_drop,List.map_take]
 ·rename_i hagg
  split at hl
  case h_2=>exact hl.elim
  rename_i v hn
  rw [nth_eq] at hn
  have hs:=hx v (List.mem_of_getElem? hn)
  refine⟨v,hl,scA_of_S hs,fun w H=>?_⟩
  simp only [part,Sem.run_bind,hti.isAgg,Result.andThen_ok,hagg,Bool.false_eq_true,if_false,tr_of_S hs]
  simp [hn]
def vfield (T:Tab)(st:TypeId)(x:Value)(f:Nat)(K:Value→Prop):Prop :=
 match x,look T st with
 |.agg cs,some { kind:=.st fs,.. }=>(match fs[f]? with|some (off,ft)=>vpart T ft cs.toList off K|none=>False)
 |_,_=>False
theorem vfield_ok (hT:TabOK P T){t:TypeId}{x:Value}{i:Nat}{K:Value→Prop}(hl:vfield T t x i K)(hx:scA ι nx x) :
  ∃ v,K v∧Looks P ι B nx h (Instr.field t (tr ι x) i) v:=by
 unfold vfield at hl
 split at hl
 case h_2=>exact hl.elim
 rename_i cs fs si by_ zv ht
 split at hl
 case h_2=>exact hl.elim
 rename_i off ft hf
 have hti:=hT t _ ht
 obtain⟨f,hd,hfs,_⟩:=hti.st rfl
 obtain⟨y,hy,ho,hyt⟩:=fields_at hfs hf
 obtain⟨v,hv,hsc,hrun⟩:=vpart_ok (B:=B) (h:=h) hT hl hx
 refine⟨v,hv,hsc,fun w H=>?_⟩
 have:=hrun w H
 simp only [tr_agg,Instr.field,Sem.run_bind,run_underlying hd,Result.andThen_ok,hy,asAgg,Sem.run_pure,hyt,ho]
 rw [← this]
 congr 2
 apply Array.ext'
 simp
def vindex (A:Ar)(T:Tab)(t:TypeId)(x ix:Value)(K:Value→Prop):Prop :=
 match look T t,x,ix with
 |some { kind:=.ar n e,.. },.agg cs,.int _ i =>
  (match look T e with|some ei=>must (A.andB (A.le 0 i) (A.lt i (A.num n))) (vpart T e cs.toList (A.ix 0 i ei.size) K)|none=>False)
 |some { kind:=.str,.. },.string b,.int _ i=>(match (if 0≤i then b[i.toNat]? else none) with|some u=>K (.int .u8 (A.num u.toNat))|none=>False)
 |_,_,_=>False
theorem vindex_ok (hT:TabOK P T){t:TypeId}{x ix:Value}{K:Value→Prop}(hl:vindex std T t x ix K)(hx:scA ι nx x) :
  ∃ v,K v∧Looks P ι B nx h (Instr.index t (tr ι x) (tr ι ix)) v:=by
 unfold vindex at hl
 split at hl
 case h_3=>exact hl.elim
 case h_2 =>
  rename_i s1 b1 z1 b kk i ht
  split at hl
  case h_2=>exact hl.elim
  rename_i u hu
  refine⟨_,hl,trivial,fun w H=>?_⟩
  simp only [tr_string,tr_int,Instr.index,Sem.run_bind,asIntOf,Sem.run_pure,Result.andThen_ok,run_underlying ((hT t _ ht).str rfl),hu,std]
 rename_i n e s1 b1 z1 cs kk i ht
 split at hl
 case h_2=>exact hl.elim
 rename_i ei he
 obtain⟨hb,hK⟩:=must_iff.1 hl
 simp only [std,Bool.and_eq_true,decide_eq_true_eq] at hb
 have hti:=hT t _ ht
 have hei:=hT e _ he
 obtain⟨v,hv,hsc,hrun⟩:=vpart_ok (B:=B) (h:=h) hT hK hx
 refine⟨v,hv,hsc,fun w H=>?_⟩
 have:=hrun w H
 simp only [tr_agg,tr_int,Instr.index,Sem.run_bind,asIntOf,Sem.run_pure,Result.andThen_ok,run_underlying (hti.ar rfl),hb.1,hb.2,and_self,if_true,hei.sizeOf]
 rw [← this]
 congr 2
 ·apply Array.ext'
  simp
 ·simp [std]
theorem int_beq (a b:Int):(a == b)=decide (a=b):=by
 by_cases e:a=b <;> simp [e]
def bndK:IntKind→Int
 |.i64=>1073741824
 |.u8=>128
 |_=>0
def vint (A:Ar)(op:BinOp)(k:IntKind)(a b:Int)(K:Value→Prop):Prop :=
 match op with
 |.add=>must (A.fits k (A.add a b)) (K (.int k (A.add a b)))
 |.sub=>must (A.fits k (A.sub a b)) (K (.int k (A.sub a b)))
 |.mul=>must (A.fits k (A.mul a b)) (K (.int k (A.mul a b)))
 |.quo=>must (A.andB (A.notB (A.eq b 0)) (A.fits k (A.quo a b))) (K (.int k (A.quo a b)))
 |.rem=>must (A.notB (A.eq b 0)) (K (.int k (A.rem a b)))
 |.eql=>K (.bool (A.eq a b))
 |.neq=>K (.bool (A.notB (A.eq a b)))
 |.lss=>K (.bool (A.lt a b))
 |.leq=>K (.bool (A.le a b))
 |.gtr=>K (.bool (A.lt b a))
 |.geq=>K (.bool (A.le b a))
 |.xor=>must (A.andB (A.andB (A.le 0 a) (A.le 0 b)) (A.andB (A.lt a (bndK k)) (A.lt b (bndK k)))) (K (.int k (A.num (A.bit .xor (A.toN a) (A.toN b)))))
 |.or=>must (A.andB (A.andB (A.le 0 a) (A.le 0 b)) (A.andB (A.lt a (bndK k)) (A.lt b (bndK k)))) (K (.int k (A.num (A.bit .or (A.toN a) (A.toN b)))))
 |.and=>must (A.andB (A.andB (A.le 0 a) (A.le 0 b)) (A.andB (A.lt a (bndK k)) (A.lt b (bndK k)))) (K (.int k (A.num (A.bit .and (A.toN a) (A.toN b)))))
 |_=>False
theorem bits_ofInt {n:Nat}{a:Int}(h0:0≤a)(h1:a<(2:Int) ^ n):(BitVec.ofInt n a).toNat=a.toNat:=by
 rw [BitVec.toNat_ofInt]
 congr 1
 refine Int.emod_eq_of_lt h0 ?_
 simpa using h1
theorem bits_run {op:BinOp}(hop:op=.xor∨op=.or∨op=.and){k:IntKind}{a b:Int}(h:((decide (0≤a)&&decide (0≤b))&&(decide (a<bndK k)&&decide (b<bndK k)))=true)(w:World) :
  (Op.intBits op k a b).run P w=.ok (.int k (std.num (std.bit op (std.toN a) (std.toN b)))) w:=by
 simp only [Bool.and_eq_true,decide_eq_true_eq] at h
 obtain⟨⟨a0,b0⟩,a1,b1⟩:=h
 have hk:∃ m,bndK k=(2:Int) ^ m∧m<k.bits∧∀ x:Nat,x<2 ^ m→fitsK k x=true:=by
  cases k with
  |i64=>exact⟨30,rfl,by decide,fun x hx=>by simp only [fitsK,Bool.and_eq_true,decide_eq_true_eq];omega⟩
  |u8=>exact⟨7,rfl,by decide,fun x hx=>by simp only [fitsK,Bool.and_eq_true,decide_eq_true_eq];omega⟩
  |_=>exact absurd (show a<0 from a1) (by omega)
 obtain⟨m,hm,hlt,hf⟩:=hk
 rw [hm] at a1 b1
 have hp:(2:Int) ^ m≤(2:Int) ^ k.bits:=by
  have:=Nat.pow_le_pow_right (show 0<2 by decide) (Nat.le_of_lt hlt)
  exact_mod_cast this
 have ea:=bits_ofInt (n:=k.bits) a0 (by omega)
 have eb:=bits_ofInt (n:=k.bits) b0 (by omega)
 have la:a.toNat<2 ^ m:=by
  have:((a.toNat:Nat):Int)<((2 ^ m:Nat):Int):=by rw [Int.toNat_of_nonneg a0];exact_mod_cast a1
  exact_mod_cast this
 have lb:b.toNat<2 ^ m:=by
  have:((b.toNat:Nat):Int)<((2 ^ m:Nat):Int):=by rw [Int.toNat_of_nonneg b0];exact_mod_cast b1
  exact_mod_cast this
 rcases hop with rfl|rfl|rfl
 ·simp only [Op.intBits,std,BitVec.toNat_xor,ea,eb,wrap_fits (hf _ (Nat.xor_lt_two_pow la lb))]
  simp
 ·simp only [Op.intBits,std,BitVec.toNat_or,ea,eb,wrap_fits (hf _ (Nat.or_lt_two_pow la lb))]
  simp
 ·simp only [Op.intBits,std,BitVec.toNat_and,ea,eb,wrap_fits (hf _ (Nat.and_lt_two_pow _ lb))]
  simp
theorem vint_ok {op:BinOp}{t:TypeId}{k:IntKind}{a b:Int}{K:Value→Prop}(hl:vint std op k a b K) :
  ∃ v,K v∧gS v=true∧∀ w,(binOp op t (.int k a) (.int k b)).run P w=.ok v w:=by
 cases op <;> simp only [vint,std] at hl
 case add=>obtain⟨h1,h2⟩:=must_iff.1 hl;exact⟨_,h2,rfl,fun w=>by simp [Go.binOp_add,Op.intArith,wrap_fits h1]⟩
 case sub=>obtain⟨h1,h2⟩:=must_iff.1 hl;exact⟨_,h2,rfl,fun w=>by simp [Go.binOp_sub,Op.intArith,wrap_fits h1]⟩
 case mul=>obtain⟨h1,h2⟩:=must_iff.1 hl;exact⟨_,h2,rfl,fun w=>by simp [Go.binOp_mul,Op.intArith,wrap_fits h1]⟩
 case quo =>
  obtain⟨h1,h2⟩:=must_iff.1 hl
  simp only [Bool.and_eq_true,Bool.not_eq_true',decide_eq_false_iff_not] at h1
  exact⟨_,h2,rfl,fun w=>by simp [Go.binOp_quo,Op.intDiv,wrap_fits h1.2,h1.1]⟩
 case rem =>
  obtain⟨h1,h2⟩:=must_iff.1 hl
  simp only [Bool.not_eq_true',decide_eq_false_iff_not] at h1
  exact⟨_,h2,rfl,fun w=>by simp [Go.binOp_rem,Op.intDiv,h1]⟩
 case eql=>exact⟨_,hl,rfl,fun w=>by rw [Go.binOp_eql,int_beq];simp⟩
 case neq=>exact⟨_,hl,rfl,fun w=>by rw [Go.binOp_neq];simp [bne,int_beq]⟩
 case lss=>exact⟨_,hl,rfl,fun w=>by rw [Go.binOp_lss];simp⟩
 case leq=>exact⟨_,hl,rfl,fun w=>by rw [Go.binOp_leq];simp⟩
 case gtr=>exact⟨_,hl,rfl,fun w=>by rw [Go.binOp_gtr];simp⟩
 case geq=>exact⟨_,hl,rfl,fun w=>by rw [Go.binOp_geq];simp⟩
 case xor=>obtain⟨h1,h2⟩:=must_iff.1 hl;exact⟨_,h2,rfl,fun w=>by rw [Go.binOp_xor];exact bits_run (.inl rfl) h1 w⟩
 case or=>obtain⟨h1,h2⟩:=must_iff.1 hl;exact⟨_,h2,rfl,fun w=>by rw [Go.binOp_or];exact bits_run (.inr (.inl rfl)) h1 w⟩
 case and=>obtain⟨h1,h2⟩:=must_iff.1 hl;exact⟨_,h2,rfl,fun w=>by rw [Go.binOp_and];exact bits_run (.inr (.inr rfl)) h1 w⟩
def veq (A:Ar)(T:Tab):Nat→TypeId→Value→Value→Option Bool
 |0,_,_,_=>none
 |d+1,t,x,y =>
  match look T t with
  |none=>none
  |some ti =>
   match ti.kind,x,y with
   |.int _,.int k a,.int k' b=>(match kEq k k' with|true=>some (A.eq a b)|false=>none)
   |.bool,.bool a,.bool b=>some (A.eqB a b)
   |.st fs,.agg xs,.agg ys =>
    fs.foldr (fun f r =>
     match r with
     |none=>none
     |some r =>
      match look T f.2 with
      |none=>none
      |some fi =>
       match fi.isAgg with
       |true=>(match getN xs.toList f.1 fi.size,getN ys.toList f.1 fi.size with
        |some l,some m=>(match veq A T d f.2 (.agg l.toArray) (.agg m.toArray) with|some q=>some (A.andB q r)|none=>none)
        |_,_=>none)
       |false=>(match nth xs.toList f.1,nth ys.toList f.1 with
        |some u,some v=>(match veq A T d f.2 u v with|some q=>some (A.andB q r)|none=>none)
        |_,_=>none)) (some true)
   |_,_,_=>none
theorem run_part_agg (hT:TabOK P T){t:TypeId}{ti:TyI}(ht:look T t=some ti)(hagg:ti.isAgg=true){cs l:List Value}{o:Nat}(hn:getN cs o ti.size=some l)(w:World) :
  (part t cs.toArray o).run P w=.ok (.agg l.toArray) w:=by
 have hti:=hT t _ ht
 simp only [part,Sem.run_bind,hti.isAgg,Result.andThen_ok,hagg,if_true,hti.sizeOf,Sem.run_pure]
 congr 2
 apply Array.ext'
 rw [getN_take hn]
 simp
theorem run_part_one (hT:TabOK P T){t:TypeId}{ti:TyI}(ht:look T t=some ti)(hagg:ti.isAgg=false){cs:List Value}{v:Value}{o:Nat}(hn:nth cs o=some v)(w:World) :
  (part t cs.toArray o).run P w=.ok v w:=by
 have hti:=hT t _ ht
 rw [nth_eq] at hn
 simp only [part,Sem.run_bind,hti.isAgg,Result.andThen_ok,hagg,Bool.false_eq_true,if_false]
 simp [hn]
theorem veq_ok (hT:TabOK P T):∀ (d:Nat) (t:TypeId) (x y:Value) (r:Bool),veq std T d t x y=some r→∀ d',d≤d'→∀ w,(Op.equalIn d' t x y).run P w=.ok r w:=by
 intro d
 induction d with
 |zero=>intro t x y r h;simp [veq] at h
 |succ d ih =>
  intro t x y r h d' hd w
  obtain⟨d',rfl⟩:∃ e,d'=e+1:=⟨d' - 1,by omega⟩
  simp only [veq] at h
  split at h
  ·cases h
  rename_i ti ht
  have hti:=hT t _ ht
  split at h
  ·rename_i k k1 a k2 b hk
   split at h
   ·rename_i hkk
    have:=kEq_true hkk
    subst this
    injection h with h
    subst h
    rw [run_equalIn_int w d' t k1 k a b (hti.int hk),int_beq]
    simp [std]
   ·cases h
  ·rename_i a b hk
   injection h with h
   subst h
   rw [run_equalIn_bool w d' t a b (hti.bool hk)]
   simp [std]
  ·rename_i fs xs ys hk
   obtain⟨f,hd',hfs,hn⟩:=hti.st hk
   have hfo:P.fieldsOf t=f:=by simp [Program.fieldsOf,hd']
   rw [run_equalIn_struct w d' t xs ys (by rw [hfo];exact hd') hti.held,hfo]
   subst hfs
   clear hd' hfo hk
   generalize f.toList=fl at h hn
   induction fl generalizing r with
   |nil=>simp at h;subst h;simp [Op.eqFields]
   |cons x fl ihf =>
    simp only [List.map_cons,List.foldr_cons] at h
    split at h
    ·cases h
    rename_i rr hr
    have ihf:=ihf rr hr (fun y hy=>hn y (by simp [hy]))
    split at h
    ·cases h
    rename_i fi hfi
    have hname : x.name ≠ "_" := hn x (by simp)
    simp only [Op.eqFields,hname,ne_eq,not_false_eq_true,if_true,Sem.run_bind]
    split at h
    ·rename_i hagg
     split at h
     case h_2=>cases h
     rename_i l m hl hm
     split at h
     case h_2=>cases h
     rename_i q hq
     injection h with h
     subst h
     have e1:=run_part_agg hT hfi hagg hl w
     have e2:=run_part_agg hT hfi hagg hm w
     simp only [Array.toArray_toList] at e1 e2
     rw [e1,Result.andThen_ok,e2,Result.andThen_ok,ih _ _ _ _ hq d' (by omega) w,Result.andThen_ok]
     cases q
     ·simp [std]
     ·simp [ihf,std]
    ·rename_i hagg
     split at h
     case h_2=>cases h
     rename_i u v hu hv
     split at h
     case h_2=>cases h
     rename_i q hq
     injection h with h
     subst h
     have e1:=run_part_one hT hfi hagg hu w
     have e2:=run_part_one hT hfi hagg hv w
     simp only [Array.toArray_toList] at e1 e2
     rw [e1,Result.andThen_ok,e2,Result.andThen_ok,ih _ _ _ _ hq d' (by omega) w,Result.andThen_ok]
     cases q
     ·simp [std]
     ·simp [ihf,std]
  ·cases h
end
end Go.Aw
end
