/-
  Parts of a proof. No condition.
-/
import Derived.Test.YtoekkmbbbllogaaGreatQAb
set_option linter.unusedSimpArgs false
set_option linter.unusedVariables false
noncomputable section
namespace Go.Aw
open Go.RowKit
def on (x:Option Value)(K:Value→Prop):Prop:=match x with|some v=>K v|none=>False
def isShr:BinOp→Bool
 |.shr=>true
 |_=>false
def vbin (A:Ar)(T:Tab)(op:BinOp)(xt:TypeId)(x y:Value)(K:Value→Prop):Prop :=
 match x,y with
 |.int k a,.int k' b=>(match isShr op with
  |true=>must (A.andB (A.le 0 a) (A.eq b 1)) (K (.int k (A.quo a 2)))
  |false=>(match kEq k k' with|true=>vint A op k a b K|false=>False))
 |.bool a,.bool b=>(match op,look T xt with
  |.eql,some { kind:=.bool,.. }=>K (.bool (A.eqB a b))
  |.neq,some { kind:=.bool,.. }=>K (.bool (A.notB (A.eqB a b)))
  |_,_=>False)
 |.agg xs,.agg ys=>(match look T xt with
  |some _=>(match allG xs.toList,allG ys.toList with
   |true,true=>(match veq A T 100 xt (.agg xs) (.agg ys) with
    |some r=>(match op with
     |.eql=>K (.bool r)
     |.neq=>K (.bool (A.notB r))
     |_=>False)
    |none=>False)
   |_,_=>False)
  |none=>False)
 |_,_=>False
def nilB (h:Heap):Value→Option Bool
 |.slice none _ _=>some true
 |.slice (some a) _ _=>(match look h a.block with|some (.cells _ _ _ (_::_))=>some false|some (.cells _ _ 0 [])=>some false|some (.cells true _ _ [])=>some false|_=>none)
 |_=>none
def vnil (T:Tab)(h:Heap)(op:BinOp)(t:TypeId)(x:Value)(K:Value→Prop):Prop :=
 match look T t,nilB h x,op with
 |some { kind:=.sl _,.. },some b,.eql=>K (.bool b)
 |some { kind:=.sl _,.. },some b,.neq=>K (.bool (!b))
 |_,_,_=>False
def vun (A:Ar)(op:UnOp)(x:Value)(K:Value→Prop):Prop :=
 match op,x with
 |.neg,.int k a=>must (A.fits k (A.neg a)) (K (.int k (A.neg a)))
 |.not,.bool b=>K (.bool (A.notB b))
 |_,_=>False
def capOK (env:List (Nat × Value)):List Operand→Option (List Value)
 |[]=>some []
 |x::r=>match opv env x with
  |some (.pointer (some a))=>(match capOK env r with|some l=>some (.pointer (some a)::l)|none=>none)
  |_=>none
def partsOK (env:List (Nat × Value)):List (Nat × Operand)→Option (List (Nat × Value))
 |[]=>some []
 |(i,x)::r=>match opv env x with
  |some v=>(match partsOK env r with|some l=>some ((i,v)::l)|none=>none)
  |none=>none
def places (T:Tab)(i:TyI):Nat→Option (Nat × Nat) :=
 match i.kind with
 |.st fs=>fun j=>match fs[j]? with
  |some (off,ft)=>(match look T ft with|some fi=>some (off,fi.size)|none=>none)
  |none=>none
 |.ar _ e=>fun j=>match look T e with|some ei=>some (j*ei.size,ei.size)|none=>none
 |_=>fun _=>none
def vcells:Value→List Value
 |.agg cs=>cs.toList
 |v=>[v]
theorem vcells_eq (v:Value):v.cells.toList=vcells v:=by cases v <;> rfl
def setN (cs:List Value)(o:Nat)(vs:List Value):List Value:=cs.take o++vs++cs.drop (o+vs.length)
def fillL (pl:Nat→Option (Nat × Nat)):List (Nat × Value)→List Value→Option (List Value)
 |[],cells=>some cells
 |(i,v)::r,cells=>match pl i with
  |none=>none
  |some os=>match Nat.beq (vcells v).length os.2,Nat.ble (os.1+(vcells v).length) cells.length with
   |true,true=>fillL pl r (setN cells os.1 (vcells v))
   |_,_=>none
theorem setN_step (L:List Value)(p:Nat)(v:Value)(r:List Value)(hp:p<L.length):setN (L.set p v) (p+1) r=setN L p (v::r):=by
 unfold setN
 apply List.ext_getElem?
 intro j
 have hl:(L.take p).length=p:=by rw [List.length_take];omega
 have hl2:((L.set p v).take (p+1)).length=p+1:=by rw [List.length_take,List.length_set];omega
 by_cases h1:j<p
 ·rw [List.getElem?_append_left (by rw [List.length_append,hl2];omega),List.getElem?_append_left (by rw [hl2];omega),List.getElem?_append_left (by rw [List.length_append,hl];omega),List.getElem?_append_left (by rw [hl];omega),
   List.getElem?_take_of_lt (by omega),List.getElem?_take_of_lt h1,List.getElem?_set_ne (by omega)]
 ·by_cases h2:j=p
  ·subst h2
   rw [List.getElem?_append_left (by rw [List.length_append,hl2];omega),List.getElem?_append_left (by rw [hl2];omega),List.getElem?_append_left (by rw [List.length_append,hl,List.length_cons];omega),List.getElem?_append_right (by rw [hl];omega),
    List.getElem?_take_of_lt (by omega),List.getElem?_set_self hp,hl,Nat.sub_self,List.getElem?_cons_zero]
  ·by_cases h3:j<p+1+r.length
   ·rw [List.getElem?_append_left (by rw [List.length_append,hl2];omega),List.getElem?_append_right (by rw [hl2];omega),List.getElem?_append_left (by rw [List.length_append,hl,List.length_cons];omega),List.getElem?_append_right (by rw [hl];omega),hl,hl2,
     show j - p=(j - (p+1))+1 by omega,List.getElem?_cons_succ]
   ·rw [List.getElem?_append_right (by rw [List.length_append,hl2];omega),List.getElem?_append_right (by rw [List.length_append,hl,List.length_cons];omega),List.getElem?_drop,List.getElem?_drop,List.length_append,List.length_append,hl,hl2,List.length_cons,
     List.getElem?_set_ne (by omega)]
    congr 1
    omega
theorem foldl_set:∀ (vs:List Value) (k off:Nat) (c:Array Value),off+k+vs.length≤c.size →
  ((vs.zipIdx k).foldl (fun cs p=>cs.setIfInBounds (off+p.2) p.1) c).toList=setN c.toList (off+k) vs
 |[],k,off,c,_=>by simp [setN]
 |v::r,k,off,c,h=>by
  simp only [List.length_cons] at h
  rw [List.zipIdx_cons,List.foldl_cons,foldl_set r (k+1) off (c.setIfInBounds (off+k) v) (by simp;omega)]
  have hlt:off+k<c.toList.length:=by simpa using (by omega:off+k<c.size)
  rw [Array.toList_setIfInBounds]
  exact setN_step _ _ _ _ hlt
theorem fillL_ok (pl:Nat→Option (Nat × Nat)):∀ (ps:List (Nat × Value)) (c:Array Value) (l r:List Value),c.toList=l→fillL pl ps l=some r→Instr.fill pl c ps=some r.toArray
 |[],c,l,r,hc,h=>by
  simp only [fillL] at h
  injection h with h
  subst h;subst hc
  simp [Instr.fill]
 |(i,v)::ps,c,l,r,hc,h=>by
  simp only [fillL] at h
  simp only [Instr.fill]
  split at h
  ·cases h
  ·rename_i os hp
   obtain⟨off,size⟩:=os
   split at h
   case h_2=>cases h
   rename_i h1 h2
   simp only at h1 h2 h
   have h1:=beq_true h1
   have h2:=Nat.le_of_ble_eq_true h2
   subst hc
   have e1:v.cells.size=(vcells v).length:=by rw [← vcells_eq,Array.length_toList]
   rw [hp]
   simp only
   rw [if_neg (by rw [e1,h1];simp only [Array.length_toList] at h2;simp;omega)]
   refine fillL_ok pl ps _ _ r ?_ h
   have:=foldl_set v.cells.toList 0 off c (by rw [vcells_eq];simpa using h2)
   rw [vcells_eq,Nat.add_zero] at this
   rw [← this,← Array.foldl_toList,Array.toList_zipIdx,vcells_eq]
def fieldsKnown (T:Tab):List (Nat × TypeId)→Bool
 |[]=>true
 |(_,t)::r=>match look T t with|some _=>fieldsKnown T r|none=>false
def aggParts:List (Nat × Value)→Bool
 |[]=>true
 |(_,.tuple _)::_=>false
 |_::r=>aggParts r
def vbuild (T:Tab)(t:TypeId)(ps:List (Nat × Value))(K:Value→Prop):Prop :=
 match look T t with
 |some ti =>
  match (match ti.kind with|.st fs=>fieldsKnown T fs|.ar _ e=>(look T e).isSome|_=>false),aggParts ps with
  |true,true=>(match fillL (places T ti) ps ti.zv.cells.toList with
   |some cells=>K (.agg cells.toArray)
   |none=>False)
  |_,_=>False
 |none=>False
def vmm (f:Int→Int→Int):Value→List Value→Option Value
 |.int k a,[]=>some (.int k a)
 |.int k a,.int k' b::r=>(match kEq k k' with|true=>vmm f (.int k (f a b)) r|false=>none)
 |_,_=>none
def vargs (env:List (Nat × Value)):List Operand→Option (List Value)
 |[]=>some []
 |x::r=>match opv env x with
  |some v=>(match vargs env r with|some l=>some (v::l)|none=>none)
  |none=>none
def vbuiltin (A:Ar)(T:Tab)(b:Builtin)(ts:Array TypeId)(vs:List Value)(K:Value→Prop):Prop :=
 match b,ts.toList,vs with
 |.len,[t],[.slice _ n _]=>(match look T t with|some { kind:=.sl _,.. }=>K (.int .i64 (A.num n))|_=>False)
 |.cap,[t],[.slice none _ c]=>(match look T t with|some { kind:=.sl _,.. }=>K (.int .i64 (A.num c))|_=>False)
 |.max,_,v::r=>on (vmm A.max v r) K
 |.min,_,v::r=>on (vmm A.min v r) K
 |_,_,_=>False
def vlook (A:Ar)(T:Tab)(env:List (Nat × Value))(h:Heap)(op:Op)(K:Value→Prop):Prop :=
 match op with
 |.move x|.assign x=>on (opv env x) K
 |.pick c a b=>on (opv env c) fun u=>(match u with
  |.bool t=>br t (fun _=>on (opv env a) K) (fun _=>on (opv env b) K)
  |_=>False)
 |.nilCheck x=>on (opv env x) fun u=>(match u with
  |.pointer (some a)=>K (.pointer (some a))
  |.func (.func f) fi c=>K (.func (.func f) fi c)
  |.func (.yield f) fi c=>K (.func (.yield f) fi c)
  |_=>False)
 |.load t x=>on (opv env x) fun u=>vload T h t u K
 |.fieldAddr s x f=>on (opv env x) fun u=>vfieldAddr T s u f K
 |.field s x f=>on (opv env x) fun u=>vfield T s u f K
 |.indexAddr t x i=>on (opv env x) fun u=>on (opv env i) fun j=>vindexAddr A T t u j K
 |.index t x i=>on (opv env x) fun u=>on (opv env i) fun j=>vindex A T t u j K
 |.binOp op t x y _=>on (opv env x) fun u=>on (opv env y) fun v=>(match v with
  |.slice none _ _=>vnil T h op t u K
  |_=>vbin A T op t u v K)
 |.unOp op _ x=>on (opv env x) fun u=>vun A op u K
 |.convert s d x=>on (opv env x) fun u=>(match u,look T s,look T d with
  |.int _ n,some _,some { kind:=.int k,.. }=>must (A.fits k n) (K (.int k n))
  |_,_,_=>False)
 |.makeFunc fn first cap=>(match fn,first.toList with
  |.func f,[]=>(match capOK env cap.toList with|some l=>K (.func (.func f) #[] l.toArray)|none=>False)
  |_,_=>False)
 |.extract x i=>on (opv env x) fun u=>(match u with
  |.tuple vs=>on (vs.toList[i]?) K
  |_=>False)
 |.build t ps=>(match partsOK env ps.toList with|some l=>vbuild T t l K|none=>False)
 |.call c=>(match c.callee with
  |.builtin b=>(match vargs env c.args.toList with|some vs=>vbuiltin A T b c.argTypes vs K|none=>False)
  |_=>False)
 |_=>False
section
variable {P:Program}{T:Tab}{ι:Nat→Loc}{B nx:Nat}{h:Heap}
theorem on_ok {x:Option Value}{K:Value→Prop}(hl:on x K):∃ v,x=some v∧K v:=by
 cases x with
 |none=>exact hl.elim
 |some v=>exact⟨v,rfl,hl⟩
theorem nilB_ok {x:Value}{b:Bool}(hb:nilB h x=some b){t e:TypeId}(ht:P.underlying t=some (.slice e))(n c:Nat):∃ a m k,tr ι x=.slice a m k∧∀ w,RelH ι B h nx w→(Op.equal t (.slice a m k) (.slice none n c)).run P w=.ok b w:=by
 unfold nilB at hb
 split at hb
 ·injection hb with hb
  subst hb
  rename_i m k
  refine⟨none,m,k,tr_slice_none m k,fun w _=>?_⟩
  rw [Op.equal,show Op.maxDepth=9999+1 from rfl,Op.equalIn]
  simp [run_underlying ht]
 ·rename_i a m k
  split at hb
  case h_4=>cases hb
  case h_3 =>
   rename_i g sz hno hk
   injection hb with hb
   subst hb
   cases hι:ι a.block with
   |nil l =>
    refine⟨l,m,k,by simp [tr,trA,trS,trP,hι],fun w H0=>?_⟩
    have ho:=H0.obj a.block _ hk
    rw [hι] at ho
    have ho2:l.isSome=true:=(show ([]:List Value)=[]∧(sz=0∨true=true→l.isSome=true) from ho).2 (.inr rfl)
    obtain⟨q,rfl⟩:=Option.isSome_iff_exists.1 ho2
    rw [Op.equal,show Op.maxDepth=9999+1 from rfl,Op.equalIn]
    simp [run_underlying ht]
   |lay bb off ex =>
    refine⟨some ⟨bb,off+a.off,none⟩,m,k+ex,by simp [tr,trA,trS,trP,hι],fun w _=>?_⟩
    rw [Op.equal,show Op.maxDepth=9999+1 from rfl,Op.equalIn]
    simp [run_underlying ht]
  case h_1 =>
   rename_i wr g sz v r hk
   injection hb with hb
   subst hb
   cases hι:ι a.block with
   |nil l =>
    refine⟨l,m,k,by simp [tr,trA,trS,trP,hι],fun w H0=>?_⟩
    have ho:=H0.obj a.block _ hk
    rw [hι] at ho
    have ho1:=(show (v::r:List Value)=[]∧_ from ho).1
    cases ho1
   |lay bb off ex =>
    refine⟨some ⟨bb,off+a.off,none⟩,m,k+ex,by simp [tr,trA,trS,trP,hι],fun w _=>?_⟩
    rw [Op.equal,show Op.maxDepth=9999+1 from rfl,Op.equalIn]
    simp [run_underlying ht]
  case h_2 =>
   rename_i wr g hk
   injection hb with hb
   subst hb
   cases hι:ι a.block with
   |nil l =>
    refine⟨l,m,k,by simp [tr,trA,trS,trP,hι],fun w H0=>?_⟩
    have ho:=H0.obj a.block _ hk
    rw [hι] at ho
    have ho2:l.isSome=true:=(show ([]:List Value)=[]∧(0=0∨wr=true→l.isSome=true) from ho).2 (.inl rfl)
    obtain⟨q,rfl⟩:=Option.isSome_iff_exists.1 ho2
    rw [Op.equal,show Op.maxDepth=9999+1 from rfl,Op.equalIn]
    simp [run_underlying ht]
   |lay bb off ex =>
    refine⟨some ⟨bb,off+a.off,none⟩,m,k+ex,by simp [tr,trA,trS,trP,hι],fun w _=>?_⟩
    rw [Op.equal,show Op.maxDepth=9999+1 from rfl,Op.equalIn]
    simp [run_underlying ht]
 ·cases hb
theorem vnil_ok (hT:TabOK P T){op:BinOp}{t:TypeId}{x:Value}{n c:Nat}{p q:Operand}{K:Value→Prop}(hl:vnil T h op t x K) :
  ∃ v,K v∧gS v=true∧∀ w,RelH ι B h nx w→(do eqGuard op t p q (tr ι x) (.slice none n c);binOp op t (tr ι x) (.slice none n c):Sem Value).run P w=.ok v w:=by
 unfold vnil at hl
 split at hl
 ·rename_i e s1 b1 z1 b ht hb
  obtain⟨a,m,k,h1,h2⟩:=nilB_ok (ι:=ι) (B:=B) (nx:=nx) hb ((hT t _ ht).sl rfl) n c
  refine⟨_,hl,rfl,fun w H=>?_⟩
  rw [h1]
  have:=h2 w H
  simp [eqGuard,binOp,this]
 ·rename_i e s1 b1 z1 b ht hb
  obtain⟨a,m,k,h1,h2⟩:=nilB_ok (ι:=ι) (B:=B) (nx:=nx) hb ((hT t _ ht).sl rfl) n c
  refine⟨_,hl,rfl,fun w H=>?_⟩
  rw [h1]
  have:=h2 w H
  simp [eqGuard,binOp,this]
 ·exact hl.elim
theorem vbin_ok (hT:TabOK P T){op:BinOp}{t:TypeId}{x y:Value}{p q:Operand}{K:Value→Prop}(hl:vbin std T op t x y K) :
  ∃ v,K v∧gS v=true∧∀ w,(do eqGuard op t p q (tr ι x) (tr ι y);binOp op t (tr ι x) (tr ι y):Sem Value).run P w=.ok v w:=by
 unfold vbin at hl
 split at hl
 ·rename_i k a k' b
  split at hl
  ·rename_i hs
   have hop:op=.shr:=by cases op <;> first|rfl|cases hs
   subst hop
   obtain⟨h1,h2⟩:=must_iff.1 hl
   simp only [std,Bool.and_eq_true,decide_eq_true_eq] at h1 h2
   obtain⟨h0,rfl⟩:=h1
   refine⟨_,h2,rfl,fun w=>?_⟩
   have hb:min (1:Int).toNat k.bits=1:=by cases k <;> rfl
   simp only [tr_int,eqGuard_at_int,Sem.run_bind,Sem.run_pure,Result.andThen_ok,Go.binOp_shr,Op.shift,hb]
   rw [if_neg (by decide)]
   simp only [Sem.run_pure]
   congr 2
   rw [Int.fdiv_eq_tdiv_of_nonneg h0 (by decide)]
   rfl
  split at hl
  ·rename_i hk
   have:=kEq_true hk
   subst this
   obtain⟨v,h1,h2,h3⟩:=vint_ok (P:=P) (t:=t) hl
   exact⟨v,h1,h2,fun w=>by simp only [tr_int,eqGuard_at_int,Sem.run_bind,Sem.run_pure,Result.andThen_ok];exact h3 w⟩
  ·exact hl.elim
 ·rename_i a b
  split at hl
  ·rename_i s1 b1 z1 ht
   have hd:=(hT t _ ht).bool rfl
   exact⟨_,hl,rfl,fun w=>by simp only [tr_bool,eqGuard_at_bool,Sem.run_bind,Sem.run_pure,Result.andThen_ok,run_eql_bool w t a b hd];rfl⟩
  ·rename_i s1 b1 z1 ht
   have hd:=(hT t _ ht).bool rfl
   exact⟨_,hl,rfl,fun w=>by simp only [tr_bool,eqGuard_at_bool,Sem.run_bind,Sem.run_pure,Result.andThen_ok,run_neq_bool w t a b hd];rfl⟩
  ·exact hl.elim
 ·rename_i xs ys
  split at hl
  case h_2=>exact hl.elim
  rename_i ti ht
  have hti:=hT t _ ht
  split at hl
  case h_2=>exact hl.elim
  rename_i hgx hgy
  split at hl
  case h_2=>exact hl.elim
  rename_i r hr
  have hex:∀ w,(Op.equal t (.agg xs) (.agg ys)).run P w=.ok r w:=fun w=>veq_ok hT 100 t _ _ r hr 10000 (by omega) w
  have ex:tr ι (.agg xs)=.agg xs:=tr_g (by simpa [gT,gA] using hgx)
  have ey:tr ι (.agg ys)=.agg ys:=tr_g (by simpa [gT,gA] using hgy)
  have hg:∀ w,(eqGuard op t p q (.agg xs) (.agg ys)).run P w=.ok () w:=fun w=>by
   unfold eqGuard
   cases op <;> simp [hti.guard]
  split at hl
  ·exact⟨_,hl,rfl,fun w=>by rw [ex,ey];simp only [Sem.run_bind,hg,Result.andThen_ok];simp [binOp,hex]⟩
  ·exact⟨_,hl,rfl,fun w=>by rw [ex,ey];simp only [Sem.run_bind,hg,Result.andThen_ok];simp [binOp,hex,std]⟩
  ·exact hl.elim
 ·exact hl.elim
theorem vun_ok {op:UnOp}{x:Value}{K:Value→Prop}(hl:vun std op x K) :
  ∃ v,K v∧gS v=true∧∀ w,(Op.unary op (tr ι x)).run P w=.ok v w:=by
 unfold vun at hl
 split at hl
 ·rename_i k a
  obtain⟨h1,h2⟩:=must_iff.1 hl
  exact⟨_,h2,rfl,fun w=>by
   have h3:k.wrap (0 - a)=0 - a:=wrap_fits h1
   simp only [tr_int,Op.unary,Op.intArith,Sem.run_pure,h3];rfl⟩
 ·rename_i b
  exact⟨_,hl,rfl,fun w=>by simp only [tr_bool,Op.unary,Sem.run_pure];rfl⟩
 ·exact hl.elim
theorem capOK_spec {env:List (Nat × Value)}{a:Act}(he:EnvOK ι nx env a):∀ {l:List Operand} {vs:List Value},capOK env l=some vs →
  l.map a.eval=vs.map (trP ι)∧∀ v∈vs,scP ι nx v
 |[],vs,h=>by simp [capOK] at h;subst h;simp
 |x::r,vs,h=>by
  simp only [capOK] at h
  split at h
  case h_2=>cases h
  rename_i p hp
  split at h
  case h_2=>cases h
  rename_i l hl
  injection h with h
  subst h
  obtain⟨h1,h2⟩:=he.opv hp
  obtain⟨h3,h4⟩:=capOK_spec he hl
  refine⟨by simp only [List.map_cons,h1,h3];rfl,fun v hv=>?_⟩
  cases hv with
  |head=>exact h2
  |tail _ hv=>exact h4 v hv
theorem partsOK_spec {env:List (Nat × Value)}{a:Act}(he:EnvOK ι nx env a):∀ {l:List (Nat × Operand)} {vs:List (Nat × Value)},partsOK env l=some vs →
  l.map (fun p=>(p.1,a.eval p.2))=vs.map (fun p=>(p.1,tr ι p.2))∧∀ v∈vs,scT ι nx v.2
 |[],vs,h=>by simp [partsOK] at h;subst h;simp
 |(i,x)::r,vs,h=>by
  simp only [partsOK] at h
  split at h
  case h_2=>cases h
  rename_i p hp
  split at h
  case h_2=>cases h
  rename_i l hl
  injection h with h
  subst h
  obtain⟨h1,h2⟩:=he.opv hp
  obtain⟨h3,h4⟩:=partsOK_spec he hl
  refine⟨by simp only [List.map_cons,h1,h3],fun v hv=>?_⟩
  cases hv with
  |head=>exact h2
  |tail _ hv=>exact h4 v hv
theorem vargs_spec {env:List (Nat × Value)}{a:Act}(he:EnvOK ι nx env a):∀ {l:List Operand} {vs:List Value},vargs env l=some vs →
  l.map a.eval=vs.map (tr ι)∧∀ v∈vs,scT ι nx v
 |[],vs,h=>by simp [vargs] at h;subst h;simp
 |x::r,vs,h=>by
  simp only [vargs] at h
  split at h
  case h_2=>cases h
  rename_i p hp
  split at h
  case h_2=>cases h
  rename_i l hl
  injection h with h
  subst h
  obtain⟨h1,h2⟩:=he.opv hp
  obtain⟨h3,h4⟩:=vargs_spec he hl
  refine⟨by simp only [List.map_cons,h1,h3],fun v hv=>?_⟩
  cases hv with
  |head=>exact h2
  |tail _ hv=>exact h4 v hv
theorem fold_set_map (f:Value→Value)(l:List (Value × Nat))(off:Nat):∀ (c:Array Value),((l.map fun x=>(f x.1,x.2)).foldl (fun cs (x:Value × Nat)=>cs.setIfInBounds (off+x.2) x.1) (c.map f)) =
  (l.foldl (fun cs (x:Value × Nat)=>cs.setIfInBounds (off+x.2) x.1) c).map f:=by
 induction l with
 |nil=>intro c;rfl
 |cons x l ih =>
  intro c
  simp only [List.map_cons,List.foldl_cons]
  rw [← ih]
  congr 1
  apply Array.ext'
  simp [List.map_set]
theorem fill_map (pl:Nat→Option (Nat × Nat)):∀ (ps:List (Nat × Value)) (c r:Array Value),(∀ p∈ps,scA ι nx p.2)→Instr.fill pl c ps=some r →
  Instr.fill pl (c.map (trS ι)) (ps.map fun p=>(p.1,tr ι p.2))=some (r.map (trS ι))
 |[],c,r,_,h=>by simp [Instr.fill] at h;subst h;rfl
 |(i,v)::ps,c,r,hs,h=>by
  simp only [Instr.fill] at h
  simp only [List.map_cons,Instr.fill]
  cases hp:pl i with
  |none=>rw [hp] at h;cases h
  |some os =>
   obtain⟨off,size⟩:=os
   rw [hp] at h
   simp only at h ⊢
   have hv:=cells_tr (hs (i,v) (by simp))
   simp only at hv
   rw [hv]
   split at h
   ·cases h
   ·rename_i hc
    rw [if_neg (by simpa using hc)]
    have ih:=fill_map pl ps _ r (fun p hp=>hs p (by simp [hp])) h
    rw [← ih]
    congr 1
    rw [← Array.foldl_toList,← Array.foldl_toList]
    have:=fold_set_map (trS ι) v.cells.zipIdx.toList off c
    rw [← this]
    congr 1
    apply List.ext_getElem?
    intro j
    simp [List.getElem?_zipIdx]
    rfl
theorem aggParts_spec:∀ {ps:List (Nat × Value)},aggParts ps=true→(∀ p∈ps,scT ι nx p.2)→∀ p∈ps,scA ι nx p.2
 |[],_,_,p,hp=>by cases hp
 |(i,v)::r,h,hs,p,hp=>by
  cases hp with
  |head =>
   have:=hs (i,v) (by simp)
   cases v with
   |tuple c=>simp [aggParts] at h
   |_=>exact this
  |tail _ hp =>
   refine aggParts_spec (ps:=r) ?_ (fun q hq=>hs q (by simp [hq])) p hp
   cases v <;> first|exact h|(simp [aggParts] at h)
theorem fill_mem (pl:Nat→Option (Nat × Nat))(Pr:Value→Prop):∀ (ps:List (Nat × Value)) (c r:Array Value),(∀ v∈c.toList,Pr v)→(∀ p∈ps,∀ v∈p.2.cells.toList,Pr v)→Instr.fill pl c ps=some r→∀ v∈r.toList,Pr v
 |[],c,r,hc,_,h=>by simp [Instr.fill] at h;subst h;exact hc
 |(i,u)::ps,c,r,hc,hp,h=>by
  simp only [Instr.fill] at h
  cases hpl:pl i with
  |none=>rw [hpl] at h;cases h
  |some os =>
   obtain⟨off,size⟩:=os
   rw [hpl] at h
   simp only at h
   split at h
   ·cases h
   ·rename_i hsz
    refine fill_mem pl Pr ps _ r ?_ (fun p hq=>hp p (by simp [hq])) h
    have hu:=hp (i,u) (by simp)
    rw [← Array.foldl_toList]
    have hz:∀ x∈u.cells.zipIdx.toList,Pr x.1:=by
     intro x hx
     have hx':x∈u.cells.toList.zipIdx:=by simpa [Array.toList_zipIdx] using hx
     have:=List.fst_mem_of_mem_zipIdx hx'
     exact hu _ this
    generalize u.cells.zipIdx.toList=l at hz
    clear h hsz
    induction l generalizing c with
    |nil=>simpa using hc
    |cons x l ih =>
     simp only [List.foldl_cons]
     refine ih _ ?_ (fun y hy=>hz y (by simp [hy]))
     intro v hv
     rw [Array.toList_setIfInBounds] at hv
     rcases List.mem_or_eq_of_mem_set hv with h1|h1
     ·exact hc v h1
     ·rw [h1];exact hz x (by simp)
theorem places_run (hT:TabOK P T){t:TypeId}{ti:TyI}(ht:look T t=some ti){fs:List (Nat × TypeId)}(hk:ti.kind=.st fs)(hf:fieldsKnown T fs=true) :
  ∃ f:Array Field,P.underlying t=some (.struct f)∧∀ w,∃ pl:Array (Nat × Nat),(f.mapM fun f=>do pure (f.offset,← sizeOf f.type):Sem (Array (Nat × Nat))).run P w=.ok pl w∧∀ j,pl[j]? = places T ti j:=by
 have hti:=hT t _ ht
 obtain⟨f,hd,hfs,_⟩:=hti.st hk
 refine⟨f,hd,fun w=>?_⟩
 subst hfs
 have key:∀ (l:List Field),fieldsKnown T (l.map fun f=>(f.offset,f.type))=true→∃ pl:List (Nat × Nat),(l.mapM fun f=>do pure (f.offset,← sizeOf f.type):Sem (List (Nat × Nat))).run P w=.ok pl w ∧
   ∀ j:Nat,pl[j]? = (match (l.map fun f=>(f.offset,f.type))[j]? with|some (off,ft)=>(match look T ft with|some fi=>some (off,fi.size)|none=>none)|none=>none):=by
  intro l
  induction l with
  |nil=>intro _;exact⟨[],by simp,fun j=>by simp⟩
  |cons x l ih =>
   intro h
   simp only [List.map_cons,fieldsKnown] at h
   split at h
   case h_2=>cases h
   rename_i fi hfi
   obtain⟨pl,h1,h2⟩:=ih h
   have hx:=hT _ _ hfi
   refine⟨(x.offset,fi.size)::pl,?_,fun j=>?_⟩
   ·simp only [List.mapM_cons,Sem.run_bind,hx.sizeOf,Result.andThen_ok,Sem.run_pure,h1]
   ·cases j with
    |zero=>simp [hfi]
    |succ j=>simpa using h2 j
 obtain⟨pl,h1,h2⟩:=key f.toList hf
 refine⟨pl.toArray,?_,fun j=>?_⟩
 ·rw [Array.mapM_eq_mapM_toList]
  simp only [Sem.run_map,h1,Result.andThen_ok]
 ·simp only [List.getElem?_toArray,h2 j,places,hk]
theorem vbuild_ok (hT:TabOK P T){t:TypeId}{ps:List (Nat × Value)}{K:Value→Prop}(hl:vbuild T t ps K)(hs:∀ p∈ps,scT ι nx p.2) :
  ∃ v,K v∧Looks P ι B nx h (Instr.build t (ps.map fun p=>(p.1,tr ι p.2)).toArray) v:=by
 unfold vbuild at hl
 split at hl
 case h_2=>exact hl.elim
 rename_i ti ht
 split at hl
 case h_2=>exact hl.elim
 rename_i hkn hap
 split at hl
 case h_2=>exact hl.elim
 rename_i lcells hf0
 obtain⟨cells,hce⟩:∃ cells:Array Value,cells=lcells.toArray:=⟨_,rfl⟩
 have hf:Instr.fill (places T ti) ti.zv.cells ps=some cells:=by rw [hce];exact fillL_ok _ _ _ _ _ rfl hf0
 rw [← hce] at hl
 have hti:=hT t _ ht
 have hs':=aggParts_spec hap hs
 have hz:ti.zv.cells.map (trS ι)=ti.zv.cells:=by
  have h1:=cells_tr (ι:=ι) (n:=nx) (scA_g hti.zg)
  rw [tr_g (ι:=ι) (by
   have:=hti.zg
   cases hzv:ti.zv with
   |tuple c=>rw [hzv] at this;simp [gA,gS] at this
   |_=>rw [hzv] at this;exact this)] at h1
  exact h1.symm
 have hfm:=fill_map (ι:=ι) (nx:=nx) (places T ti) ps ti.zv.cells cells hs' hf
 rw [hz] at hfm
 refine⟨_,hl,?_,fun w H=>?_⟩
 ·intro v hv
  refine fill_mem (places T ti) (scS ι nx) ps ti.zv.cells cells ?_ ?_ hf v hv
  ·intro u hu
   have:=scA_g (ι:=ι) (n:=nx) hti.zg
   cases hzv:ti.zv with
   |agg c=>rw [hzv] at this hu;exact this u hu
   |_ =>
    rw [hzv] at this hu
    simp only [Value.cells,List.mem_singleton] at hu
    subst hu
    exact this
  ·intro p hp u hu
   have:=hs' p hp
   cases hpv:p.2 with
   |agg c=>rw [hpv] at this hu;exact this u hu
   |_ =>
    rw [hpv] at this hu
    simp only [Value.cells,List.mem_singleton] at hu
    subst hu
    exact this
 ·split at hkn
  ·rename_i fs hk
   obtain⟨f,hd,hpl⟩:=places_run hT ht hk hkn
   obtain⟨pl,h1,h2⟩:=hpl w
   have he:(fun j:Nat=>pl[j]?)=places T ti:=funext h2
   simp only [Instr.build,Sem.run_bind,hti.zero,Result.andThen_ok,run_underlying hd,h1,he,hfm,Sem.run_pure,tr_agg]
  ·rename_i n e hk
   cases he:look T e with
   |none=>rw [he] at hkn;cases hkn
   |some ei =>
    have hei:=hT e _ he
    have hpl:places T ti=fun i=>some (i*ei.size,ei.size):=by
     funext j;simp [places,hk,he]
    rw [hpl] at hfm
    simp only [Instr.build,Sem.run_bind,hti.zero,Result.andThen_ok,run_underlying (hti.ar hk),hei.sizeOf,hfm,Sem.run_pure,tr_agg]
  ·cases hkn
end
end Go.Aw
end

noncomputable section
namespace Go.Aw
open Go.RowKit
section
variable {P:Program}{T:Tab}{ι:Nat→Loc}{B nx:Nat}{h:Heap}
theorem vmm_max {v:Value}{r:List Value}{u:Value}(hu:vmm std.max v r=some u)(w:World):gS u=true∧(r.foldlM Builtin.max2 v).run P w=.ok u w:=by
 induction r generalizing v with
 |nil =>
  cases v <;> simp [vmm] at hu
  subst hu
  exact⟨rfl,by simp⟩
 |cons x r ih =>
  cases v <;> cases x <;> simp only [vmm] at hu <;> try (cases hu;done)
  rename_i k a k' b
  split at hu
  ·rename_i hk
   have hk':=kEq_true hk
   subst hk'
   obtain⟨h1,h2⟩:=ih hu
   refine⟨h1,?_⟩
   rw [← h2]
   simp [List.foldlM_cons,Builtin.max2,std]
  ·cases hu
theorem vmm_min {v:Value}{r:List Value}{u:Value}(hu:vmm std.min v r=some u)(w:World):gS u=true∧(r.foldlM Builtin.min2 v).run P w=.ok u w:=by
 induction r generalizing v with
 |nil =>
  cases v <;> simp [vmm] at hu
  subst hu
  exact⟨rfl,by simp⟩
 |cons x r ih =>
  cases v <;> cases x <;> simp only [vmm] at hu <;> try (cases hu;done)
  rename_i k a k' b
  split at hu
  ·rename_i hk
   have hk':=kEq_true hk
   subst hk'
   obtain⟨h1,h2⟩:=ih hu
   refine⟨h1,?_⟩
   rw [← h2]
   simp [List.foldlM_cons,Builtin.min2,std]
  ·cases hu
theorem vmm_ints {f:Int→Int→Int}{v:Value}{r:List Value}{u:Value}(hu:vmm f v r=some u):r.map (tr ι)=r∧tr ι v=v:=by
 induction r generalizing v with
 |nil =>
  cases v <;> simp [vmm] at hu
  exact⟨rfl,rfl⟩
 |cons x r ih =>
  cases v <;> cases x <;> simp only [vmm] at hu <;> try (cases hu;done)
  split at hu
  ·obtain⟨h1,_⟩:=ih hu
   exact⟨by simp [h1,tr_int],rfl⟩
  ·cases hu
theorem vbuiltin_ok (hT:TabOK P T){b:Builtin}{ts:Array TypeId}{vs:List Value}{K:Value→Prop}(hl:vbuiltin std T b ts vs K)(hs:∀ v∈vs,scT ι nx v) :
  ∃ v,K v∧scT ι nx v∧∀ (ty:TypeId) (cs:Array Bool) w,RelH ι B h nx w→(builtin b ts ty cs (vs.map (tr ι)).toArray).run P w=.ok (.value (tr ι v)) w:=by
 unfold vbuiltin at hl
 split at hl
 ·rename_i t a n c hts
  split at hl
  case h_2=>exact hl.elim
  rename_i e s1 b1 z1 ht
  have hd:=(hT t _ ht).sl rfl
  obtain⟨ts⟩:=ts
  simp only at hts
  subst hts
  have hsl:∃ a' c',tr ι (.slice a n c)=.slice a' n c':=by
   cases a with
   |none=>exact⟨_,_,rfl⟩
   |some a =>
    simp only [tr,trA,trS,trP]
    split
    ·exact⟨_,_,rfl⟩
    ·exact⟨_,_,rfl⟩
  obtain⟨a',c',hsl⟩:=hsl
  exact⟨_,hl,by simp [scT,scA,scS,scP],fun ty cs w H=>by simp [builtin,hsl,Builtin.len_,run_underlying hd,goInt,tr_int,std]⟩
 ·rename_i t n c hts
  split at hl
  case h_2=>exact hl.elim
  rename_i e s1 b1 z1 ht
  have hd:=(hT t _ ht).sl rfl
  obtain⟨ts⟩:=ts
  simp only at hts
  subst hts
  exact⟨_,hl,by simp [scT,scA,scS,scP],fun ty cs w H=>by simp [builtin,tr_slice_none,Builtin.cap_,run_underlying hd,goInt,tr_int,std]⟩
 ·rename_i x v r
  obtain⟨u,hu,hK⟩:=on_ok hl
  obtain⟨e1,e2⟩:=vmm_ints (ι:=ι) hu
  refine⟨u,hK,scT_g (by
   have:=(vmm_max (P:=P) hu default).1
   cases u <;> first|exact this|(simp [gS] at this)),fun ty cs w H=>?_⟩
  obtain⟨h1,h2⟩:=vmm_max (P:=P) hu w
  have:tr ι u=u:=tr_g (by cases u <;> first|exact h1|(simp [gS] at h1))
  simp only [builtin,List.map_cons,e1,e2,Builtin.max_,Sem.run_bind,h2,Result.andThen_ok,Sem.run_pure,this]
 ·rename_i x v r
  obtain⟨u,hu,hK⟩:=on_ok hl
  obtain⟨e1,e2⟩:=vmm_ints (ι:=ι) hu
  refine⟨u,hK,scT_g (by
   have:=(vmm_min (P:=P) hu default).1
   cases u <;> first|exact this|(simp [gS] at this)),fun ty cs w H=>?_⟩
  obtain⟨h1,h2⟩:=vmm_min (P:=P) hu w
  have:tr ι u=u:=tr_g (by cases u <;> first|exact h1|(simp [gS] at h1))
  simp only [builtin,List.map_cons,e1,e2,Builtin.min_,Sem.run_bind,h2,Result.andThen_ok,Sem.run_pure,this]
 ·exact hl.elim
theorem looks_value {m:Sem Value}{v:Value}(hm:Looks P ι B nx h m v):scT ι nx v∧∀ w,RelH ι B h nx w→(do pure (.value (← m)):Sem Next).run P w=.ok (.value (tr ι v)) w :=
 ⟨scT_of_A hm.1,fun w H=>by simp only [Sem.run_bind,hm.2 w H,Result.andThen_ok,Sem.run_pure]⟩
theorem gT_of_S {v:Value}(h:gS v=true):gT v=true:=by
 cases v <;> first|exact h|(simp [gS] at h)
theorem vlook_ok (hT:TabOK P T){env:List (Nat × Value)}{a:Act}(he:EnvOK ι nx env a){o:Oper}{K:Value→Prop}(hl:vlook std T env h o.op K){w0:World}(H0:RelH ι B h nx w0) :
  ∃ v,K v∧scT ι nx v∧∀ w,RelH ι B h nx w→(execOp a.eval o).run P w=.ok (.value (tr ι v)) w:=by
 obtain⟨dst,op,ty,pos,after,guard⟩:=o
 simp only at hl
 cases op <;> simp only [vlook] at hl <;> try (exact hl.elim)
 case move x =>
  obtain⟨u,hu,hK⟩:=on_ok hl
  obtain⟨e1,e2⟩:=he.opv hu
  exact⟨u,hK,e2,fun w H=>by simp [execOp,e1]⟩
 case assign x =>
  obtain⟨u,hu,hK⟩:=on_ok hl
  obtain⟨e1,e2⟩:=he.opv hu
  exact⟨u,hK,e2,fun w H=>by simp [execOp,e1]⟩
 case pick c x y =>
  obtain⟨u,hu,hK⟩:=on_ok hl
  obtain⟨e1,e2⟩:=he.opv hu
  split at hK
  case h_2=>exact hK.elim
  rename_i t
  rcases br_cases hK with ⟨rfl,hb⟩|⟨rfl,hb⟩
  ·obtain⟨v,hv,hK⟩:=on_ok hb
   obtain⟨e3,e4⟩:=he.opv hv
   exact⟨v,hK,e4,fun w H=>by simp [execOp,e1,e3,tr_bool,asBool]⟩
  ·obtain⟨v,hv,hK⟩:=on_ok hb
   obtain⟨e3,e4⟩:=he.opv hv
   exact⟨v,hK,e4,fun w H=>by simp [execOp,e1,e3,tr_bool,asBool]⟩
 case build t ps =>
  split at hl
  case h_2=>exact hl.elim
  rename_i l hps
  obtain⟨e1,e2⟩:=partsOK_spec he hps
  obtain⟨v,hv,hm⟩:=vbuild_ok (ι:=ι) (B:=B) (h:=h) hT hl e2
  have e3:(ps.map fun p=>(p.1,a.eval p.2))=(l.map fun p=>(p.1,tr ι p.2)).toArray:=by
   apply Array.ext'
   simpa using e1
  rw [← e3] at hm
  exact⟨v,hv,looks_value hm⟩
 case load t x =>
  obtain⟨u,hu,hK⟩:=on_ok hl
  obtain⟨e1,e2⟩:=he.opv hu
  obtain⟨v,hv,hm⟩:=vload_ok (P:=P) hT hK H0
  rw [← e1] at hm
  exact⟨v,hv,looks_value hm⟩
 case nilCheck x =>
  obtain⟨u,hu,hK⟩:=on_ok hl
  obtain⟨e1,e2⟩:=he.opv hu
  split at hK
  ·rename_i ad
   refine⟨_,hK,e2,fun w H=>?_⟩
   have:ad.block<nx∧(ι ad.block).isAt=true:=e2
   cases hι:ι ad.block with
   |nil p=>rw [hι] at this;cases this.2
   |lay b o e=>simp [execOp,e1,tr,trA,trS,trP,hι]
  ·exact⟨_,hK,e2,fun w H=>by simp [execOp,e1,tr,trA,trS,trFn]⟩
  ·rename_i l fi c
   refine⟨_,hK,e2,fun w H=>?_⟩
   simp only [execOp,e1,tr,trA,trS,trFn]
   cases ι l <;> simp
  ·exact hK.elim
 case binOp op xt x y yt =>
  obtain⟨u,hu,hK⟩:=on_ok hl
  obtain⟨v,hv,hK⟩:=on_ok hK
  obtain⟨e1,e2⟩:=he.opv hu
  obtain⟨e3,e4⟩:=he.opv hv
  split at hK
  ·rename_i m c
   obtain⟨r,h1,h2,h3⟩:=vnil_ok (P:=P) (ι:=ι) (B:=B) (n:=m) (c:=c) (p:=x) (q:=y) hT hK
   refine⟨r,h1,scT_g (gT_of_S h2),fun w H=>?_⟩
   have:=h3 w H
   simp only [execOp,e1,e3,tr_slice_none,Sem.run_bind,tr_g (gT_of_S h2)] at this ⊢
   rw [this]
   rfl
  obtain⟨r,h1,h2,h3⟩:=vbin_ok (P:=P) (ι:=ι) (p:=x) (q:=y) hT hK
  refine⟨r,h1,scT_g (gT_of_S h2),fun w H=>?_⟩
  have:=h3 w
  simp only [execOp,e1,e3,Sem.run_bind,tr_g (gT_of_S h2)] at this ⊢
  rw [this]
  rfl
 case unOp op xt x =>
  obtain⟨u,hu,hK⟩:=on_ok hl
  obtain⟨e1,e2⟩:=he.opv hu
  obtain⟨r,h1,h2,h3⟩:=vun_ok (P:=P) (ι:=ι) hK
  refine⟨r,h1,scT_g (gT_of_S h2),fun w H=>?_⟩
  simp only [execOp,e1,Sem.run_bind,h3 w,Result.andThen_ok,Sem.run_pure,tr_g (gT_of_S h2)]
 case convert s d x =>
  obtain⟨u,hu,hK⟩:=on_ok hl
  obtain⟨e1,e2⟩:=he.opv hu
  split at hK
  case h_2=>exact hK.elim
  rename_i k0 n si k s1 b1 z1 hs hd
  obtain⟨h1,h2⟩:=must_iff.1 hK
  obtain⟨ds,hds,_⟩:=(hT s _ hs).desc
  have hdd:=(hT d _ hd).int rfl
  refine⟨_,h2,by simp [scT,scA,scS,scP],fun w H=>?_⟩
  simp [execOp,e1,tr_int,convert,run_underlying hds,run_underlying hdd,Conv.intToInt,wrap_fits h1]
 case makeFunc fn first cap =>
  split at hl
  case h_2=>exact hl.elim
  rename_i f hfirst
  split at hl
  case h_2=>exact hl.elim
  rename_i l hc
  obtain⟨e1,e2⟩:=capOK_spec he hc
  obtain⟨first⟩:=first
  simp only at hfirst
  subst hfirst
  refine⟨_,hl,⟨trivial,fun v hv=>e2 v (by simpa using hv)⟩,fun w H=>?_⟩
  have:cap.map a.eval=(l.map (trP ι)).toArray:=by
   apply Array.ext'
   simpa using e1
  simp [execOp,Instr.makeFunc,tr,trA,trS,trFn,this]
 case fieldAddr s x f =>
  obtain⟨u,hu,hK⟩:=on_ok hl
  obtain⟨e1,e2⟩:=he.opv hu
  have hx:scA ι nx u:=by
   cases u <;> first|exact e2|(simp [vfieldAddr] at hK)
  obtain⟨v,hv,hm⟩:=vfieldAddr_ok (P:=P) (B:=B) (h:=h) hT hK hx
  rw [← e1] at hm
  exact⟨v,hv,looks_value hm⟩
 case field s x f =>
  obtain⟨u,hu,hK⟩:=on_ok hl
  obtain⟨e1,e2⟩:=he.opv hu
  have hx:scA ι nx u:=by
   cases u <;> first|exact e2|(simp [vfield] at hK)
  obtain⟨v,hv,hm⟩:=vfield_ok (P:=P) (B:=B) (h:=h) hT hK hx
  rw [← e1] at hm
  exact⟨v,hv,looks_value hm⟩
 case indexAddr t x i =>
  obtain⟨u,hu,hK⟩:=on_ok hl
  obtain⟨j,hj,hK⟩:=on_ok hK
  obtain⟨e1,e2⟩:=he.opv hu
  obtain⟨e3,e4⟩:=he.opv hj
  have hx:scA ι nx u:=by
   cases u <;> first|exact e2|(unfold vindexAddr at hK;split at hK <;> simp_all)
  obtain⟨v,hv,hm⟩:=vindexAddr_ok (P:=P) (B:=B) (h:=h) hT hK hx
  rw [← e1,← e3] at hm
  exact⟨v,hv,looks_value hm⟩
 case index t x i =>
  obtain⟨u,hu,hK⟩:=on_ok hl
  obtain⟨j,hj,hK⟩:=on_ok hK
  obtain⟨e1,e2⟩:=he.opv hu
  obtain⟨e3,e4⟩:=he.opv hj
  have hx:scA ι nx u:=by
   cases u <;> first|exact e2|(unfold vindex at hK;split at hK <;> simp_all)
  obtain⟨v,hv,hm⟩:=vindex_ok (P:=P) (B:=B) (h:=h) hT hK hx
  rw [← e1,← e3] at hm
  exact⟨v,hv,looks_value hm⟩
 case extract x i =>
  obtain⟨u,hu,hK⟩:=on_ok hl
  obtain⟨e1,e2⟩:=he.opv hu
  split at hK
  case h_2=>exact hK.elim
  rename_i vs
  obtain⟨v,hv,hK⟩:=on_ok hK
  have hm:=e2 v (List.mem_of_getElem? hv)
  refine⟨v,hK,scT_of_A hm,fun w H=>?_⟩
  have:(vs.map (trA ι))[i]? = some (trA ι v):=by
   rw [Array.getElem?_map,← Array.getElem?_toList,hv];rfl
  have hx:Instr.extract (tr ι (.tuple vs)) i=pure (trA ι v):=by simp only [tr,Instr.extract,this]
  simp only [execOp,e1,hx,Sem.run_bind,Sem.run_pure,Result.andThen_ok,tr_of_A hm]
 case call c =>
  obtain⟨cal,args,ats⟩:=c
  simp only at hl
  split at hl
  case h_2=>exact hl.elim
  rename_i b
  split at hl
  case h_2=>exact hl.elim
  rename_i vs hvs
  obtain⟨e1,e2⟩:=vargs_spec he hvs
  obtain⟨v,h1,h2,h3⟩:=vbuiltin_ok (ι:=ι) (B:=B) (h:=h) hT hl e2
  refine⟨v,h1,h2,fun w H=>?_⟩
  have:args.map a.eval=(vs.map (tr ι)).toArray:=by
   apply Array.ext'
   simpa using e1
  rw [← this] at h3
  simp only [execOp,resolve,Sem.run_bind,Sem.run_pure,Result.andThen_ok,invoke]
  exact h3 _ _ w H
end
end Go.Aw
end
