/-
  Parts of a proof. No condition.
-/
import Derived.Test.YticajjhjehljpaaGreatQAd
import Derived.OrdersIn
set_option linter.unusedSimpArgs false
set_option linter.unusedVariables false
noncomputable section
namespace Go.Aw
open Go.RowKit
def gY (T:cF)(cs:List Value):List (Nat × TypeId)→Bool
 |[]=>true
 |(o,t)::r=>match look T t,nth cs o with
  |some fi,some _=>(match fi.kind with
   |.int _=>gY T cs r
   |.bool=>gY T cs r
   |_=>false)
  |_,_=>false
def pY (A:Ar)(T:cF)(kt:TypeId)(key:Value):List (Value × Value)→Option (Option Value)
 |[]=>some none
 |(k,v)::r=>match veq A T 100 kt key k with
  |none=>none
  |some true=>some (some v)
  |some false=>pY A T kt key r
def NU (h:Heap)(nx:Nat)(K:KE):Prop:=K (.map (some nx)) (cC h nx (.map [])) (nx+1)
def nC (A:Ar)(T:cF)(h:Heap)(t:TypeId)(x key:Value)(ok:Bool)(K:Value→Prop):Prop :=
 match look T t,x,key with
 |some { kind:=.mp kt et,.. },.map (some k),.agg cs =>
  (match look T kt,look T et,look h k with
  |some { kind:=.st fs,.. },some ei,some (.map es) =>
   (match gY T cs.toList fs,dE cs.toList,pY A T kt (.agg cs) es with
   |true,true,some r =>
    (match ok,r with
    |true,some v=>K (.tuple #[v,.bool true])
    |true,none=>K (.tuple #[ei.zv,.bool false])
    |false,some v=>K v
    |false,none=>K ei.zv)
   |_,_,_=>False)
  |_,_,_=>False)
 |_,_,_=>False
def iZ (A:Ar)(T:cF)(h:Heap)(nx:Nat)(t:TypeId)(x key v:Value)(K:KE):Prop :=
 match look T t,x,key,(match v with|.agg _=>false|.tuple _=>false|_=>true) with
 |some { kind:=.mp kt _,.. },.map (some k),.agg cs,true =>
  (match look T kt,look h k with
  |some { kind:=.st fs,.. },some (.map es) =>
   (match gY T cs.toList fs,dE cs.toList,pY A T kt (.agg cs) es with
   |true,true,some none=>K undef (vS h k (.map (es++[(.agg cs,v)]))) nx
   |_,_,_=>False)
  |_,_=>False)
 |_,_,_,_=>False
def uM (T:cF)(h:Heap)(nx:Nat)(t:TypeId)(x:Value)(K:KE):Prop :=
 match look T t,x with
 |some { kind:=.sl _,.. },.slice none 0 0=>K (.tuple #[]) h nx
 |some { kind:=.sl e,.. },.slice (some ⟨k,o,none⟩) n _ =>
  (match n with
  |0=>K (.tuple #[]) h nx
  |_=>(match look T e,look h k with
   |some ei,some (.cells true _ sz cs)=>dI (Nat.ble (o+n*ei.size) cs.length) (K (.tuple #[]) (vS h k (.cells true false sz (eC cs o (rep n ei.zv.cells.toList)))) nx)
   |_,_=>False))
 |_,_=>False
section
variable {P:Program}{T:cF}{ι:Nat→Loc}{B nx:Nat}{h:Heap}
theorem AK (hT:cA P T){t:TypeId}{fs:List (Nat × TypeId)}{s1 b1:Nat}{z1:Value}(ht:look T t=some ⟨.st fs,s1,b1,z1⟩){cs:Array Value}(hk:gY T cs.toList fs=true)(em:Bool)(d:Nat)(w:World) :
  (Instr.checkKey em (d+2) t (.agg cs)).run P w=.ok () w:=by
 have hti:=hT t _ ht;obtain⟨f,hd,hfs,hn⟩:=hti.st rfl;rw [show d+2=(d+1)+1 from rfl,Instr.checkKey];simp only [Sem.run_bind,run_underlying hd,Result.andThen_ok];rw [← Array.forIn_toList];subst hfs;clear hd ht hti;generalize f.toList=L at hk hn
 induction L with
 |nil=>simp
 |cons x L ih =>
  have hname : x.name ≠ "_" := hn x (by simp);simp only [List.map_cons,gY] at hk;split at hk
  case h_2=>cases hk
  rename_i fi v hfi hv;have hleaf:(∃ d,P.underlying x.type=some d∧((∃ k,d=.int k)∨d=.bool))∧fi.isAgg=false∧gY T cs.toList (L.map fun f=>(f.offset,f.type))=true:=by
   split at hk
   ·rename_i k hki;exact⟨⟨_,(hT _ _ hfi).int hki,.inl ⟨_,rfl⟩⟩,by simp [OW.isAgg,hki],hk⟩
   ·rename_i hki;exact⟨⟨_,(hT _ _ hfi).bool hki,.inr rfl⟩,by simp [OW.isAgg,hki],hk⟩
   ·cases hk
  obtain⟨⟨dd,hdd,hdk⟩,hagg,hk'⟩:=hleaf;have e1:=pS (P:=P) hT hfi hagg hv w;simp only [Array.toArray_toList] at e1;have e2:(Instr.checkKey em (d+1) x.type v).run P w=.ok () w:=by
   rw [Instr.checkKey];simp only [Sem.run_bind,run_underlying hdd,Result.andThen_ok];rcases hdk with ⟨k,rfl⟩|rfl <;> simp
  simp only [List.forIn_cons,Sem.run_bind,hname,ne_eq,not_false_eq_true,if_true,e1,Result.andThen_ok,e2,Sem.run_pure];exact ih hk' (fun y hy=>hn y (by simp [hy]))
theorem tR (hT:cA P T){kt:TypeId}{key:Value}:∀ (ents:List MapEntry) (es:List (Value × Value)) (f:Value→Value) (r:Option Value) (i:Nat),(∀ e∈es,gA e.1=true) →
  ents.map (fun e=>(e.key,e.val))=es.map (fun e=>(e.1,f e.2))→pY aG T kt key es=some r→∀ w,
  ∃ j,(Instr.findAsking kt key ents i).run P w=.ok (r.map fun v=>(j,f v)) w
 |[],es,f,r,i,hg,he,hr,w=>by
  cases es with
  |nil=>simp [pY] at hr;subst hr;exact⟨0,by simp [Instr.findAsking]⟩
  |cons a b=>simp at he
 |e::ents,es,f,r,i,hg,he,hr,w=>by
  cases es with
  |nil=>simp at he
  |cons a es =>
   obtain⟨k,v⟩:=a;simp only [List.map_cons,List.cons.injEq,Prod.mk.injEq] at he;obtain⟨⟨he1,he2⟩,he3⟩:=he;simp only [pY] at hr;split at hr
   ·cases hr
   ·rename_i hq;have:(Op.equal kt key k).run P w=.ok _ w:=PS (P:=P) hT 100 _ _ _ _ hq 10000 (by omega) w;injection hr with hr;subst hr;refine⟨i,?_⟩;simp only [Instr.findAsking,Sem.run_bind,he1,this,Result.andThen_ok,if_true,Sem.run_pure,he2,Option.map_some]
   ·rename_i hq;have:(Op.equal kt key k).run P w=.ok _ w:=PS (P:=P) hT 100 _ _ _ _ hq 10000 (by omega) w;obtain⟨j,hj⟩:=tR hT ents es f r (i+1) (fun e he=>hg e (by simp [he])) he3 hr w;refine⟨j,?_⟩;simp only [Instr.findAsking,Sem.run_bind,he1,this,Result.andThen_ok,Bool.false_eq_true,if_false,hj]
theorem DG (hT:cA P T){kt:TypeId}{fs:List (Nat × TypeId)}{s1 b1:Nat}{z1:Value}(ht:look T kt=some ⟨.st fs,s1,b1,z1⟩){key:Value}{ents:List MapEntry}{es:List (Value × Value)}{f:Value→Value}{r:Option Value}(hg:∀ e∈es,gA e.1=true)
  (he:ents.map (fun e=>(e.key,e.val))=es.map (fun e=>(e.1,f e.2))) (hr:pY aG T kt key es=some r) (w:World) :
  ∃ j,(Instr.findKey kt key ents).run P w=.ok (r.map fun v=>(j,f v)) w:=by
 obtain⟨fl,hd,_,_⟩:=(hT kt _ ht).st rfl;cases ents with
 |nil =>
  cases es with
  |nil=>simp [pY] at hr;subst hr;exact⟨0,by simp [Instr.findKey,run_underlying hd,Instr.findNow]⟩
  |cons a b=>simp at he
 |cons e ents =>
  obtain⟨j,hj⟩:=tR hT (e::ents) es f r 0 hg he hr w;exact⟨j,by simp [Instr.findKey,run_underlying hd,Instr.findNow,Instr.sameNow,hj]⟩
theorem MN {t:TypeId}{K:KE}(hl:NU h nx K){w:World}(H:aO ι B h nx w):JP P ι B nx w (Instr.makeMap t none) K:=by
 have hf:=H.new (.map #[] 0) (.map []) ⟨H.size,#[],0,(MapKept.heap_alloc w _).1,by simp,by simp⟩ (by intro e he;cases he);refine⟨_,_,_,_,_,hl,?_,hf,?_,fun k hk=>bY _ _ hk,by omega,?_⟩
 ·simp [eG,j0,fV,mW,bC,Loc.gC]
 ·exact (c7 w _).mono H.size
 ·simp [Instr.makeMap,tr,dS,bQ,dU,bC]
theorem E1 (hT:cA P T){t:TypeId}{x key:Value}{ok:Bool}{K:Value→Prop}(hl:nC aG T h t x key ok K)(hx:eG ι nx x){w0:World}(H0:aO ι B h nx w0) :
  ∃ v,K v∧eG ι nx v∧∀ w,aO ι B h nx w→(Instr.lookup t (tr ι x) (tr ι key) ok).run P w=.ok (tr ι v) w:=by
 unfold nC at hl;split at hl
 case h_2=>exact hl.elim
 rename_i kt et s1 b1 z1 k cs ht;split at hl
 case h_2=>exact hl.elim
 rename_i fs s2 b2 z2 ei es hkt het hk;split at hl
 case h_2=>exact hl.elim
 rename_i r hkf hg hfind;have htr:tr ι (.agg cs)=.agg cs:=fU (by simpa [gT,gA] using hg);have hm:=(hT t _ ht).mp rfl;have hei:=hT et _ het;have hx':k<nx∧(ι k).gC=true:=hx;have hz:j0 ι nx ei.zv:=NL hei.zg
 have hrun:∀ w,aO ι B h nx w→(Instr.lookup t (tr ι (.map (some k))) (tr ι (.agg cs)) ok).run P w =
   .ok (if ok then .tuple #[(match r with|some v=>bQ ι v|none=>ei.zv),.bool r.isSome] else (match r with|some v=>bQ ι v|none=>ei.zv)) w:=by
  intro w H;have hob:=H.obj k _ hk;cases hι:ι k with
  |nil p=>rw [hι] at hob;exact hob.elim
  |lay b o e =>
   rw [hι] at hob;obtain⟨hB,ents,clock,h1,h2,h3⟩:=hob;obtain⟨j,hj⟩:=DG hT hkt h3 h2 hfind w;have hck:=AK hT hkt hkf ents.isEmpty 9998 w;have e1:tr ι (.map (some k))=.map (some b):=(by simp [tr,dS,bQ,dU,hι]);rw [e1,htr];simp only [Instr.lookup,Sem.run_bind,run_underlying hm,Result.andThen_ok,MapKept.run_getObj_map h1,Sem.run_pure,hck,hj];cases r with
   |none=>cases ok <;> simp [hei.zero]
   |some v=>cases ok <;> simp
 have hsc:∀ v,r=some v→fV ι nx v:=by
  intro v hv;subst hv;have hos:=H0.sc k _ hk;clear hrun hl H0 hk
  induction es with
  |nil=>simp [pY] at hfind
  |cons a es ih =>
   obtain⟨k',v'⟩:=a;simp only [pY] at hfind;split at hfind
   ·cases hfind
   ·injection hfind with hfind;injection hfind with hfind;subst hfind;exact hos (k',v') (by simp)
   ·exact ih hfind (fun e he=>hos e (by simp [he]))
 split at hl
 ·rename_i v;have hs:=hsc v rfl;refine⟨_,hl,?_,fun w H=>?_⟩
  ·intro u hu;simp at hu;rcases hu with rfl|rfl
   ·exact fO hs
   ·simp [j0,fV,mW]
  ·rw [hrun w H];have e2:dS ι (.bool true)=.bool true:=rfl;simp [tr,x8 hs,e2]
 ·refine⟨_,hl,?_,fun w H=>?_⟩
  ·intro u hu;simp at hu;rcases hu with rfl|rfl
   ·exact hz
   ·simp [j0,fV,mW]
  ·rw [hrun w H];have:dS ι ei.zv=ei.zv:=SA hei.zg;simp [tr,this];simp [dS,bQ,dU]
 ·rename_i v;have hs:=hsc v rfl;exact⟨_,hl,kU (fO hs),fun w H=>by rw [hrun w H,xL hs];rfl⟩
 ·exact⟨_,hl,kU hz,fun w H=>by rw [hrun w H,sZ hz,SA hei.zg];rfl⟩
theorem GP (hT:cA P T){t:TypeId}{x key v:Value}{K:KE}(hl:iZ aG T h nx t x key v K)(hx:eG ι nx x)(hv:eG ι nx v){w:World}(H:aO ι B h nx w) :
  ∃ h' w',K undef h' nx∧aO ι B h' nx w'∧fQ B w w'∧(Instr.mapUpdate t (tr ι x) (tr ι key) (tr ι v)).run P w=.ok () w':=by
 unfold iZ at hl;split at hl
 case h_2=>exact hl.elim
 rename_i kt et s1 b1 z1 k cs ht hag;split at hl
 case h_2=>exact hl.elim
 rename_i fs s2 b2 z2 es hkt hk;split at hl
 case h_2=>exact hl.elim
 rename_i hkf hg hfind;have hvS:fV ι nx v:=by
  cases v <;> first|exact hv|(simp at hag)
 have htr:tr ι (.agg cs)=.agg cs:=fU (by simpa [gT,gA] using hg);have hm:=(hT t _ ht).mp rfl;have hob:=H.obj k _ hk;cases hι:ι k with
 |nil p=>rw [hι] at hob;exact hob.elim
 |lay b o e =>
  rw [hι] at hob;obtain⟨hB,ents,clock,h1,h2,h3⟩:=hob;obtain⟨j,hj⟩:=DG hT hkt h3 h2 hfind w;have hck:=AK hT hkt hkf false 9998 w;have e1:tr ι (.map (some k))=.map (some b):=(by simp [tr,dS,bQ,dU,hι]);refine⟨_,{ w with heap:=w.heap.setIfInBounds b (.map (ents.push ⟨.agg cs,bQ ι v,clock⟩) (clock+1)) },hl,?_,?_,?_⟩
  ·refine H.set hk rfl ?_ ?_ rfl (fun c hc=>?_) (by simp)
   ·rw [hι];have hlt:=(Array.getElem?_eq_some_iff.1 h1).1;refine⟨hB,ents.push ⟨.agg cs,bQ ι v,clock⟩,clock+1,by simp [Array.getElem?_setIfInBounds_self_of_lt hlt],by simp [h2],fun e he=>?_⟩;rcases List.mem_append.1 he with he|he
    ·exact h3 e he
    ·simp at he;subst he;simpa [gA] using hg
   ·intro e he;rcases List.mem_append.1 he with he|he
    ·exact H.sc k _ hk e he
    ·simp at he;subst he;exact hvS
   ·have:b≠c:=fun e=>hc (by rw [hι,e];rfl);simp [Array.getElem?_setIfInBounds_ne this]
  ·exact⟨rfl,rfl,rfl,by simp,fun c hc=>by
    have:b≠c:=(by omega);simp [Array.getElem?_setIfInBounds_ne this],Nat.le_refl _⟩
  ·rw [e1,htr,xL hvS];simp only [Instr.mapUpdate,Sem.run_bind,run_underlying hm,Result.andThen_ok,MapKept.run_getObj_map h1,hck,hj,Option.map_none,MapKept.run_setObj_map _ h1]
theorem WG (hT:cA P T){t ty:TypeId}{x:Value}{K:KE}(hl:uM T h nx t x K)(hx:eG ι nx x){w:World}(H:aO ι B h nx w) :
  JP P ι B nx w (Builtin.clear_ #[t] ty #[tr ι x]) K:=by
 unfold uM at hl;split at hl
 case h_3=>exact hl.elim
 ·rename_i e s1 b1 z1 ht;have hd:=(hT t _ ht).sl rfl;refine⟨_,_,_,ι,w,hl,by simp [eG],H,fQ.refl _ _,fun _ _=>rfl,Nat.le_refl _,?_⟩;rw [cX];simp [Builtin.clear_,run_underlying hd,tr]
 ·rename_i e s1 b1 z1 k o n c ht;have hd:=(hT t _ ht).sl rfl;have hx':k<nx∧((ι k).gC=false→n=0∧c=0):=hx;split at hl
  ·refine⟨_,_,_,ι,w,hl,by simp [eG],H,fQ.refl _ _,fun _ _=>rfl,Nat.le_refl _,?_⟩;simp only [tr,dS,bQ,dU];cases ι k with
   |nil p=>cases p <;> simp [Builtin.clear_,run_underlying hd]
   |lay b o e=>simp [Builtin.clear_,run_underlying hd]
  ·rename_i hn0;split at hl
   case h_2=>exact hl.elim
   rename_i ei g sz cs he hk;obtain⟨hb,hK⟩:=aD.1 hl;have hb:=Nat.le_of_ble_eq_true hb;have hei:=hT e _ he;cases hι:ι k with
   |nil p=>exact absurd (hx'.2 (by rw [hι];rfl)).1 hn0
   |lay b off ex =>
    have hz:=o7 hT he;have hrep:∀ v∈rep n ei.zv.cells.toList,gS v=true:=by
     intro v hv;simp only [rep,List.mem_flatten,List.mem_replicate] at hv;obtain⟨l,⟨_,rfl⟩,hv⟩:=hv;exact hz v hv
    have hlen:(rep n ei.zv.cells.toList).length=n*ei.size:=by
     rw [← iT,Array.length_toList,size_zeroCells,hei.zs]
    obtain⟨w',h1,h2,h3⟩:=H.aIa (P:=P) hk hι (o:=o) (vs:=rep n ei.zv.cells.toList) (by omega) (fun v hv=>cD (hrep v hv));rw [mB hrep] at h1;refine⟨_,_,_,ι,w',hK,by simp [eG],h3,h2,fun _ _=>rfl,Nat.le_refl _,?_⟩;have e1:tr ι (.slice (some ⟨k,o,none⟩) n c)=.slice (some ⟨b,off+o,none⟩) n (c+ex):=(by simp [tr,dS,bQ,dU,hι]);rw [e1];cases n with
    |zero=>exact absurd rfl hn0
    |succ n=>simp [Builtin.clear_,run_underlying hd,hei.zero,iT,h1,tr]
end
abbrev VC:=Nat→List Value→Heap→Nat→KE→Prop
abbrev VY:=Nat→List Value→Heap→Nat→KE→Prop
abbrev KS:=List (Nat × Value)→Heap→Nat→Prop
def j7 (env:List (Nat × Value)):Option Operand→Option (Option Value)
 |none=>some none
 |some x=>match cU env x with|some v=>some (some v)|none=>none
def nU:List Value→Bool
 |[]=>true
 |.pointer (some _)::r=>nU r
 |_=>false
def oZ (A:Ar)(T:cF)(C:VC)(Y:VY)(env:List (Nat × Value))(h:Heap)(nx:Nat)(op:Op)(K:KE):Prop :=
 match op with
 |.store t x y=>on (cU env x) fun p=>on (cU env y) fun v=>mU T h nx t p v K
 |.alloc t=>uU T h nx t K
 |.box _ x=>on (cU env x) fun v=>OX h nx v K
 |.buildSlice t n ps=>(match jP env ps.toList with|some l=>dQ T h nx t n l K|none=>False)
 |.slice t x lo hi mx=>on (cU env x) fun v=>(match j7 env lo,j7 env hi,j7 env mx with
  |some l,some u,some m=>rF A T h nx t v l u m K
  |_,_,_=>False)
 |.makeMap _ none=>NU h nx K
 |.makeSlice t l c=>on (cU env l) fun l=>on (cU env c) fun c=>jB A T h nx t l c K
 |.lookup t m k ok=>on (cU env m) fun x=>on (cU env k) fun y=>nC A T h t x y ok (fun v=>K v h nx)
 |.mapUpdate t m k u=>on (cU env m) fun x=>on (cU env k) fun y=>on (cU env u) fun v=>iZ A T h nx t x y v K
 |.call c=>(match c.callee with
  |.builtin .append=>(match c.argTypes.toList,j5 env c.args.toList with|[st,xt],some [s,x]=>kM A T h nx st xt s x K|_,_=>False)
  |.builtin .clear=>(match c.argTypes.toList,j5 env c.args.toList with|[t],some [x]=>uM T h nx t x K|_,_=>False)
  |.builtin _=>iH A T env h op (fun v=>K v h nx)
  |.value f=>on (cU env f) fun fv=>(match j5 env c.args.toList with
   |some l=>(match fv with
    |.func (.func g) first cap=>(match first.toList,nU cap.toList with
     |[],true=>C g (l++cap.toList) h nx K
     |_,_=>False)
    |.func (.yield q) first _=>(match first.toList with
     |[]=>Y q l h nx K
     |_=>False)
    |_=>False)
   |none=>False)
  |_=>False)
 |_=>iH A T env h op (fun v=>K v h nx)
def eO {α:Type}:List α→Nat→Option α
 |[],_=>none
 |x::_,0=>some x
 |_::r,n+1=>eO r n
theorem dO {α:Type}(l:List α)(n:Nat):eO l n=l[n]? := by
 induction l generalizing n with
 |nil=>rfl
 |cons v r ih=>cases n <;> simp [eO,ih]
def fB (A:Ar)(ops:List Oper)(env:List (Nat × Value))(g:Option (Nat × Bool))(Y N:List (Nat × Value)→Prop):Prop :=
 match g with
 |none=>Y env
 |some (j,want)=>match eO ops j with
  |some o=>(match o.dst with
   |some t=>(match look env t with
    |some (.bool b)=>br (A.eqB b want) (fun _=>Y (put env t (.bool want))) (fun _=>N (put env t (.bool (!want))))
    |some (.tuple _)=>N env
    |_=>False)
   |none=>False)
  |none=>False
def dZ (tn:Nat)(env:List (Nat × Value))(dst:Option Nat)(v:Value)(K:List (Nat × Value)→Prop):Prop :=
 match dst with
 |none=>K env
 |some d=>match Nat.blt d tn with|true=>K (put env d v)|false=>False
def yK (A:Ar)(T:cF)(C:VC)(Y:VY)(tn:Nat)(ops:List Oper)(l:List Oper):List (Nat × Value)→Heap→Nat→KS→Prop :=
 @List.rec Oper (fun _=>List (Nat × Value)→Heap→Nat→KS→Prop) (fun env h nx K=>K env h nx)
  (fun o _ ih env h nx K=>fB A ops env o.guard
   (fun env=>oZ A T C Y env h nx o.op fun v h' nx'=>dZ tn env o.dst v fun env'=>ih env' h' nx' K)
   (fun env=>dZ tn env o.dst undef fun env'=>ih env' h nx K)) l
theorem G6 {A:Ar}{T:cF}{C:VC}{Y:VY}{tn:Nat}{ops:List Oper}{o:Oper}{r:List Oper}{env:List (Nat × Value)}{h:Heap}{nx:Nat}{K:KS}:yK A T C Y tn ops (o::r) env h nx K=fB A ops env o.guard
 (fun env=>oZ A T C Y env h nx o.op fun v h' nx'=>dZ tn env o.dst v fun env'=>yK A T C Y tn ops r env' h' nx' K)
 (fun env=>dZ tn env o.dst undef fun env'=>yK A T C Y tn ops r env' h nx K):=rfl
structure Inv (B:Nat) (w0:World) (ι0:Nat→Loc) (nx0 tn:Nat) (ds:List Deferred) (ι:Nat→Loc) (env:List (Nat × Value)) (h:Heap) (nx:Nat) (a:Act) (w:World):Prop where
 env:cT ι nx env a
 heap:aO ι B h nx w
 below:fQ B w0 w
 old:∀ k,k<nx0→ι k=ι0 k
 le:nx0≤nx
 size:a.tmps.size=tn
 defers:a.defers=ds
def Ret (B:Nat)(w0:World)(ι0:Nat→Loc)(nx0:Nat)(K:KE):Ending→World→Prop
 |.returned u,w=>∃ v h nx ι,K v h nx∧eG ι nx v∧aO ι B h nx w∧fQ B w0 w∧(∀ k,k<nx0→ι k=ι0 k)∧nx0≤nx∧u=tr ι v
 |_,_=>False
def Fr (r:Option Nat):Fence:={ Fence.wide with round:=r }
def bF (P:Program)(C:VC):Prop:=∀ f args h nx K,C f args h nx K→∀ ι B w,aO ι B h nx w→(∀ v∈args,eG ι nx v) →
 (∃ fn, P.funcs[f]? = some fn ∧ fn.body.isSome = true ∧ (fn.name == "runtime.NumGoroutine") = false) ∧ CallsIn Fence.wide 0 P f (args.map (tr ι)).toArray w (Ret B w ι nx K)
def dW (P:Program)(Y:VY):Prop:=∀ l args h nx K,Y l args h nx K→∀ ι B w,aO ι B h nx w→(∀ v∈args,eG ι nx v) →
 ∀ b o e,ι l=.lay b o e→∃ f tmps as bd,(Instr.yield b (args.map (tr ι)).toArray).run P w=.ok (.round b f tmps as bd) w∧RoundIn Fence.wide 0 P b f tmps as bd w (Ret B w ι nx K)
section
variable {P:Program}{T:cF}{C:VC}{Y:VY}
theorem cT.vS {ι:Nat→Loc}{n:Nat}{env:List (Nat × Value)}{a:Act}(he:cT ι n env a){d:Nat}{v:Value}(hd:d<a.tmps.size)(hv:eG ι n v):cT ι n (put env d v) (a.put (some d) (tr ι v)):=by
 intro t u hu;rw [FR] at hu;by_cases e:t=d
 ·subst e;rw [if_pos rfl] at hu;injection hu with hu;subst hu;exact⟨by simp [Act.put,Array.getElem?_setIfInBounds_self_of_lt hd],hv⟩
 ·rw [if_neg e] at hu;obtain⟨h1,h2⟩:=he t u hu;refine⟨?_,h2⟩;simp only [Act.put];rw [Array.getElem?_setIfInBounds_ne (fun e'=>e e'.symm)];exact h1
theorem cT.same {ι:Nat→Loc}{n:Nat}{env:List (Nat × Value)}{a:Act}(he:cT ι n env a){d:Nat}{v:Value}(hv:look env d=some v):cT ι n (put env d v) a:=by
 intro t u hu;rw [FR] at hu;by_cases e:t=d
 ·subst e;rw [if_pos rfl] at hu;injection hu with hu;subst hu;exact he t v hv
 ·rw [if_neg e] at hu;exact he t u hu
theorem cT.names {ι ι':Nat→Loc}{n m:Nat}{env:List (Nat × Value)}{a:Act}(he:cT ι n env a)(hle:n≤m)(hi:∀ k,k<n→ι' k=ι k):cT ι' m env a:=by
 intro t u hu;obtain⟨h1,h2⟩:=he t u hu;exact⟨by rw [HN hi h2];exact h1,sG hle hi h2⟩
theorem nG {ι:Nat→Loc}{n tn:Nat}{env:List (Nat × Value)}{a:Act}(he:cT ι n env a)(hs:a.tmps.size=tn){dst:Option Nat}{v:Value}{K:List (Nat × Value)→Prop}(hl:dZ tn env dst v K)(hv:eG ι n v) :
  ∃ env',K env'∧cT ι n env' (a.put dst (tr ι v))∧(a.put dst (tr ι v)).tmps.size=tn∧(a.put dst (tr ι v)).defers=a.defers:=by
 unfold dZ at hl;cases dst with
 |none=>exact⟨env,hl,he,hs,rfl⟩
 |some d =>
  simp only at hl;split at hl
  ·rename_i hd;have hd:d<tn:=Nat.le_of_ble_eq_true hd;exact⟨_,hl,he.vS (by omega) hv,by simp [Act.put,hs],rfl⟩
  ·exact hl.elim
theorem tA {ι:Nat→Loc}{n:Nat}{env:List (Nat × Value)}{a:Act}(he:cT ι n env a){ops:Array Oper}{o:Oper}{Yk N:List (Nat × Value)→Prop}(hl:fB aG ops.toList env o.guard Yk N) :
  ∃ env',cT ι n env' a∧((Region.wanted o (yielded ops a.tmps)=true∧Yk env')∨(Region.wanted o (yielded ops a.tmps)=false∧N env')):=by
 unfold fB at hl;unfold Region.wanted;split at hl
 ·rename_i hg;rw [hg];exact⟨env,he,.inl ⟨rfl,hl⟩⟩
 ·rename_i j want hg;rw [hg];split at hl
  case h_2=>exact hl.elim
  rename_i q hq;split at hl
  case h_2=>exact hl.elim
  rename_i t ht;split at hl
  case h_3=>exact hl.elim
  case h_2 =>
   rename_i vs hb;rw [dO] at hq;have hy:yielded ops a.tmps j=none:=by
    have hq':ops[j]? = some q:=(by simpa using hq);simp [yielded,hq',ht,(he t _ hb).1,tr]
   exact⟨_,he,.inr ⟨by simp [hy],hl⟩⟩
  rename_i b hb;rw [dO] at hq;have hy:yielded ops a.tmps j=some b:=by
   have hq':ops[j]? = some q:=(by simpa using hq);simp [yielded,hq',ht,(he t _ hb).1,pQ]
  simp only [hy];rcases mQ hl with ⟨hbw,hk⟩|⟨hbw,hk⟩
  ·simp only [aG,beq_iff_eq] at hbw;subst hbw;exact⟨_,he.same hb,.inl ⟨by simp,hk⟩⟩
  ·simp only [aG,beq_eq_false_iff_ne,ne_eq] at hbw;have:b=!want:=(by cases b <;> cases want <;> simp_all);subst this;exact⟨_,he.same hb,.inr ⟨by simp,hk⟩⟩
theorem semAt_eq {o:Oper}(hd:∀ c,o.op≠.defer c)(r:Option Nat)(ρ:Operand→Value):o.semAt r ρ=execOp ρ o:=by
 cases r with
 |none=>exact Oper.semAt_none _ _
 |some l=>exact Oper.semAt_some l ρ o hd
def WL (P:Program)(ι:Nat→Loc)(B nx:Nat)(w:World)(m:Sem Next)(K:KE):Prop :=
 (∃ v h' nx' ι' w',K v h' nx'∧eG ι' nx' v∧aO ι' B h' nx' w'∧fQ B w w'∧(∀ k,k<nx→ι' k=ι k)∧nx≤nx'∧m.run P w=.ok (.value (tr ι' v)) w') ∨
 (∃ h' w',K undef h' nx∧aO ι B h' nx w'∧fQ B w w'∧m.run P w=.ok .skip w') ∨
 (∃ f args,m.run P w=.ok (.enter f args) w∧CallsIn Fence.wide 0 P f args w (Ret B w ι nx K)) ∨
 (∃ l f tmps as bd,m.run P w=.ok (.round l f tmps as bd) w∧RoundIn Fence.wide 0 P l f tmps as bd w (Ret B w ι nx K))
theorem WL.upon {ι:Nat→Loc}{B nx:Nat}{w:World}{o:Oper}{a a':Act}{K:KE}(hr:WL P ι B nx w (execOp a.eval o) K)(hd:∀ c,o.op≠.defer c)(he:execOp a'.eval o=execOp a.eval o)
  (r:Option Nat) (next:Act→World→Prop) (Q:Exit→Act→World→Prop)
  (hn:∀ v h' nx' ι' w',K v h' nx'→eG ι' nx' v→aO ι' B h' nx' w'→fQ B w w'→(∀ k,k<nx→ι' k=ι k)→nx≤nx'→next (a'.put o.dst (tr ι' v)) w') :
  o.wpIn (Fr r) 0 P a' w next Q:=by
 refine⟨fun _ _=>trivial,?_⟩;rw [semAt_eq hd,he];rcases hr with ⟨v,h',nx',ι',w',h1,h2,h3,h4,h5,h6,h7⟩|⟨h',w',h1,h3,h4,h7⟩|⟨f,args,hrun,hcalls⟩|⟨l,f,tmps,as,bd,hrun,hround⟩
 ·rw [h7];exact hn v h' nx' ι' w' h1 h2 h3 h4 h5 h6
 ·rw [h7];have:=hn undef h' nx ι w' h1 (dD rfl) h3 h4 (fun _ _=>rfl) (Nat.le_refl _)
  rwa [fU (show gT undef=true from rfl)] at this
 ·rw [hrun];refine⟨fun hdep=>absurd hdep (by simp [Fr,Fence.wide]),?_⟩;refine CallsIn.mono (F:=Fence.wide) hcalls fun e w' hret=>?_;cases e with
  |returned u =>
   obtain⟨v,h',nx',ι',k1,k2,k3,k4,k5,k6,rfl⟩:=hret;exact hn v h' nx' ι' w' k1 k2 k3 k4 k5 k6
  |panicked c=>exact hret.elim
  |outgrown=>exact hret.elim
 ·rw [hrun];refine⟨fun hdep=>absurd hdep (by simp [Fr,Fence.wide]),?_⟩;refine RoundIn.mono (F:=Fence.wide) hround fun e w' hret=>?_;cases e with
  |returned u =>
   obtain⟨v,h',nx',ι',k1,k2,k3,k4,k5,k6,rfl⟩:=hret;exact hn v h' nx' ι' w' k1 k2 k3 k4 k5 k6
  |panicked c=>exact hret.elim
  |outgrown=>exact hret.elim
theorem upon_value {ι:Nat→Loc}{B nx:Nat}{w:World}{o:Oper}{a:Act}{K:KE}
 (h:∃ v h' nx' ι' w',K v h' nx'∧eG ι' nx' v∧aO ι' B h' nx' w'∧fQ B w w'∧(∀ k,k<nx→ι' k=ι k)∧nx≤nx'∧(execOp a.eval o).run P w=.ok (.value (tr ι' v)) w'):WL P ι B nx w (execOp a.eval o) K:=.inl h
theorem upon_skip {ι:Nat→Loc}{B nx:Nat}{w:World}{o:Oper}{a:Act}{K:KE}
 (h:∃ h' w',K undef h' nx∧aO ι B h' nx w'∧fQ B w w'∧(execOp a.eval o).run P w=.ok .skip w'):WL P ι B nx w (execOp a.eval o) K:=.inr (.inl h)
theorem kB {ι:Nat→Loc}{n:Nat}{env:List (Nat × Value)}{a:Act}(he:cT ι n env a){x:Option Operand}{v:Option Value}(h:j7 env x=some v):x.map a.eval=v.map (tr ι):=by
 cases x with
 |none=>simp [j7] at h;subst h;rfl
 |some x =>
  simp only [j7] at h;split at h
  ·rename_i u hu;injection h with h;subst h;simp [(he.cU hu).1]
  ·cases h
theorem jE {ι:Nat→Loc}{B nx:Nat}{w:World}{m:Sem Value}{K:KE}(h:JP P ι B nx w m K) :
  ∃ v h' nx' ι' w',K v h' nx'∧eG ι' nx' v∧aO ι' B h' nx' w'∧fQ B w w'∧(∀ k,k<nx→ι' k=ι k)∧nx≤nx'∧(do pure (.value (← m)):Sem Next).run P w=.ok (.value (tr ι' v)) w':=by
 obtain⟨v,h',nx',ι',w',h1,h2,h3,h4,h5,h6,h7⟩:=h;exact⟨v,h',nx',ι',w',h1,h2,h3,h4,h5,h6,by simp only [Sem.run_bind,h7,Result.andThen_ok,Sem.run_pure]⟩
theorem u7 (hT:cA P T){ι:Nat→Loc}{B nx:Nat}{w:World}{h:Heap}{env:List (Nat × Value)}{a:Act}(he:cT ι nx env a)(H:aO ι B h nx w){o:Oper}{K:KE}
  (hl:iH aG T env h o.op (fun v=>K v h nx)):WL P ι B nx w (execOp a.eval o) K:=by
 obtain⟨v,h1,h2,h3⟩:=D2 hT he hl H;exact upon_value ⟨v,h,nx,ι,w,h1,h2,H,fQ.refl _ _,fun _ _=>rfl,Nat.le_refl _,h3 w H⟩
theorem gF:∀ {l:List Value},nU l=true→∀ v∈l,∃ p,v=.pointer (some p)
 |[],_,v,hv=>by cases hv
 |x::r,h,v,hv=>by
  unfold nU at h;split at h
  ·rename_i heq;cases heq
  ·rename_i p r' heq;injection heq with e1 e2;subst e1;subst e2;rcases List.mem_cons.1 hv with rfl|hv
   ·exact⟨_,rfl⟩
   ·exact gF h v hv
  ·cases h
theorem AX {env:List (Nat × Value)}{h:Heap}{nx:Nat}{op:Op}{K:KE}(hl:oZ aG T C Y env h nx op K):∀ c,op≠.defer c:=by
 rintro c rfl;exact hl.elim
theorem QR (hT:cA P T)(hC:bF P C)(hY:dW P Y){ι:Nat→Loc}{B nx:Nat}{w:World}{h:Heap}{env:List (Nat × Value)}{a:Act}(he:cT ι nx env a)(H:aO ι B h nx w){o:Oper}{K:KE}
  (hl:oZ aG T C Y env h nx o.op K):WL P ι B nx w (execOp a.eval o) K:=by
 have hl':=hl;obtain⟨dst,op,ty,pos,after,guard⟩:=o;simp only at hl;cases op
 case store t x y =>
  simp only [oZ] at hl;obtain⟨p,hp,hl⟩:=cR hl;obtain⟨v,hv,hl⟩:=cR hl;obtain⟨e1,e2⟩:=he.cU hp;obtain⟨e3,e4⟩:=he.cU hv;obtain⟨h',w',h1,h2,h3,h4⟩:=XJ (P:=P) hT hl e4 H;exact upon_skip ⟨h',w',h1,h2,h3,by simp only [execOp,e1,e3,Sem.run_bind,h4,Result.andThen_ok,Sem.run_pure]⟩
 case alloc t =>
  simp only [oZ] at hl;exact upon_value (jE (WB hT hl H))
 case box t x =>
  simp only [oZ] at hl;obtain⟨v,hv,hl⟩:=cR hl;obtain⟨e3,e4⟩:=he.cU hv;have:=jE (aDu (P:=P) (t:=t) hl e4 H);rw [← e3] at this;exact upon_value this
 case buildSlice t n ps =>
  simp only [oZ] at hl;split at hl
  case h_2=>exact hl.elim
  rename_i l hps;obtain⟨e1,e2⟩:=pW he hps;have:=jE (DW (P:=P) hT hl e2 H);have e3:(ps.map fun p=>(p.1,a.eval p.2))=(l.map fun p=>(p.1,tr ι p.2)).toArray:=by
   apply Array.ext';simpa using e1
  rw [← e3] at this;exact upon_value this
 case slice t x lo hi mx =>
  simp only [oZ] at hl;obtain⟨v,hv,hl⟩:=cR hl;obtain⟨e3,e4⟩:=he.cU hv;split at hl
  case h_2=>exact hl.elim
  rename_i l u m h1 h2 h3;obtain⟨v',h',nx',ι',k1,k2,k3,k4,k5⟩:=G7 hT hl e4 H;obtain⟨k6,k7⟩:=k5 w H;rw [← kB he h1,← kB he h2,← kB he h3,← e3] at k7;refine upon_value ⟨v',h',nx',ι',w,k1,k2,k6,fQ.refl _ _,k3,k4,?_⟩;simp only [execOp,Sem.run_bind,k7,Result.andThen_ok,Sem.run_pure]
 case makeSlice t l c =>
  simp only [oZ] at hl;obtain⟨x,hx,hl⟩:=cR hl;obtain⟨y,hy,hl⟩:=cR hl;obtain⟨e1,e2⟩:=he.cU hx;obtain⟨e3,e4⟩:=he.cU hy;have:=jE (F7 (P:=P) hT hl H);rw [← e1,← e3] at this;exact upon_value this
 case makeMap t r =>
  cases r with
  |none =>
   simp only [oZ] at hl;exact upon_value (jE (MN hl H))
  |some r=>simp only [oZ] at hl;exact u7 (h:=h) hT he H (o:=⟨dst,_,ty,pos,after,guard⟩) hl
 case lookup t m k ok =>
  simp only [oZ] at hl;obtain⟨x,hx,hl⟩:=cR hl;obtain⟨y,hy,hl⟩:=cR hl;obtain⟨e1,e2⟩:=he.cU hx;obtain⟨e3,e4⟩:=he.cU hy;obtain⟨v,h1,h2,h3⟩:=E1 (P:=P) hT hl e2 H;have:=h3 w H;rw [← e1,← e3] at this;exact upon_value ⟨v,h,nx,ι,w,h1,h2,H,fQ.refl _ _,fun _ _=>rfl,Nat.le_refl _,by simp only [execOp,Sem.run_bind,this,Result.andThen_ok,Sem.run_pure]⟩
 case mapUpdate t m k u =>
  simp only [oZ] at hl;obtain⟨x,hx,hl⟩:=cR hl;obtain⟨y,hy,hl⟩:=cR hl;obtain⟨v,hv,hl⟩:=cR hl;obtain⟨e1,e2⟩:=he.cU hx;obtain⟨e3,e4⟩:=he.cU hy;obtain⟨e5,e6⟩:=he.cU hv;obtain⟨h',w',h1,h2,h3,h4⟩:=GP (P:=P) hT hl e2 e6 H;rw [← e1,← e3,← e5] at h4;exact upon_skip ⟨h',w',h1,h2,h3,by simp only [execOp,Sem.run_bind,h4,Result.andThen_ok,Sem.run_pure]⟩
 case call c =>
  obtain⟨cal,args,ats⟩:=c;simp only [oZ] at hl;cases cal with
  |invoke r m=>exact hl.elim
  |builtin b =>
   by_cases hb1:b=.append
   ·subst hb1;simp only at hl;split at hl
    case h_2=>exact hl.elim
    rename_i st xt s x hts hvs;obtain⟨e1,e2⟩:=kG he hvs;have:=jE (QJ (P:=P) (ty:=ty) hT hl (e2 s (by simp)) (e2 x (by simp)) H);obtain⟨ats⟩:=ats;simp only at hts;subst hts;have e3:args.map a.eval=#[tr ι s,tr ι x]:=by
     apply Array.ext';simpa using e1
    rw [← e3] at this;exact upon_value this
   ·by_cases hb2:b=.clear
    ·subst hb2;simp only at hl;split at hl
     case h_2=>exact hl.elim
     rename_i t x hts hvs;obtain⟨e1,e2⟩:=kG he hvs;have:=jE (WG (P:=P) (ty:=ty) hT hl (e2 x (by simp)) H);obtain⟨ats⟩:=ats;simp only at hts;subst hts;have e3:args.map a.eval=#[tr ι x]:=by
      apply Array.ext';simpa using e1
     rw [← e3] at this;exact upon_value this
    ·have hl2:iH aG T env h (.call { callee:=.builtin b,args:=args,argTypes:=ats }) (fun v=>K v h nx):=by
      cases b <;> first|exact hl|exact absurd rfl hb1|exact absurd rfl hb2
     exact u7 hT he H (o:=⟨dst,_,ty,pos,after,guard⟩) hl2
  |value f =>
   simp only at hl;obtain⟨fv,hfv,hl⟩:=cR hl;obtain⟨e1,e2⟩:=he.cU hfv;split at hl
   case h_2=>exact hl.elim
   rename_i l hvs;obtain⟨e3,e4⟩:=kG he hvs;have hargs:args.map a.eval=(l.map (tr ι)).toArray:=by
    apply Array.ext';simpa using e3
   split at hl
   ·rename_i g first cap;split at hl
    case h_2=>exact hl.elim
    rename_i hfirst hcap;obtain⟨first⟩:=first;simp only at hfirst;subst hfirst;obtain⟨⟨fn,hfn,hbody,hname⟩,hcalls⟩:=hC g _ h nx K hl ι B w H (by
     intro v hv;rcases List.mem_append.1 hv with hv|hv
     ·exact e4 v hv
     ·have:=gF hcap v hv;obtain⟨p,rfl⟩:=this;exact e2.2 _ hv)
    have hcapm:cap.map (dU ι)=(cap.toList.map (tr ι)).toArray:=by
     apply Array.ext';simp only [Array.toList_map];apply List.map_congr_left;intro v hv;obtain⟨p,rfl⟩:=gF hcap v hv;rfl
    have hrun:(execOp a.eval ⟨dst,.call ⟨.value f,args,ats⟩,ty,pos,after,guard⟩).run P w=.ok (.enter g ((l++cap.toList).map (tr ι)).toArray) w:=by
     obtain⟨bdy,hb'⟩:=Option.isSome_iff_exists.1 hbody;have hname' : fn.name ≠ "runtime.NumGoroutine" := (by simpa using hname);simp [execOp,resolve,e1,tr,dS,bQ,m7,Deferred.ofValue,invoke,callFunc,hfn,hname',hb',hargs,hcapm]
    exact .inr (.inr (.inl ⟨_,_,hrun,hcalls⟩))
   ·rename_i q first cap;split at hl
    case h_2=>exact hl.elim
    rename_i hfirst;obtain⟨first⟩:=first;simp only at hfirst;subst hfirst;have hq:q<nx∧(ι q).gC=true:=e2.1;cases hι:ι q with
    |nil p=>rw [hι] at hq;cases hq.2
    |lay b o ex =>
     obtain⟨f',tmps,as,bd,hy,hround⟩:=hY q l h nx K hl ι B w H e4 b o ex hι;have hrun:(execOp a.eval ⟨dst,.call ⟨.value f,args,ats⟩,ty,pos,after,guard⟩).run P w=.ok (.round b f' tmps as bd) w:=by
      simp [execOp,resolve,e1,tr,dS,bQ,m7,hι,Deferred.ofValue,invoke,hargs,hy]
     exact .inr (.inr (.inr ⟨_,_,_,_,_,hrun,hround⟩))
   ·exact hl.elim
 all_goals (simp only [oZ] at hl;exact u7 hT he H (o:=⟨dst,_,ty,pos,after,guard⟩) hl)
end
section
variable {P:Program}{T:cF}{C:VC}{Y:VY}{B:Nat}{w0:World}{ι0:Nat→Loc}{nx0 tn:Nat}{ds:List Deferred}
theorem Inv.step {ι ι':Nat→Loc}{env env':List (Nat × Value)}{h h':Heap}{nx nx':Nat}{a a':Act}{w w':World}(I:Inv B w0 ι0 nx0 tn ds ι env h nx a w)(he:cT ι' nx' env' a')(H:aO ι' B h' nx' w')(hb:fQ B w w')
  (hi:∀ k,k<nx→ι' k=ι k) (hn:nx≤nx') (hs:a'.tmps.size=tn) (hd:a'.defers=a.defers):Inv B w0 ι0 nx0 tn ds ι' env' h' nx' a' w' :=
 ⟨he,H,I.below.trans hb,fun k hk=>(hi k (Nat.lt_of_lt_of_le hk I.le)).trans (I.old k hk),Nat.le_trans I.le hn,hs,hd.trans I.defers⟩
theorem J8 (hT:cA P T)(hC:bF P C)(hY:dW P Y)(r:Option Nat){ops:Array Oper}{Q:Exit→Act→World→Prop}{K:KS}:∀ (l:List Oper) (ι:Nat→Loc) (env:List (Nat × Value)) (h:Heap) (nx:Nat) (a:Act) (w:World),
  yK aG T C Y tn ops.toList l env h nx K→Inv B w0 ι0 nx0 tn ds ι env h nx a w →
  (∀ ι' env' h' nx' a' w',K env' h' nx'→Inv B w0 ι0 nx0 tn ds ι' env' h' nx' a' w'→Q .normal a' w')→wpListIn (Fr r) 0 P ops Q l a w
 |[],ι,env,h,nx,a,w,hl,I,hQ=>hQ ι env h nx a w hl I
 |o::rest,ι,env,h,nx,a,w,hl,I,hQ=>by
  simp only [G6] at hl;obtain⟨env1,he1,hcase⟩:=tA I.env hl;simp only [wpListIn];rcases hcase with ⟨hw,hl⟩|⟨hw,hl⟩
  ·rw [if_pos hw];refine (QR hT hC hY he1 I.heap hl).upon (AX hl) rfl r _ _ fun v h' nx' ι' w' k1 k2 k3 k4 k5 k6=>?_;obtain⟨env2,k7,k8,k9,k10⟩:=nG (he1.names k6 k5) I.size k1 k2;exact J8 hT hC hY r rest ι' env2 h' nx' _ w' k7 (I.step k8 k3 k4 k5 k6 k9 k10) hQ
  ·rw [hw];refine⟨fun _ _=>trivial,?_⟩;obtain⟨env2,k7,k8,k9,k10⟩:=nG he1 I.size hl (v:=undef) (dD rfl);rw [fU (show gT undef=true from rfl)] at k8 k9 k10;exact J8 hT hC hY r rest ι env2 h nx _ w k7 (I.step k8 I.heap (fQ.refl _ _) (fun _ _=>rfl) (Nat.le_refl _) k9 k10) hQ
end
def aS.closed:aS→aS
 |.cells _ g sz cs=>.cells false g sz cs
 |.zero=>.zero
 |_=>.cells false false 1 []
def dT:Heap→Heap
 |[]=>[]
 |(k,o)::r=>(k,o.closed)::dT r
theorem jD (h:Heap)(k:Nat):look (dT h) k=(look h k).map aS.closed:=by
 induction h with
 |nil=>rfl
 |cons x r ih =>
  obtain⟨j,o⟩:=x;simp only [dT,aB];split
  ·rfl
  ·exact ih
def dM (C:VC):Prop:=∀ f args h nx K,C f args h nx K→∃ v h' nx',K v h' nx'∧∀ K':KE,K' v h' nx'→C f args h nx K'
def gK (A:Ar)(T:cF)(C:VC)(hJ:Heap)(nx:Nat)(env:List (Nat × Value))(op:Op)(K:Value→Nat→Prop):Prop :=
 match op with
 |.load _ _=>iH A T env hJ op (fun v=>K v nx)
 |.lookup t m k ok=>on (cU env m) fun x=>on (cU env k) fun y=>nC A T hJ t x y ok (fun v=>K v nx)
 |.slice t x lo hi mx=>on (cU env x) fun v=>(match j7 env lo,j7 env hi,j7 env mx with
  |some l,some u,some m=>rF A T hJ nx t v l u m (fun v _ nx'=>K v nx')
  |_,_,_=>False)
 |.call c=>(match c.callee with
  |.builtin _=>iH A T env [] op (fun v=>K v nx)
  |.value f=>on (cU env f) fun fv=>(match j5 env c.args.toList with
   |some l=>(match fv with
    |.func (.func g) first cap=>(match first.toList,nU cap.toList with
     |[],true=>C g (l++cap.toList) (dT hJ) nx (fun v _ _=>match gT v with|true=>K v nx|false=>False)
     |_,_=>False)
    |_=>False)
   |none=>False)
  |_=>False)
 |_=>iH A T env [] op (fun v=>K v nx)
def kC:Op→Bool
 |.load _ _=>false
 |.lookup _ _ _ _=>false
 |.slice _ _ _ _ _=>false
 |.call c=>(match c.callee with|.builtin _=>true|_=>false)
 |_=>true
def mF:Op→Bool
 |.lookup _ _ _ _=>true
 |.call c=>(match c.callee with|.builtin _=>false|_=>true)
 |_=>false
section
variable {P:Program}{T:cF}{C:VC}{Y:VY}{ι:Nat→Loc}{B nx:Nat}
theorem aO.shut {h:Heap}{w:World}(H:aO ι B h nx w):aO ι w.heap.size (dT h) nx w:=by
 have key:∀ k o',look (dT h) k=some o'→∃ o,look h k=some o∧o'=o.closed:=fun k o' hk=>by
  rw [jD] at hk;cases hl:look h k with
  |none=>rw [hl] at hk;cases hk
  |some o=>rw [hl] at hk;injection hk with hk;exact⟨o,rfl,hk.symm⟩
 refine⟨fun k o' hk=>?_,fun k k' o o' h1 h2 hne ha=>?_,fun k o' hk=>?_,Nat.le_refl _,fun k o' hk=>?_⟩
 ·obtain⟨o,hk',rfl⟩:=key k o' hk;have ho:=H.obj k o hk';cases hι:ι k with
  |nil p =>
   rw [hι] at ho;cases o with
   |cells wr g sz cs=>exact⟨ho.1,fun h=>ho.2 (h.elim .inl (fun h=>by cases h))⟩
   |zero=>exact ho
   |_=>exact ho.elim
  |lay b off e =>
   have hb:=ho.lt (b:=b) (by rw [hι];rfl);rw [hι] at ho;cases o with
   |cells wr g sz cs =>
    cases wr with
    |false=>exact ho
    |true =>
     obtain⟨_,hg,arr,t,h1,h2,h3⟩:=ho;exact⟨hb,hg,fun i v hv=>by simp [World.cell?,h1,h3 i v hv]⟩
   |zero=>exact ho
   |_=>exact⟨hb,(fun h=>(by cases h)),(fun i v hv=>(by simp at hv))⟩
 ·obtain⟨o1,h1,rfl⟩:=key k o h1;cases o1 <;> cases ha
 ·obtain⟨o,hk',rfl⟩:=key k o' hk;exact H.low k o hk'
 ·obtain⟨o,hk',rfl⟩:=key k o' hk;have:=H.sc k o hk';cases o with
  |cells wr g sz cs=>exact this
  |zero=>trivial
  |_=>intro v hv;cases hv
def aCX (P:Program)(m:Sem Next)(w:World)(u:Value):Prop :=
 m.run P w=.ok (.value u) w∨∃ f args,m.run P w=.ok (.enter f args) w∧CallsIn Fence.wide 0 P f args w fun e w'=>e=.returned u∧fQ w.heap.size w w'
theorem aO.none {w:World}(h:B≤w.heap.size):aO ι B [] nx w :=
 ⟨fun k o hk=>(by cases hk),fun k k' o o' hk=>(by cases hk),fun k o hk=>(by cases hk),h,fun k o hk=>(by cases hk)⟩
def lG (op:Op)(hJ:Heap):Heap:=match kC op with|true=>[]|false=>hJ
theorem VK (hT:cA P T)(hC:bF P C)(hD:dM C){hJ:Heap}{env:List (Nat × Value)}{a:Act}(he:cT ι nx env a){w0:World}(H0:aO ι B hJ nx w0){o:Oper}{K:Value→Nat→Prop}
  (hl:gK aG T C hJ nx env o.op K) :
  ∃ v nx' ι',K v nx'∧eG ι' nx' v∧(∀ k,k<nx→ι' k=ι k)∧nx≤nx'∧∀ w,aO ι B (lG o.op hJ) nx w→(mF o.op=true→fQ w0.heap.size w0 w)→aCX P (execOp a.eval o) w (tr ι' v):=by
 obtain⟨dst,op,ty,pos,after,guard⟩:=o;simp only at hl;have hpure:∀ K:Value→Nat→Prop,kC op=true→iH aG T env [] op (fun v=>K v nx)→∃ v nx' ι',K v nx'∧eG ι' nx' v∧(∀ k,k<nx→ι' k=ι k)∧nx≤nx'∧∀ w,aO ι B (lG op hJ) nx w→(mF op=true→fQ w0.heap.size w0 w)→aCX P (execOp a.eval ⟨dst,op,ty,pos,after,guard⟩) w (tr ι' v):=by
  intro K hp hl;obtain⟨v,h1,h2,h3⟩:=D2 (P:=P) (h:=[]) (B:=B) (w0:=w0) hT he (o:=⟨dst,op,ty,pos,after,guard⟩) hl (aO.none H0.size);refine⟨v,nx,ι,h1,h2,fun _ _=>rfl,Nat.le_refl _,fun w H _=>.inl (h3 w ?_)⟩;simpa [lG,hp] using H
 cases op
 case load t x =>
  simp only [gK] at hl;obtain⟨v,h1,h2,h3⟩:=D2 (P:=P) hT he (o:=⟨dst,_,ty,pos,after,guard⟩) hl H0;exact⟨v,nx,ι,h1,h2,fun _ _=>rfl,Nat.le_refl _,fun w H _=>.inl (h3 w (by simpa [lG,kC] using H))⟩
 case lookup t m k ok =>
  simp only [gK] at hl;obtain⟨x,hx,hl⟩:=cR hl;obtain⟨y,hy,hl⟩:=cR hl;obtain⟨e1,e2⟩:=he.cU hx;obtain⟨e3,e4⟩:=he.cU hy;obtain⟨v,h1,h2,h3⟩:=E1 (P:=P) hT hl e2 H0;refine⟨v,nx,ι,h1,h2,fun _ _=>rfl,Nat.le_refl _,fun w H _=>.inl ?_⟩;have:=h3 w (by simpa [lG,kC] using H);rw [← e1,← e3] at this;simp only [execOp,Sem.run_bind,this,Result.andThen_ok,Sem.run_pure]
 case slice t x lo hi mx =>
  simp only [gK] at hl;obtain⟨v,hv,hl⟩:=cR hl;obtain⟨e3,e4⟩:=he.cU hv;split at hl
  case h_2=>exact hl.elim
  rename_i l u m h1 h2 h3;obtain⟨v',h',nx',ι',k1,k2,k3,k4,k5⟩:=G7 hT hl e4 H0;refine⟨v',nx',ι',k1,k2,k3,k4,fun w H hb=>.inl ?_⟩;obtain⟨k6,k7⟩:=k5 w (by simpa [lG,kC] using H);rw [← kB he h1,← kB he h2,← kB he h3,← e3] at k7;simp only [execOp,Sem.run_bind,k7,Result.andThen_ok,Sem.run_pure]
 case call c =>
  obtain⟨cal,args,ats⟩:=c;simp only [gK] at hl;cases cal with
  |invoke r m=>exact hl.elim
  |builtin b=>exact hpure K rfl hl
  |value f =>
   simp only at hl;obtain⟨fv,hfv,hl⟩:=cR hl;obtain⟨e1,e2⟩:=he.cU hfv;split at hl
   case h_2=>exact hl.elim
   rename_i l hvs;obtain⟨e3,e4⟩:=kG he hvs;have hargs:args.map a.eval=(l.map (tr ι)).toArray:=by
    apply Array.ext';simpa using e3
   split at hl
   case h_2=>exact hl.elim
   rename_i g first cap;split at hl
   case h_2=>exact hl.elim
   rename_i hfirst hcap;obtain⟨first⟩:=first;simp only at hfirst;subst hfirst;obtain⟨v,h',nx',k1,k2⟩:=hD _ _ _ _ _ hl;split at k1
   case h_2=>exact k1.elim
   rename_i hg;refine⟨v,nx,ι,k1,dD hg,fun _ _=>rfl,Nat.le_refl _,fun w H _=>.inr ?_⟩;have H:aO ι B hJ nx w:=(by simpa [lG,kC] using H);have hl':=k2 (fun v' _ _=>v'=v) rfl;obtain⟨⟨fn,hfn,hbody,hname⟩,hcalls⟩:=hC g _ _ nx _ hl' ι w.heap.size w H.shut (by
    intro v hv;rcases List.mem_append.1 hv with hv|hv
    ·exact e4 v hv
    ·obtain⟨p,rfl⟩:=gF hcap v hv;exact e2.2 _ hv)
   have hcapm:cap.map (dU ι)=(cap.toList.map (tr ι)).toArray:=by
    apply Array.ext';simp only [Array.toList_map];apply List.map_congr_left;intro v hv;obtain⟨p,rfl⟩:=gF hcap v hv;rfl
   refine⟨g,((l++cap.toList).map (tr ι)).toArray,?_,?_⟩
   ·obtain⟨bdy,hb'⟩:=Option.isSome_iff_exists.1 hbody;have hname' : fn.name ≠ "runtime.NumGoroutine" := (by simpa using hname);simp [execOp,resolve,e1,tr,dS,bQ,m7,Deferred.ofValue,invoke,callFunc,hfn,hname',hb',hargs,hcapm]
   ·refine CallsIn.mono hcalls fun e w' hret=>?_;cases e with
    |returned u =>
     obtain⟨v',h'',nx'',ι',rfl,k2,k3,k4,k5,k6,rfl⟩:=hret;exact⟨by rw [fU hg,fU hg],k4⟩
    |panicked c=>exact hret.elim
    |outgrown=>exact hret.elim
 all_goals exact hpure K rfl hl
end
end Go.Aw
end
