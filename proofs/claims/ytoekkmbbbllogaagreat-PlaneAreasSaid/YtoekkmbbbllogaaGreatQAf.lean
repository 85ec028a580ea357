/-
  Parts of a proof. No condition.
-/
import Derived.Test.YtoekkmbbbllogaaGreatQAe
import Derived.ChangeMaps3
import Derived.Maps.RangeRun
set_option linter.unusedSimpArgs false
set_option linter.unusedVariables false
noncomputable section
namespace Go.Aw
open Go.RowKit
def keyFields (T:Tab)(cs:List Value):List (Nat × TypeId)→Bool
 |[]=>true
 |(o,t)::r=>match look T t,nth cs o with
  |some fi,some _=>(match fi.kind with
   |.int _=>keyFields T cs r
   |.bool=>keyFields T cs r
   |_=>false)
  |_,_=>false
def vfind (A:Ar)(T:Tab)(kt:TypeId)(key:Value):List (Value × Value)→Option (Option Value)
 |[]=>some none
 |(k,v)::r=>match veq A T 100 kt key k with
  |none=>none
  |some true=>some (some v)
  |some false=>vfind A T kt key r
def vmakeMap (h:Heap)(nx:Nat)(K:KE):Prop:=K (.map (some nx)) (hput h nx (.map [])) (nx+1)
def KeysP (A:Ar)(N:Nat)(es:List (Value × Value)):Prop:=∀ e∈es,∃ cs:Array Value,e.1=.agg cs∧cs.size=N∧keyB A cs.toList=true
def vkey (A:Ar)(N:Nat)(es:List (Value × Value))(cs:Array Value)(F:Nat→Value→Prop)(G:Prop):Prop :=
 KeysP A N es∧(cs.size=N∧keyB A cs.toList=true)∧((∃ i v,es[i]? = some (.agg cs,v)∧(∀ j u,es[j]? = some (.agg cs,u)→j=i)∧F i v)∨((∀ e∈es,e.1≠.agg cs)∧G))
def isSc (v:Value):Bool:=match v with|.agg _=>false|.tuple _=>false|_=>true
def vlookup (A:Ar)(T:Tab)(h:Heap)(t:TypeId)(x key:Value)(ok:Bool)(K:Value→Prop):Prop :=
 match look T t,x,key with
 |some { kind:=.mp kt et,.. },.map (some k),.agg cs =>
  (match look T kt,look T et,look h k with
  |some { kind:=.st fs,.. },some ei,some (.map es) =>
   (match keyFields T cs.toList fs,allG cs.toList,vfind A T kt (.agg cs) es with
   |true,true,some r =>
    (match ok,r with
    |true,some v=>K (.tuple #[v,.bool true])
    |true,none=>K (.tuple #[ei.zv,.bool false])
    |false,some v=>K v
    |false,none=>K ei.zv)
   |_,_,_=>False)
  |_,_,_=>False)
 |some { kind:=.mpk kt et,.. },.map (some k),.agg cs =>
  (match look T kt,look T et,look h k with
  |some ki,some ei,some (.map es)=>vkey A ki.size es cs (fun _ v=>(match ok with|true=>K (.tuple #[v,.bool true])|false=>K v)) (match ok with|true=>K (.tuple #[ei.zv,.bool false])|false=>K ei.zv)
  |_,_,_=>False)
 |_,_,_=>False
def vmapUpdate (A:Ar)(T:Tab)(h:Heap)(nx:Nat)(t:TypeId)(x key v:Value)(K:KE):Prop :=
 match look T t,x,key,(match v with|.agg _=>false|.tuple _=>false|_=>true) with
 |some { kind:=.mp kt _,.. },.map (some k),.agg cs,true =>
  (match look T kt,look h k with
  |some { kind:=.st fs,.. },some (.map es) =>
   (match keyFields T cs.toList fs,allG cs.toList,vfind A T kt (.agg cs) es with
   |true,true,some none=>K undef (upd h k (.map (es++[(.agg cs,v)]))) nx
   |_,_,_=>False)
  |_,_=>False)
 |some { kind:=.mpk kt _,.. },.map (some k),.agg cs,true =>
  (match look T kt,look h k with
  |some ki,some (.map es)=>vkey A ki.size es cs (fun i _=>K undef (upd h k (.map (es.set i (.agg cs,v)))) nx) (K undef (upd h k (.map (es++[(.agg cs,v)]))) nx)
  |_,_=>False)
 |_,_,_,_=>False
def vmapEntry (A:Ar)(T:Tab)(h:Heap)(nx:Nat)(t:TypeId)(x key:Value)(K:KE):Prop :=
 match look T t,x,key with
 |some { kind:=.mpk kt et,.. },.map (some k),.agg cs =>
  (match look T kt,look T et,look h k with
  |some ki,some ei,some (.map es)=>(match isSc ei.zv with
   |true=>vkey A ki.size es cs (fun i v=>K (.tuple #[v,.int .i64 i]) h nx) (K (.tuple #[ei.zv,.int .i64 es.length]) (upd h k (.map (es++[(.agg cs,ei.zv)]))) nx)
   |false=>False)
  |_,_,_=>False)
 |_,_,_=>False
def ventryStore (h:Heap)(nx:Nat)(x s v:Value)(K:KE):Prop :=
 match x,s,isSc v with
 |.map (some k),.int .i64 st,true=>(match look h k with
  |some (.map es)=>∃ i p,st=((i:Nat):Int)∧es[i]? = some p∧K undef (upd h k (.map (es.set i (p.1,v)))) nx
  |_=>False)
 |_,_,_=>False
def vmrange (T:Tab)(h:Heap)(nx:Nat)(t:TypeId)(x:Value)(K:KE):Prop :=
 match look T t,x with
 |some { kind:=.mpk _ _,.. },.map (some k)=>(match look h k with
  |some (.map es)=>K (.pointer (some ⟨nx,0,none⟩)) (hput h nx (.iter k es.length es.length [])) (nx+1)
  |_=>False)
 |_,_=>False
def vnext (h:Heap)(nx:Nat)(x:Value)(K:KE):Prop :=
 match x with
 |.pointer (some ⟨q,0,none⟩)=>(match look h q with
  |some (.iter k s t seen)=>(match look h k with
   |some (.map es)=>(s=es.length∧t=es.length)∧(∀ i e,es[i]? = some e→i∉seen→K (.tuple #[.bool true,e.1,e.2]) (upd h q (.iter k s es.length (seen++[i]))) nx)∧((∀ i,i<es.length→i∈seen)→K (.tuple #[.bool false]) h nx)
   |_=>False)
  |_=>False)
 |_=>False
def vclear (T:Tab)(h:Heap)(nx:Nat)(t:TypeId)(x:Value)(K:KE):Prop :=
 match look T t,x with
 |some { kind:=.sl _,.. },.slice none 0 0=>K (.tuple #[]) h nx
 |some { kind:=.sl e,.. },.slice (some ⟨k,o,none⟩) n _ =>
  (match n with
  |0=>K (.tuple #[]) h nx
  |_=>(match look T e,look h k with
   |some ei,some (.cells true _ sz cs)=>must (Nat.ble (o+n*ei.size) cs.length) (K (.tuple #[]) (upd h k (.cells true false sz (putN cs o (rep n ei.zv.cells.toList)))) nx)
   |_,_=>False))
 |_,_=>False
section
variable {P:Program}{T:Tab}{ι:Nat→Loc}{B nx:Nat}{h:Heap}
theorem checkKey_ok (hT:TabOK P T){t:TypeId}{fs:List (Nat × TypeId)}{s1 b1:Nat}{z1:Value}(ht:look T t=some ⟨.st fs,s1,b1,z1⟩){cs:Array Value}(hk:keyFields T cs.toList fs=true)(em:Bool)(d:Nat)(w:World) :
  (Instr.checkKey em (d+2) t (.agg cs)).run P w=.ok () w:=by
 have hti:=hT t _ ht
 obtain⟨f,hd,hfs,hn⟩:=hti.st rfl
 rw [show d+2=(d+1)+1 from rfl,Instr.checkKey]
 simp only [Sem.run_bind,run_underlying hd,Result.andThen_ok]
 rw [← Array.forIn_toList]
 subst hfs
 clear hd ht hti
 generalize f.toList=L at hk hn
 induction L with
 |nil=>simp
 |cons x L ih =>
  have hname : x.name ≠ "_" := hn x (by simp)
  simp only [List.map_cons,keyFields] at hk
  split at hk
  case h_2=>cases hk
  rename_i fi v hfi hv
  have hleaf:(∃ d,P.underlying x.type=some d∧((∃ k,d=.int k)∨d=.bool))∧fi.isAgg=false∧keyFields T cs.toList (L.map fun f=>(f.offset,f.type))=true:=by
   split at hk
   ·rename_i k hki
    exact⟨⟨_,(hT _ _ hfi).int hki,.inl ⟨_,rfl⟩⟩,by simp [TyI.isAgg,hki],hk⟩
   ·rename_i hki
    exact⟨⟨_,(hT _ _ hfi).bool hki,.inr rfl⟩,by simp [TyI.isAgg,hki],hk⟩
   ·cases hk
  obtain⟨⟨dd,hdd,hdk⟩,hagg,hk'⟩:=hleaf
  have e1:=run_part_one (P:=P) hT hfi hagg hv w
  simp only [Array.toArray_toList] at e1
  have e2:(Instr.checkKey em (d+1) x.type v).run P w=.ok () w:=by
   rw [Instr.checkKey]
   simp only [Sem.run_bind,run_underlying hdd,Result.andThen_ok]
   rcases hdk with ⟨k,rfl⟩|rfl <;> simp
  simp only [List.forIn_cons,Sem.run_bind,hname,ne_eq,not_false_eq_true,if_true,e1,Result.andThen_ok,e2,Sem.run_pure]
  exact ih hk' (fun y hy=>hn y (by simp [hy]))
theorem findAsking_ok (hT:TabOK P T){kt:TypeId}{key:Value}:∀ (ents:List MapEntry) (es:List (Value × Value)) (f:Value→Value) (r:Option Value) (i:Nat),(∀ e∈es,gA e.1=true) →
  ents.map (fun e=>(e.key,e.val))=es.map (fun e=>(e.1,f e.2))→vfind std T kt key es=some r→∀ w,
  ∃ j,(Instr.findAsking kt key ents i).run P w=.ok (r.map fun v=>(j,f v)) w
 |[],es,f,r,i,hg,he,hr,w=>by
  cases es with
  |nil=>simp [vfind] at hr;subst hr;exact⟨0,by simp [Instr.findAsking]⟩
  |cons a b=>simp at he
 |e::ents,es,f,r,i,hg,he,hr,w=>by
  cases es with
  |nil=>simp at he
  |cons a es =>
   obtain⟨k,v⟩:=a
   simp only [List.map_cons,List.cons.injEq,Prod.mk.injEq] at he
   obtain⟨⟨he1,he2⟩,he3⟩:=he
   simp only [vfind] at hr
   split at hr
   ·cases hr
   ·rename_i hq
    have:(Op.equal kt key k).run P w=.ok _ w:=veq_ok (P:=P) hT 100 _ _ _ _ hq 10000 (by omega) w
    injection hr with hr
    subst hr
    refine⟨i,?_⟩
    simp only [Instr.findAsking,Sem.run_bind,he1,this,Result.andThen_ok,if_true,Sem.run_pure,he2,Option.map_some]
   ·rename_i hq
    have:(Op.equal kt key k).run P w=.ok _ w:=veq_ok (P:=P) hT 100 _ _ _ _ hq 10000 (by omega) w
    obtain⟨j,hj⟩:=findAsking_ok hT ents es f r (i+1) (fun e he=>hg e (by simp [he])) he3 hr w
    refine⟨j,?_⟩
    simp only [Instr.findAsking,Sem.run_bind,he1,this,Result.andThen_ok,Bool.false_eq_true,if_false,hj]
theorem findKey_ok (hT:TabOK P T){kt:TypeId}{fs:List (Nat × TypeId)}{s1 b1:Nat}{z1:Value}(ht:look T kt=some ⟨.st fs,s1,b1,z1⟩){key:Value}{ents:List MapEntry}{es:List (Value × Value)}{f:Value→Value}{r:Option Value}(hg:∀ e∈es,gA e.1=true)
  (he:ents.map (fun e=>(e.key,e.val))=es.map (fun e=>(e.1,f e.2))) (hr:vfind std T kt key es=some r) (w:World) :
  ∃ j,(Instr.findKey kt key ents).run P w=.ok (r.map fun v=>(j,f v)) w:=by
 obtain⟨fl,hd,_,_⟩:=(hT kt _ ht).st rfl
 cases ents with
 |nil =>
  cases es with
  |nil=>simp [vfind] at hr;subst hr;exact⟨0,by simp [Instr.findKey,run_underlying hd,Instr.findNow]⟩
  |cons a b=>simp at he
 |cons e ents =>
  obtain⟨j,hj⟩:=findAsking_ok hT (e::ents) es f r 0 hg he hr w
  exact⟨j,by simp [Instr.findKey,run_underlying hd,Instr.findNow,Instr.sameNow,hj]⟩
theorem push_born {ents:Array MapEntry}{clock:Nat}{k v:Value}(hc:clock=ents.size)(hb:∀ (i:Nat) x,ents.toList[i]? = some x→x.born=i):∀ (i:Nat) x,(ents.push ⟨k,v,clock⟩).toList[i]? = some x→x.born=i:=by
 intro i x hx
 rw [Array.toList_push] at hx
 rcases Nat.lt_or_ge i ents.toList.length with h|h
 ·rw [List.getElem?_append_left h] at hx
  exact hb i x hx
 ·rw [List.getElem?_append_right h] at hx
  have hl:ents.toList.length=clock:=by rw [hc];simp
  cases hd:i - ents.toList.length with
  |zero =>
   rw [hd] at hx
   injection hx with hx
   subst hx
   show clock=i
   omega
  |succ n=>rw [hd] at hx;simp at hx
theorem vmakeMap_ok {t:TypeId}{K:KE}(hl:vmakeMap h nx K){w:World}(H:RelH ι B h nx w):Does P ι B nx w (Instr.makeMap t none) K:=by
 have hf:=H.new (.map #[] 0) (.map []) ⟨H.size,#[],0,(MapKept.heap_alloc w _).1,by simp,by simp,rfl,by simp⟩ (by intro e he;cases he)
 refine⟨_,_,_,_,_,hl,?_,hf,?_,fun k hk=>ins_lt _ _ hk,by omega,?_⟩
 ·simp [scT,scA,scS,scP,ins_same,Loc.isAt]
 ·exact (below_alloc w _).mono H.size
 ·simp [Instr.makeMap,tr,trA,trS,trP,ins_same]
theorem cellsOf_tab (hT:TabOK P T){t:TypeId}{i:TyI}(h:look T t=some i):P.cellsOf t=i.size:=by
 obtain⟨x,hx,h1,_⟩:=(hT t i h).info
 simp [Program.cellsOf,hx,h1]
theorem kfind {kt:TypeId}{N:Nat}(hL:LawOK P kt)(hN:P.cellsOf kt=N){ents:Array MapEntry}{es:List (Value × Value)}{f:Value→Value}(he:ents.toList.map (fun e=>(e.key,e.val))=es.map (fun e=>(e.1,f e.2)))
  (hb:∀ (i:Nat) x,ents.toList[i]? = some x→x.born=i) (hK:KeysP std N es) {cs:Array Value} (hc:cs.size=N∧keyB std cs.toList=true) (w:World) :
  ((Instr.findKey kt (.agg cs) ents.toList).run P w=.ok none w∧∀ e∈es,e.1≠.agg cs) ∨
  ∃ j v,(Instr.findKey kt (.agg cs) ents.toList).run P w=.ok (some (j,f v)) w∧es[j]? = some (.agg cs,v)∧ents.toList[j]? = some ⟨.agg cs,f v,j⟩:=by
 obtain⟨kl,hkl⟩:=hL.2 cs (hc.1.trans hN.symm) hc.2
 rcases hL.1.find w hkl ents.toList (fun e hm=>by
  have:(e.key,e.val)∈es.map (fun e=>(e.1,f e.2)):=he▸List.mem_map_of_mem hm
  obtain⟨p,hp,hpe⟩:=List.mem_map.1 this
  obtain⟨cs',h1,h2,h3⟩:=hK p hp
  injection hpe with h4 h5
  rw [← h4,h1]
  exact hL.2 cs' (h2.trans hN.symm) h3) with ⟨h1,h2⟩|⟨j,e,h1,h2,h3⟩
 ·refine .inl ⟨h1,fun p hp e=>?_⟩
  have:(p.1,f p.2)∈ents.toList.map (fun e=>(e.key,e.val)):=he▸List.mem_map_of_mem hp
  obtain⟨x,hx,hxe⟩:=List.mem_map.1 this
  injection hxe with h4 h5
  exact h2 x hx (h4.trans e)
 ·have h4:(ents.toList.map (fun e=>(e.key,e.val)))[j]? = some (e.key,e.val):=by rw [List.getElem?_map,h2];rfl
  rw [he,List.getElem?_map] at h4
  cases hp:es[j]? with
  |none=>rw [hp] at h4;cases h4
  |some p =>
   rw [hp] at h4
   injection h4 with h4
   injection h4 with h5 h6
   obtain⟨p1,p2⟩:=p
   simp only at h5 h6
   refine .inr ⟨j,p2,by rw [h6];exact h1,by rw [hp,h5,h3],?_⟩
   rw [h2,h6,← h3,← hb j e h2]
theorem kcheck {kt:TypeId}{N:Nat}(hL:LawOK P kt)(hN:P.cellsOf kt=N){cs:Array Value}(hc:cs.size=N∧keyB std cs.toList=true)(em:Bool)(w:World):(Instr.checkKey em 10000 kt (.agg cs)).run P w=.ok () w:=by
 obtain⟨kl,hkl⟩:=hL.2 cs (hc.1.trans hN.symm) hc.2
 exact hL.1.check w em hkl
theorem kstays {kt:TypeId}{N:Nat}(hL:LawOK P kt)(hN:P.cellsOf kt=N){cs:Array Value}(hc:cs.size=N∧keyB std cs.toList=true)(w:World):(Instr.keyThatStays (.agg cs) (.agg cs)).run P w=.ok (.agg cs) w:=by
 obtain⟨kl,hkl⟩:=hL.2 cs (hc.1.trans hN.symm) hc.2
 exact hL.1.stays w hkl
theorem keyB_g:∀ {l:List Value},keyB std l=true→allG l=true
 |[],_=>rfl
 |v::r,h=>by
  unfold keyB at h
  split at h
  ·rename_i heq;cases heq
  ·rename_i n r' heq
   injection heq with h1 h2
   subst h1 h2
   have h:(std.fits .i64 n&&keyB std r)=true:=h
   rw [Bool.and_eq_true] at h
   show (gS (.int .i64 n)&&allG r)=true
   rw [keyB_g h.2];rfl
  ·cases h
theorem klookup_ok (hT:TabOK P T){t:TypeId}{ok:Bool}{K:Value→Prop}{kt et:TypeId}{s1 b1:Nat}{z1:Value}{k:Nat}{cs:Array Value}(ht:look T t=some ⟨.mpk kt et,s1,b1,z1⟩){ki ei:TyI}(hki:look T kt=some ki)(hei:look T et=some ei){es:List (Value × Value)}(hk:look h k=some (.map es))
  (hl:vkey std ki.size es cs (fun _ v=>(match ok with|true=>K (.tuple #[v,.bool true])|false=>K v)) (match ok with|true=>K (.tuple #[ei.zv,.bool false])|false=>K ei.zv)) (hx:scT ι nx (Value.map (some k))) {w0:World} (H0:RelH ι B h nx w0) :
  ∃ v,K v∧scT ι nx v∧∀ w,RelH ι B h nx w→(Instr.lookup t (tr ι (Value.map (some k))) (tr ι (Value.agg cs)) ok).run P w=.ok (tr ι v) w:=by
 have hL:=(hT t _ ht).law kt et rfl
 have hN:=cellsOf_tab hT hki
 have hm:=(hT t _ ht).mpk rfl
 have hz:scA ι nx ei.zv:=scA_g (hT et _ hei).zg
 obtain⟨hK,hc,hl⟩:=hl
 have htr:tr ι (Value.agg cs)=Value.agg cs:=tr_g (by have:=keyB_g hc.2;simpa [gT,gA] using this)
 have hrun:∀ (r:Option Value),((∃ (i:Nat) (v:Value),r=some v∧es[i]? = some (Value.agg cs,v)∧∀ (j:Nat) (u:Value),es[j]? = some (Value.agg cs,u)→j=i)∨(r=none∧∀ e∈es,e.1≠Value.agg cs))→∀ w,RelH ι B h nx w→(Instr.lookup t (tr ι (Value.map (some k))) (tr ι (Value.agg cs)) ok).run P w =
   .ok (if ok then .tuple #[(match r with|some v=>trS ι v|none=>ei.zv),.bool r.isSome] else (match r with|some v=>trS ι v|none=>ei.zv)) w:=by
  intro r hr w H
  have hob:=H.obj k _ hk
  cases hι:ι k with
  |nil p=>rw [hι] at hob;exact hob.elim
  |lay b o e =>
   rw [hι] at hob
   obtain⟨hB,ents,clock,h1,h2,h3⟩:=hob
   have hj:(Instr.findKey kt (.agg cs) ents.toList).run P w=.ok none w∧r=none∨∃ j v,(Instr.findKey kt (.agg cs) ents.toList).run P w=.ok (some (j,trS ι v)) w∧r=some v:=by
    rcases kfind hL hN h2 h3.2.2 hK hc w with ⟨a1,a2⟩|⟨j,v,a1,a2,a3⟩
    ·rcases hr with ⟨i,v,rfl,b1,b2⟩|⟨rfl,b1⟩
     ·exact absurd rfl (a2 _ (List.mem_of_getElem? b1))
     ·exact .inl ⟨a1,rfl⟩
    ·rcases hr with ⟨i,v',rfl,b1,b2⟩|⟨rfl,b1⟩
     ·have:=b2 j v a2
      subst this
      rw [b1] at a2
      injection a2 with a2
      injection a2 with _ a2
      subst a2
      exact .inr ⟨j,v',a1,rfl⟩
     ·exact absurd rfl (b1 _ (List.mem_of_getElem? a2))
   have hck:=kcheck hL hN hc ents.isEmpty w
   have e1:tr ι (Value.map (some k))=Value.map (some b):=by simp [tr,trA,trS,trP,hι]
   have hzr:=(hT et _ hei).zero
   rw [e1,htr]
   rcases hj with ⟨hj,rfl⟩|⟨j,v,hj,rfl⟩
   ·simp only [Instr.lookup,Sem.run_bind,run_underlying hm,Result.andThen_ok,MapKept.run_getObj_map h1,Sem.run_pure,hck,hj]
    cases ok <;> simp [hzr]
   ·simp only [Instr.lookup,Sem.run_bind,run_underlying hm,Result.andThen_ok,MapKept.run_getObj_map h1,Sem.run_pure,hck,hj]
    cases ok <;> simp
 rcases hl with ⟨i,v,hi,hu,hl⟩|⟨ha,hl⟩
 ·have hs:scS ι nx v:=H0.sc k _ hk _ (List.mem_of_getElem? hi)
  have hr:=hrun (some v) (.inl ⟨i,v,rfl,hi,hu⟩)
  cases ok with
  |true =>
   refine⟨_,hl,?_,fun w H=>?_⟩
   ·intro u hu
    simp at hu
    rcases hu with rfl|rfl
    ·exact scA_of_S hs
    ·simp [scA,scS,scP]
   ·rw [hr w H]
    have e2:trA ι (.bool true)=.bool true:=rfl
    simp [tr,trA_of_S hs,e2]
  |false=>exact⟨_,hl,scT_of_A (scA_of_S hs),fun w H=>by rw [hr w H,tr_of_S hs];rfl⟩
 ·have hr:=hrun none (.inr ⟨rfl,ha⟩)
  cases ok with
  |true =>
   refine⟨_,hl,?_,fun w H=>?_⟩
   ·intro u hu
    simp at hu
    rcases hu with rfl|rfl
    ·exact hz
    ·simp [scA,scS,scP]
   ·rw [hr w H]
    have:trA ι ei.zv=ei.zv:=trA_g (hT et _ hei).zg
    simp [tr,this]
    simp [trA,trS,trP]
  |false=>exact⟨_,hl,scT_of_A hz,fun w H=>by rw [hr w H,tr_of_A hz,trA_g (hT et _ hei).zg];rfl⟩
theorem vlookup_ok (hT:TabOK P T){t:TypeId}{x key:Value}{ok:Bool}{K:Value→Prop}(hl:vlookup std T h t x key ok K)(hx:scT ι nx x){w0:World}(H0:RelH ι B h nx w0) :
  ∃ v,K v∧scT ι nx v∧∀ w,RelH ι B h nx w→(Instr.lookup t (tr ι x) (tr ι key) ok).run P w=.ok (tr ι v) w:=by
 unfold vlookup at hl
 split at hl
 case h_3=>exact hl.elim
 case h_2 =>
  rename_i kt et s1 b1 z1 k cs ht
  split at hl
  case h_2=>exact hl.elim
  rename_i ki ei es hki hei hk
  exact klookup_ok hT ht hki hei hk hl hx H0
 rename_i kt et s1 b1 z1 k cs ht
 split at hl
 case h_2=>exact hl.elim
 rename_i fs s2 b2 z2 ei es hkt het hk
 split at hl
 case h_2=>exact hl.elim
 rename_i r hkf hg hfind
 have htr:tr ι (.agg cs)=.agg cs:=tr_g (by simpa [gT,gA] using hg)
 have hm:=(hT t _ ht).mp rfl
 have hei:=hT et _ het
 have hx':k<nx∧(ι k).isAt=true:=hx
 have hz:scA ι nx ei.zv:=scA_g hei.zg
 have hrun:∀ w,RelH ι B h nx w→(Instr.lookup t (tr ι (Value.map (some k))) (tr ι (Value.agg cs)) ok).run P w =
   .ok (if ok then .tuple #[(match r with|some v=>trS ι v|none=>ei.zv),.bool r.isSome] else (match r with|some v=>trS ι v|none=>ei.zv)) w:=by
  intro w H
  have hob:=H.obj k _ hk
  cases hι:ι k with
  |nil p=>rw [hι] at hob;exact hob.elim
  |lay b o e =>
   rw [hι] at hob
   obtain⟨hB,ents,clock,h1,h2,h3⟩:=hob
   obtain⟨j,hj⟩:=findKey_ok hT hkt h3.1 h2 hfind w
   have hck:=checkKey_ok hT hkt hkf ents.isEmpty 9998 w
   have e1:tr ι (.map (some k))=.map (some b):=by simp [tr,trA,trS,trP,hι]
   rw [e1,htr]
   simp only [Instr.lookup,Sem.run_bind,run_underlying hm,Result.andThen_ok,MapKept.run_getObj_map h1,Sem.run_pure,hck,hj]
   cases r with
   |none=>cases ok <;> simp [hei.zero]
   |some v=>cases ok <;> simp
 have hsc:∀ v,r=some v→scS ι nx v:=by
  intro v hv
  subst hv
  have hos:=H0.sc k _ hk
  clear hrun hl H0 hk
  induction es with
  |nil=>simp [vfind] at hfind
  |cons a es ih =>
   obtain⟨k',v'⟩:=a
   simp only [vfind] at hfind
   split at hfind
   ·cases hfind
   ·injection hfind with hfind
    injection hfind with hfind
    subst hfind
    exact hos (k',v') (by simp)
   ·exact ih hfind (fun e he=>hos e (by simp [he]))
 split at hl
 ·rename_i v
  have hs:=hsc v rfl
  refine⟨_,hl,?_,fun w H=>?_⟩
  ·intro u hu
   simp at hu
   rcases hu with rfl|rfl
   ·exact scA_of_S hs
   ·simp [scA,scS,scP]
  ·rw [hrun w H]
   have e2:trA ι (.bool true)=.bool true:=rfl
   simp [tr,trA_of_S hs,e2]
 ·refine⟨_,hl,?_,fun w H=>?_⟩
  ·intro u hu
   simp at hu
   rcases hu with rfl|rfl
   ·exact hz
   ·simp [scA,scS,scP]
  ·rw [hrun w H]
   have:trA ι ei.zv=ei.zv:=trA_g hei.zg
   simp [tr,this]
   simp [trA,trS,trP]
 ·rename_i v
  have hs:=hsc v rfl
  exact⟨_,hl,scT_of_A (scA_of_S hs),fun w H=>by rw [hrun w H,tr_of_S hs];rfl⟩
 ·exact⟨_,hl,scT_of_A hz,fun w H=>by rw [hrun w H,tr_of_A hz,trA_g hei.zg];rfl⟩
theorem kcase {kt:TypeId}{N:Nat}(hL:LawOK P kt)(hN:P.cellsOf kt=N){ents:Array MapEntry}{es:List (Value × Value)}{f:Value→Value}(he:ents.toList.map (fun e=>(e.key,e.val))=es.map (fun e=>(e.1,f e.2)))
  (hb:∀ (i:Nat) x,ents.toList[i]? = some x→x.born=i) {cs:Array Value} {F:Nat→Value→Prop} {G:Prop} (hv:vkey std N es cs F G) (w:World) :
  ((Instr.findKey kt (.agg cs) ents.toList).run P w=.ok none w∧G) ∨
  ∃ j v,(Instr.findKey kt (.agg cs) ents.toList).run P w=.ok (some (j,f v)) w∧es[j]? = some (.agg cs,v)∧ents.toList[j]? = some ⟨.agg cs,f v,j⟩∧F j v:=by
 obtain⟨hK,hc,hl⟩:=hv
 rcases kfind hL hN he hb hK hc w with ⟨a1,a2⟩|⟨j,v,a1,a2,a3⟩
 ·rcases hl with ⟨i,v,b1,b2,b3⟩|⟨b1,b2⟩
  ·exact absurd rfl (a2 _ (List.mem_of_getElem? b1))
  ·exact .inl ⟨a1,b2⟩
 ·rcases hl with ⟨i,v',b1,b2,b3⟩|⟨b1,b2⟩
  ·have:=b2 j v a2
   subst this
   rw [b1] at a2
   injection a2 with a2
   injection a2 with _ a2
   subst a2
   exact .inr ⟨j,v',a1,b1,a3,b3⟩
  ·exact absurd rfl (b1 _ (List.mem_of_getElem? a2))
theorem RelH.mset {w:World}(H:RelH ι B h nx w){k:Nat}{es es':List (Value × Value)}(hk:look h k=some (.map es)){b o e:Nat}(hι:ι k=.lay b o e)(hB:B≤b){ob:Obj}(hob:w.heap[b]? = some ob){ents:Array MapEntry}{clock:Nat}
  (h2:ents.toList.map (fun e=>(e.key,e.val))=es'.map (fun e=>(e.1,trS ι e.2))) (hg:∀ e∈es',gA e.1=true) (hc:clock=ents.size) (hb:∀ (i:Nat) x,ents.toList[i]? = some x→x.born=i) (hsc:∀ e∈es',scS ι nx e.2) :
  RelH ι B (upd h k (.map es')) nx { w with heap:=w.heap.setIfInBounds b (.map ents clock) }∧Bel B w { w with heap:=w.heap.setIfInBounds b (.map ents clock) }:=by
 have hlt:=(Array.getElem?_eq_some_iff.1 hob).1
 refine⟨H.set hk rfl ?_ hsc rfl (fun c hc=>?_) (by simp),?_⟩
 ·rw [hι]
  exact⟨hB,ents,clock,by simp [Array.getElem?_setIfInBounds_self_of_lt hlt],h2,hg,hc,hb⟩
 ·have:b≠c:=fun e=>hc (by rw [hι,e];rfl)
  simp [Array.getElem?_setIfInBounds_ne this]
 ·exact⟨rfl,rfl,rfl,by simp,fun c hc=>by
   have:b≠c:=by omega
   simp [Array.getElem?_setIfInBounds_ne this],Nat.le_refl _⟩
theorem map_set_rel {es:List (Value × Value)}{f:Value→Value}{ents:List MapEntry}(he:ents.map (fun e=>(e.key,e.val))=es.map (fun e=>(e.1,f e.2))){j:Nat}{k v:Value}{n:Nat} :
  (ents.set j ⟨k,f v,n⟩).map (fun e=>(e.key,e.val))=(es.set j (k,v)).map (fun e=>(e.1,f e.2)):=by
 rw [List.map_set,List.map_set,he]
theorem set_born {ents:List MapEntry}(hb:∀ (i:Nat) x,ents[i]? = some x→x.born=i){j:Nat}{k v:Value}:∀ (i:Nat) x,(ents.set j ⟨k,v,j⟩)[i]? = some x→x.born=i:=by
 intro i x hx
 rw [List.getElem?_set] at hx
 split at hx
 ·split at hx
  ·rename_i hij _
   injection hx with hx
   subst hx
   exact hij
  ·cases hx
 ·exact hb i x hx
theorem mem_set_of {α:Type}{q:α→Prop}{l:List α}{j:Nat}{a:α}(h:∀ x∈l,q x)(ha:q a):∀ x∈l.set j a,q x:=by
 intro x hx
 rcases List.mem_or_eq_of_mem_set hx with h1|h1
 ·exact h x h1
 ·exact h1▸ha
theorem sc_isSc {v:Value}(hs:isSc v=true)(hv:scT ι nx v):scS ι nx v:=by
 cases v <;> first|exact hv|(simp [isSc] at hs)
theorem keyT {cs:Array Value}(h:keyB std cs.toList=true):tr ι (Value.agg cs)=Value.agg cs:=tr_g (by have:=keyB_g h;simpa [gT,gA] using this)
theorem keyA {cs:Array Value}(h:keyB std cs.toList=true):gA (Value.agg cs)=true:=by have:=keyB_g h;simpa [gA] using this
theorem kmapUpdate_ok (hT:TabOK P T){t:TypeId}{v:Value}{K:KE}{kt et:TypeId}{s1 b1:Nat}{z1:Value}{k:Nat}{cs:Array Value}(ht:look T t=some ⟨.mpk kt et,s1,b1,z1⟩){ki:TyI}(hki:look T kt=some ki){es:List (Value × Value)}(hk:look h k=some (.map es))
  (hl:vkey std ki.size es cs (fun i _=>K undef (upd h k (.map (es.set i (.agg cs,v)))) nx) (K undef (upd h k (.map (es++[(.agg cs,v)]))) nx)) (hvS:scS ι nx v) {w:World} (H:RelH ι B h nx w) :
  ∃ h' w',K undef h' nx∧RelH ι B h' nx w'∧Bel B w w'∧(Instr.mapUpdate t (tr ι (Value.map (some k))) (tr ι (Value.agg cs)) (tr ι v)).run P w=.ok () w':=by
 have hL:=(hT t _ ht).law kt et rfl
 have hN:=cellsOf_tab hT hki
 have hm:=(hT t _ ht).mpk rfl
 have hc:=hl.2.1
 have hob:=H.obj k _ hk
 cases hι:ι k with
 |nil p=>rw [hι] at hob;exact hob.elim
 |lay b o e =>
  rw [hι] at hob
  obtain⟨hB,ents,clock,h1,h2,h3⟩:=hob
  have hck:=kcheck hL hN hc false w
  have e1:tr ι (.map (some k))=.map (some b):=by simp [tr,trA,trS,trP,hι]
  have hsc:∀ e∈es,scS ι nx e.2:=H.sc k _ hk
  rw [e1,keyT hc.2,tr_of_S hvS]
  rcases kcase hL hN h2 h3.2.2 hl w with ⟨a1,a2⟩|⟨j,u,a1,a2,a3,a4⟩
  ·have:=H.mset hk hι hB h1 (es':=es++[(.agg cs,v)]) (ents:=ents.push ⟨.agg cs,trS ι v,clock⟩) (clock:=clock+1) (by simp [h2]) (fun e he=>by
    rcases List.mem_append.1 he with he|he
    ·exact h3.1 e he
    ·simp at he
     subst he
     exact keyA hc.2) (by simp [h3.2.1]) (push_born h3.2.1 h3.2.2) (fun e he=>by
    rcases List.mem_append.1 he with he|he
    ·exact hsc e he
    ·simp at he
     subst he
     exact hvS)
   refine⟨_,_,a2,this.1,this.2,?_⟩
   simp only [Instr.mapUpdate,Sem.run_bind,run_underlying hm,Result.andThen_ok,MapKept.run_getObj_map h1,hck,a1,MapKept.run_setObj_map _ h1]
  ·have hmod:(ents.modify j fun e=>{ e with key:=Value.agg cs,val:=trS ι v }).toList=ents.toList.set j ⟨.agg cs,trS ι v,j⟩:=by
    rw [Array.toList_modify,ChangeMaps.modify_eq_set _ _ _ _ a3]
   have:=H.mset hk hι hB h1 (es':=es.set j (.agg cs,v)) (ents:=ents.modify j fun e=>{ e with key:=Value.agg cs,val:=trS ι v }) (clock:=clock) (by rw [hmod];exact map_set_rel h2) (mem_set_of h3.1 (keyA hc.2)) (by simp [h3.2.1]) (by rw [hmod];exact set_born h3.2.2) (mem_set_of hsc hvS)
   refine⟨_,_,a4,this.1,this.2,?_⟩
   have hj:ents[j]? = some ⟨.agg cs,trS ι u,j⟩:=by rw [← Array.getElem?_toList];exact a3
   simp only [Instr.mapUpdate,Sem.run_bind,run_underlying hm,Result.andThen_ok,MapKept.run_getObj_map h1,hck,a1,hj,Option.map_some,Option.getD_some,kstays hL hN hc w,MapKept.run_setObj_map _ h1]
theorem vmapUpdate_ok (hT:TabOK P T){t:TypeId}{x key v:Value}{K:KE}(hl:vmapUpdate std T h nx t x key v K)(hx:scT ι nx x)(hv:scT ι nx v){w:World}(H:RelH ι B h nx w) :
  ∃ h' w',K undef h' nx∧RelH ι B h' nx w'∧Bel B w w'∧(Instr.mapUpdate t (tr ι x) (tr ι key) (tr ι v)).run P w=.ok () w':=by
 unfold vmapUpdate at hl
 split at hl
 case h_3=>exact hl.elim
 case h_2 =>
  rename_i kt et s1 b1 z1 k cs ht hag
  split at hl
  case h_2=>exact hl.elim
  rename_i ki es hki hk
  exact kmapUpdate_ok hT ht hki hk hl (by cases v <;> first|exact hv|(simp at hag)) H
 rename_i kt et s1 b1 z1 k cs ht hag
 split at hl
 case h_2=>exact hl.elim
 rename_i fs s2 b2 z2 es hkt hk
 split at hl
 case h_2=>exact hl.elim
 rename_i hkf hg hfind
 have hvS:scS ι nx v:=by
  cases v <;> first|exact hv|(simp at hag)
 have htr:tr ι (.agg cs)=.agg cs:=tr_g (by simpa [gT,gA] using hg)
 have hm:=(hT t _ ht).mp rfl
 have hob:=H.obj k _ hk
 cases hι:ι k with
 |nil p=>rw [hι] at hob;exact hob.elim
 |lay b o e =>
  rw [hι] at hob
  obtain⟨hB,ents,clock,h1,h2,h3⟩:=hob
  obtain⟨j,hj⟩:=findKey_ok hT hkt h3.1 h2 hfind w
  have hck:=checkKey_ok hT hkt hkf false 9998 w
  have e1:tr ι (.map (some k))=.map (some b):=by simp [tr,trA,trS,trP,hι]
  refine⟨_,{ w with heap:=w.heap.setIfInBounds b (.map (ents.push ⟨.agg cs,trS ι v,clock⟩) (clock+1)) },hl,?_,?_,?_⟩
  ·refine H.set hk rfl ?_ ?_ rfl (fun c hc=>?_) (by simp)
   ·rw [hι]
    have hlt:=(Array.getElem?_eq_some_iff.1 h1).1
    refine⟨hB,ents.push ⟨.agg cs,trS ι v,clock⟩,clock+1,by simp [Array.getElem?_setIfInBounds_self_of_lt hlt],by simp [h2],fun e he=>?_,by simp [h3.2.1],push_born h3.2.1 h3.2.2⟩
    rcases List.mem_append.1 he with he|he
    ·exact h3.1 e he
    ·simp at he
     subst he
     simpa [gA] using hg
   ·intro e he
    rcases List.mem_append.1 he with he|he
    ·exact H.sc k _ hk e he
    ·simp at he
     subst he
     exact hvS
   ·have:b≠c:=fun e=>hc (by rw [hι,e];rfl)
    simp [Array.getElem?_setIfInBounds_ne this]
  ·exact⟨rfl,rfl,rfl,by simp,fun c hc=>by
    have:b≠c:=by omega
    simp [Array.getElem?_setIfInBounds_ne this],Nat.le_refl _⟩
  ·rw [e1,htr,tr_of_S hvS]
   simp only [Instr.mapUpdate,Sem.run_bind,run_underlying hm,Result.andThen_ok,MapKept.run_getObj_map h1,hck,hj,Option.map_none,MapKept.run_setObj_map _ h1]
theorem set_self3 {α:Type}:∀ {l:List α} {j:Nat} {a:α},l[j]? = some a→l.set j a=l
 |[],_,_,h=>by simp at h
 |x::r,0,a,h=>by simp at h;simp [h]
 |x::r,j+1,a,h=>by simp at h;simp [set_self3 h]
theorem vmapEntry_ok (hT:TabOK P T){t:TypeId}{x key:Value}{K:KE}(hl:vmapEntry std T h nx t x key K)(hx:scT ι nx x){w:World}(H:RelH ι B h nx w) :
  ∃ v h' w',K v h' nx∧scT ι nx v∧RelH ι B h' nx w'∧Bel B w w'∧(Instr.mapEntry t (tr ι x) (tr ι key)).run P w=.ok (tr ι v) w':=by
 unfold vmapEntry at hl
 split at hl
 case h_2=>exact hl.elim
 rename_i kt et s1 b1 z1 k cs ht
 split at hl
 case h_2=>exact hl.elim
 rename_i ki ei es hki hei hk
 split at hl
 case h_2=>exact hl.elim
 rename_i hsz
 have hL:=(hT t _ ht).law kt et rfl
 have hN:=cellsOf_tab hT hki
 have hm:=(hT t _ ht).mpk rfl
 have hc:=hl.2.1
 have hob:=H.obj k _ hk
 have hz:scA ι nx ei.zv:=scA_g (hT et _ hei).zg
 have hzS:scS ι nx ei.zv:=sc_isSc hsz (scT_of_A hz)
 have hzt:trS ι ei.zv=ei.zv:=(tr_of_S hzS).symm.trans ((tr_of_A hz).trans (trA_g (hT et _ hei).zg))
 have hzr:=(hT et _ hei).zero
 cases hι:ι k with
 |nil p=>rw [hι] at hob;exact hob.elim
 |lay b o e =>
  rw [hι] at hob
  obtain⟨hB,ents,clock,h1,h2,h3⟩:=hob
  have hck:=kcheck hL hN hc false w
  have e1:tr ι (.map (some k))=.map (some b):=by simp [tr,trA,trS,trP,hι]
  have hsc:∀ e∈es,scS ι nx e.2:=H.sc k _ hk
  have hlen:ents.size=es.length:=by have:=congrArg List.length h2;simpa using this
  rw [e1,keyT hc.2]
  rcases kcase hL hN h2 h3.2.2 hl w with ⟨a1,a2⟩|⟨j,u,a1,a2,a3,a4⟩
  ·have:=H.mset hk hι hB h1 (es':=es++[(.agg cs,ei.zv)]) (ents:=ents.push ⟨.agg cs,ei.zv,clock⟩) (clock:=clock+1) (by simp [h2,hzt]) (fun e he=>by
    rcases List.mem_append.1 he with he|he
    ·exact h3.1 e he
    ·simp at he
     subst he
     exact keyA hc.2) (by simp [h3.2.1]) (push_born h3.2.1 h3.2.2) (fun e he=>by
    rcases List.mem_append.1 he with he|he
    ·exact hsc e he
    ·simp at he
     subst he
     exact hzS)
   refine⟨_,_,_,a2,?_,this.1,this.2,?_⟩
   ·intro u hu
    simp at hu
    rcases hu with rfl|rfl
    ·exact hz
    ·simp [scA,scS,scP]
   ·have e3:trA ι ei.zv=ei.zv:=trA_g (hT et _ hei).zg
    simp only [Instr.mapEntry,Sem.run_bind,run_underlying hm,Result.andThen_ok,MapKept.run_getObj_map h1,hck,a1,hzr,MapKept.run_setObj_map _ h1,Sem.run_pure]
    simp [tr,e3,goInt,h3.2.1,hlen]
    simp [trA,trS,trP]
  ·have hj:ents[j]? = some ⟨.agg cs,trS ι u,j⟩:=by rw [← Array.getElem?_toList];exact a3
   have hmod:(ents.modify j fun e=>{ e with key:=Value.agg cs })=ents:=by
    apply Array.ext'
    rw [Array.toList_modify,ChangeMaps.modify_eq_set _ _ _ _ a3]
    exact set_self3 a3
   have hw:({ w with heap:=w.heap.setIfInBounds b (.map ents clock) }:World)=w:=by
    have:w.heap.setIfInBounds b (.map ents clock)=w.heap:=by
     apply Array.ext_getElem?
     intro i
     rw [Array.getElem?_setIfInBounds]
     split
     ·rename_i hb
      subst hb
      rw [h1]
      simp [(Array.getElem?_eq_some_iff.1 h1).1]
     ·rfl
    rw [this]
   have hs:scS ι nx u:=hsc _ (List.mem_of_getElem? a2)
   refine⟨_,_,w,a4,?_,H,Bel.refl _ _,?_⟩
   ·intro u' hu
    simp at hu
    rcases hu with rfl|rfl
    ·exact scA_of_S hs
    ·simp [scA,scS,scP]
   ·simp only [Instr.mapEntry,Sem.run_bind,run_underlying hm,Result.andThen_ok,MapKept.run_getObj_map h1,hck,a1,hj,Option.map_some,Option.getD_some,kstays hL hN hc w,hmod,MapKept.run_setObj_map _ h1,hw,Sem.run_pure]
    simp [tr,trA_of_S hs,goInt]
    simp [trA,trS,trP]
theorem findIdx_arr3 (xs:Array MapEntry)(p:MapEntry→Bool):xs.findIdx? p=xs.toList.findIdx? p:=by
 cases xs
 simp
theorem find_at:∀ {l:List MapEntry} {s:Nat},(∀ (i:Nat) x,l[i]? = some x→x.born=s+i)→∀ (j:Nat),j<l.length→l.findIdx? (fun e=>((e.born:Nat):Int) == ((s+j:Nat):Int))=some j
 |[],_,_,j,h=>by simp at h
 |a::r,s,hb,0,_=>by
  have:=hb 0 a rfl
  rw [List.findIdx?_cons,if_pos (by rw [this];simp)]
 |a::r,s,hb,j+1,h=>by
  have:=hb 0 a rfl
  rw [List.findIdx?_cons,if_neg (by rw [this];simp;omega)]
  have ih:=find_at (l:=r) (s:=s+1) (fun i x hx=>by have:=hb (i+1) x hx;omega) j (by simp at h;omega)
  rw [show s+(j+1)=s+1+j by omega,ih]
  rfl
theorem ventryStore_ok {t:TypeId}{x s v:Value}{K:KE}(hl:ventryStore h nx x s v K)(hv:scT ι nx v){w:World}(H:RelH ι B h nx w) :
  ∃ h' w',K undef h' nx∧RelH ι B h' nx w'∧Bel B w w'∧(Instr.entryStore t (tr ι x) (tr ι s) (tr ι v)).run P w=.ok () w':=by
 unfold ventryStore at hl
 split at hl
 case h_2=>exact hl.elim
 rename_i k st hs
 split at hl
 case h_2=>exact hl.elim
 rename_i es hk
 obtain⟨i,p,rfl,hp,hl⟩:=hl
 have hvS:=sc_isSc hs hv
 have hob:=H.obj k _ hk
 cases hι:ι k with
 |nil p=>rw [hι] at hob;exact hob.elim
 |lay b o e =>
  rw [hι] at hob
  obtain⟨hB,ents,clock,h1,h2,h3⟩:=hob
  have e1:tr ι (.map (some k))=.map (some b):=by simp [tr,trA,trS,trP,hι]
  have e2:tr ι (.int .i64 (i:Int))=.int .i64 (i:Int):=by simp [tr,trA,trS,trP]
  have hsc:∀ e∈es,scS ι nx e.2:=H.sc k _ hk
  have hlen:ents.toList.length=es.length:=by have:=congrArg List.length h2;simpa using this
  have hi:i<ents.toList.length:=by rw [hlen];exact (List.getElem?_eq_some_iff.1 hp).1
  have a3:ents.toList[i]? = some ⟨p.1,trS ι p.2,i⟩:=by
   have h4:(ents.toList.map (fun e=>(e.key,e.val)))[i]? = some (p.1,trS ι p.2):=by rw [h2,List.getElem?_map,hp];rfl
   rw [List.getElem?_map] at h4
   cases hx:ents.toList[i]? with
   |none=>rw [hx] at h4;cases h4
   |some x =>
    rw [hx] at h4
    have hbn:=h3.2.2 i x hx
    obtain⟨x1,x2,x3⟩:=x
    simp at h4 hbn
    rw [h4.1,h4.2,hbn]
  have hmod:(ents.modify i fun e=>{ e with val:=trS ι v }).toList=ents.toList.set i ⟨p.1,trS ι v,i⟩:=by
   rw [Array.toList_modify,ChangeMaps.modify_eq_set _ _ _ _ a3]
  have:=H.mset hk hι hB h1 (es':=es.set i (p.1,v)) (ents:=ents.modify i fun e=>{ e with val:=trS ι v }) (clock:=clock) (by rw [hmod];exact map_set_rel h2) (mem_set_of h3.1 (h3.1 p (List.mem_of_getElem? hp))) (by simp [h3.2.1]) (by rw [hmod];exact set_born h3.2.2) (mem_set_of hsc hvS)
  refine⟨_,_,hl,this.1,this.2,?_⟩
  have hf:ents.findIdx? (fun e=>((e.born:Nat):Int) == (i:Int))=some i:=by
   rw [findIdx_arr3]
   have:=find_at (l:=ents.toList) (s:=0) (fun i x hx=>by rw [h3.2.2 i x hx];omega) i hi
   simpa using this
  rw [e1,e2,tr_of_S hvS]
  simp only [Instr.entryStore,Sem.run_bind,Result.andThen_ok,MapKept.run_getObj_map h1,asInt,asIntOf,Sem.run_pure,hf,MapKept.run_setObj_map _ h1]
theorem vmrange_ok (hT:TabOK P T){t:TypeId}{x:Value}{K:KE}(hl:vmrange T h nx t x K){w:World}(H:RelH ι B h nx w):Does P ι B nx w (Instr.range t (tr ι x)) K:=by
 unfold vmrange at hl
 split at hl
 case h_2=>exact hl.elim
 rename_i kt et s1 b1 z1 k ht
 split at hl
 case h_2=>exact hl.elim
 rename_i es hk
 have hm:=(hT t _ ht).mpk rfl
 have hob:=H.obj k _ hk
 cases hι:ι k with
 |nil p=>rw [hι] at hob;exact hob.elim
 |lay b o e =>
  rw [hι] at hob
  obtain⟨hB,ents,clock,h1,h2,h3⟩:=hob
  have hlen:ents.size=es.length:=by have:=congrArg List.length h2;simpa using this
  have hkn:k<nx:=H.low k _ hk
  have hik:ins ι nx (Loc.lay w.heap.size 0 0) k=ι k:=ins_lt _ _ hkn
  have hf:=H.new (.mapIter (some b) es.length #[] es.length) (.iter k es.length es.length []) ⟨H.size,b,#[],(MapKept.heap_alloc w _).1,by rw [hik,hι];rfl,rfl,rfl⟩ (by show k<nx+1;omega)
  refine⟨_,_,_,_,_,hl,?_,hf,(below_alloc w _).mono H.size,fun k hk=>ins_lt _ _ hk,by omega,?_⟩
  ·simp [scT,scA,scS,scP,ins_same,Loc.isAt]
  ·have e1:tr ι (.map (some k))=.map (some b):=by simp [tr,trA,trS,trP,hι]
   rw [e1]
   have hcl:clock=es.length:=by rw [h3.2.1,hlen]
   subst hcl
   simp [Instr.range,run_underlying hm,MapKept.run_getObj_map h1,tr,trA,trS,trP,ins_same,newObj,Sem.run,Result.andThen]
theorem left_mem {ents:Array MapEntry}{seen:Array Nat}{e:MapEntry}(h:e∈(leftOf ents seen).toList):e∈ents.toList∧e.born∉seen.toList:=by
 unfold leftOf at h
 simp at h
 exact⟨by simpa using h.1,by simpa using h.2⟩
theorem vnext_ok {ty:TypeId}{x:Value}{K:KE}(hl:vnext h nx x K){w:World}(H:RelH ι B h nx w):Does P ι B nx w (Instr.next (tr ι x) false ty) K:=by
 unfold vnext at hl
 split at hl
 case h_2=>exact hl.elim
 rename_i q
 split at hl
 case h_2=>exact hl.elim
 rename_i k s t seen hq
 split at hl
 case h_2=>exact hl.elim
 rename_i es hk
 obtain⟨⟨rfl,rfl⟩,hsome,hnone⟩:=hl
 have hob:=H.obj k _ hk
 have hoq:=H.obj q _ hq
 have hkq:k≠q:=by
  rintro rfl
  rw [hk] at hq
  cases hq
 cases hιq:ι q with
 |nil p=>rw [hιq] at hoq;exact hoq.elim
 |lay r o1 e1 =>
 cases hι:ι k with
 |nil p=>rw [hι] at hob;exact hob.elim
 |lay b o e =>
  rw [hι] at hob
  rw [hιq] at hoq
  obtain⟨hBr,mb,sn,g1,g2,g3,rfl⟩:=hoq
  have hmb:b=mb:=by rw [hι] at g2;simpa [Loc.blk] using g2
  subst hmb
  obtain⟨hB,ents,clock,h1,h2,h3⟩:=hob
  have hlen:ents.toList.length=es.length:=by have:=congrArg List.length h2;simpa using this
  have hsz:ents.size=es.length:=by rw [← hlen];simp
  have hcl:clock=es.length:=by rw [h3.2.1,hsz]
  have hsc:∀ e∈es,scS ι nx e.2:=H.sc k _ hk
  have e1:tr ι (.pointer (some ⟨q,0,none⟩))=.pointer (some ⟨r,0,none⟩):=by simp [tr,trA,trS,trP,hιq]
  rw [e1]
  have hat:∀ x∈ents.toList,∃ i,ents.toList[i]? = some x∧x.born=i∧i<es.length:=by
   intro x hx
   obtain⟨i,hi⟩:=List.getElem?_of_mem hx
   exact⟨i,hi,h3.2.2 i x hi,by rw [← hlen];exact (List.getElem?_eq_some_iff.1 hi).1⟩
  rcases run_next_at w ty r b es.length es.length sn ents clock g1 h1 (fun x hx=>by obtain⟨i,_,a2,a3⟩:=hat x hx;omega) (Nat.le_refl _) with ⟨a1,a2⟩|⟨x,a1,w1,a2,a3⟩
  ·refine⟨_,_,_,ι,w,hnone ?_,?_,H,Bel.refl _ _,fun _ _=>rfl,Nat.le_refl _,(show (Instr.next _ false ty).run P w=_ from a2).trans ?_⟩
   ·intro i hi
    have hi':i<ents.toList.length:=by omega
    have hx:ents.toList[i]? = some ents.toList[i]:=List.getElem?_eq_getElem hi'
    have hb:=h3.2.2 i _ hx
    have he:leftOf ents sn=#[]:=Array.eq_empty_of_size_eq_zero a1
    refine Classical.byContradiction fun hn=>?_
    have:ents.toList[i]∈(leftOf ents sn).toList:=by
     unfold leftOf
     simp
     rw [show (ents[i]'(by simpa using hi')).born=i from hb,← g3] at *
     simpa using hn
    rw [he] at this
    cases this
   ·intro u hu
    simp at hu
    subst hu
    simp [scA,scS,scP]
   ·simp [tr,trA,trS,trP]
  ·obtain⟨m1,m2⟩:=left_mem a1
   obtain⟨i,i1,i2,i3⟩:=hat x m1
   have hp:∃ p,es[i]? = some p∧x.key=p.1∧x.val=trS ι p.2:=by
    have h4:(ents.toList.map (fun e=>(e.key,e.val)))[i]? = some (x.key,x.val):=by rw [List.getElem?_map,i1];rfl
    rw [h2,List.getElem?_map] at h4
    cases hx:es[i]? with
    |none=>rw [hx] at h4;cases h4
    |some p =>
     rw [hx] at h4
     simp at h4
     exact⟨p,rfl,h4.1.symm,h4.2.symm⟩
   obtain⟨p,p1,p2,p3⟩:=hp
   have hmem:=List.mem_of_getElem? p1
   have hw1:RelH ι B h nx w1∧Bel B w w1∧w1.heap=w.heap:=by
    rcases a2 with rfl|rfl
    ·exact⟨H,Bel.refl _ _,rfl⟩
    ·exact⟨H.drawn _,⟨rfl,rfl,rfl,Nat.le_refl _,fun _ _=>rfl,Nat.le_succ _⟩,rfl⟩
   have hlt:=(Array.getElem?_eq_some_iff.1 g1).1
   refine⟨.tuple #[.bool true,p.1,p.2],_,nx,ι,ChangeMaps.setBlock w1 r (.mapIter (some b) es.length (sn.push x.born) clock),hsome i p p1 (by rw [← g3,← i2];exact m2),?_,hw1.1.set hq rfl ?_ (H.low k _ hk) rfl (fun c hc=>?_) ?_,?_,fun _ _=>rfl,Nat.le_refl _,a3.trans ?_⟩
   ·intro u hu
    simp at hu
    rcases hu with rfl|rfl|rfl
    ·simp [scA,scS,scP]
    ·exact scA_g (h3.1 p hmem)
    ·exact scA_of_S (hsc p hmem)
   ·rw [hιq]
    refine⟨hBr,b,sn.push x.born,?_,by rw [hι];rfl,by rw [Array.toList_push,g3,i2],rfl⟩
    show (w1.heap.setIfInBounds r _)[r]? = _
    rw [hw1.2.2,Array.getElem?_setIfInBounds_self_of_lt hlt,hcl]
   ·have:r≠c:=fun e=>hc (by rw [hιq,e];rfl)
    show (w1.heap.setIfInBounds r _)[c]? = _
    rw [Array.getElem?_setIfInBounds_ne this]
   ·show w1.heap.size≤(w1.heap.setIfInBounds r _).size
    simp
   ·refine hw1.2.1.trans ⟨rfl,rfl,rfl,by show w1.heap.size≤(w1.heap.setIfInBounds r _).size;simp,fun c hc=>?_,Nat.le_refl _⟩
    have:r≠c:=by omega
    show (w1.heap.setIfInBounds r _)[c]? = _
    rw [Array.getElem?_setIfInBounds_ne this]
   ·rw [p2,p3]
    have e5:trA ι p.1=p.1:=trA_g (h3.1 p hmem)
    simp [tr,e5,trA_of_S (hsc p hmem)]
    simp [trA,trS,trP]
theorem nodup_born_at:∀ {l:List MapEntry} {s:Nat},(∀ (i:Nat) x,l[i]? = some x→x.born=s+i)→(l.map (·.born)).Nodup
 |[],_,_=>by simp
 |a::r,s,hb=>by
  have h0:=hb 0 a rfl
  have hr:∀ (i:Nat) x,r[i]? = some x→x.born=s+1+i:=fun i x hx=>by have:=hb (i+1) x hx;omega
  rw [List.map_cons,List.nodup_cons]
  refine⟨fun hm=>?_,nodup_born_at hr⟩
  obtain⟨x,hx,he⟩:=List.mem_map.1 hm
  obtain⟨i,hi⟩:=List.getElem?_of_mem hx
  have:=hr i x hi
  omega
theorem nodup_born {l:List MapEntry}(hb:∀ (i:Nat) x,l[i]? = some x→x.born=i):(l.map (·.born)).Nodup:=nodup_born_at (s:=0) (fun i x hx=>by rw [hb i x hx];omega)
def ventry (h:Heap)(x:Value)(K:Value→Prop):Prop :=
 match x with
 |.pointer (some ⟨q,0,none⟩)=>(match look h q with
  |some (.iter k _ t seen)=>(match look h k with
   |some (.map es)=>∃ s0 i e,seen=s0++[i]∧t=es.length∧es[i]? = some e∧K (.tuple #[e.1,e.2])
   |_=>False)
  |_=>False)
 |_=>False
theorem ventry_ok {x:Value}{K:Value→Prop}(hl:ventry h x K){w0:World}(H0:RelH ι B h nx w0):∃ v,K v∧scT ι nx v∧∀ w,RelH ι B h nx w→(Instr.entry (tr ι x)).run P w=.ok (tr ι v) w:=by
 unfold ventry at hl
 split at hl
 case h_2=>exact hl.elim
 rename_i q
 split at hl
 case h_2=>exact hl.elim
 rename_i k s t seen hq
 split at hl
 case h_2=>exact hl.elim
 rename_i es hk
 obtain⟨s0,i,p,rfl,rfl,hp,hl⟩:=hl
 have hsc:∀ e∈es,scS ι nx e.2:=H0.sc k _ hk
 have hmem:=List.mem_of_getElem? hp
 refine⟨_,hl,?_,fun w H=>?_⟩
 ·intro u hu
  simp at hu
  rcases hu with rfl|rfl
  ·have hob:=H0.obj k _ hk
   cases hι:ι k with
   |nil p=>rw [hι] at hob;exact hob.elim
   |lay b o e=>rw [hι] at hob;exact scA_g (hob.2.choose_spec.choose_spec.2.2.1 p hmem)
  ·exact scA_of_S (hsc p hmem)
 have hob:=H.obj k _ hk
 have hoq:=H.obj q _ hq
 cases hιq:ι q with
 |nil p=>rw [hιq] at hoq;exact hoq.elim
 |lay r o1 e1 =>
 cases hι:ι k with
 |nil p=>rw [hι] at hob;exact hob.elim
 |lay b o e =>
  rw [hι] at hob
  rw [hιq] at hoq
  obtain⟨hBr,mb,sn,g1,g2,g3,rfl⟩:=hoq
  have hmb:b=mb:=by rw [hι] at g2;simpa [Loc.blk] using g2
  subst hmb
  obtain⟨hB,ents,clock,h1,h2,h3⟩:=hob
  have hlen:ents.toList.length=es.length:=by have:=congrArg List.length h2;simpa using this
  have hsz:ents.size=es.length:=by rw [← hlen];simp
  have hcl:clock=es.length:=by rw [h3.2.1,hsz]
  have e1:tr ι (.pointer (some ⟨q,0,none⟩))=.pointer (some ⟨r,0,none⟩):=by simp [tr,trA,trS,trP,hιq]
  rw [e1]
  have hi:i<ents.toList.length:=by rw [hlen];exact (List.getElem?_eq_some_iff.1 hp).1
  have hx:ents.toList[i]? = some ents.toList[i]:=List.getElem?_eq_getElem hi
  have hb:=h3.2.2 i _ hx
  have hpp:ents.toList[i].key=p.1∧ents.toList[i].val=trS ι p.2:=by
   have h4:(ents.toList.map (fun e=>(e.key,e.val)))[i]? = some (ents.toList[i].key,ents.toList[i].val):=by rw [List.getElem?_map,hx];rfl
   rw [h2,List.getElem?_map,hp] at h4
   injection h4 with h4
   injection h4 with h5 h6
   exact⟨h5.symm,h6.symm⟩
  have hsn:sn=s0.toArray.push ents.toList[i].born:=by
   apply Array.ext'
   rw [g3,Array.toList_push,hb]
  rw [hsn,← hcl] at g1
  have:=run_entry_at (P:=P) w r b s s0.toArray ents clock ents.toList[i] g1 h1 (List.getElem_mem hi) (nodup_born h3.2.2)
  rw [this]
  have e5:trA ι p.1=p.1:=trA_g (h3.1 p hmem)
  rw [hpp.1,hpp.2]
  simp [tr,e5,trA_of_S (hsc p hmem)]
theorem vclear_ok (hT:TabOK P T){t ty:TypeId}{x:Value}{K:KE}(hl:vclear T h nx t x K)(hx:scT ι nx x){w:World}(H:RelH ι B h nx w) :
  Does P ι B nx w (Builtin.clear_ #[t] ty #[tr ι x]) K:=by
 unfold vclear at hl
 split at hl
 case h_3=>exact hl.elim
 ·rename_i e s1 b1 z1 ht
  have hd:=(hT t _ ht).sl rfl
  refine⟨_,_,_,ι,w,hl,by simp [scT],H,Bel.refl _ _,fun _ _=>rfl,Nat.le_refl _,?_⟩
  rw [tr_slice_none]
  simp [Builtin.clear_,run_underlying hd,tr]
 ·rename_i e s1 b1 z1 k o n c ht
  have hd:=(hT t _ ht).sl rfl
  have hx':k<nx∧((ι k).isAt=false→n=0∧c=0):=hx
  split at hl
  ·refine⟨_,_,_,ι,w,hl,by simp [scT],H,Bel.refl _ _,fun _ _=>rfl,Nat.le_refl _,?_⟩
   simp only [tr,trA,trS,trP]
   cases ι k with
   |nil p=>cases p <;> simp [Builtin.clear_,run_underlying hd]
   |lay b o e=>simp [Builtin.clear_,run_underlying hd]
  ·rename_i hn0
   split at hl
   case h_2=>exact hl.elim
   rename_i ei g sz cs he hk
   obtain⟨hb,hK⟩:=must_iff.1 hl
   have hb:=Nat.le_of_ble_eq_true hb
   have hei:=hT e _ he
   cases hι:ι k with
   |nil p=>exact absurd (hx'.2 (by rw [hι];rfl)).1 hn0
   |lay b off ex =>
    have hz:=zv_cells hT he
    have hrep:∀ v∈rep n ei.zv.cells.toList,gS v=true:=by
     intro v hv
     simp only [rep,List.mem_flatten,List.mem_replicate] at hv
     obtain⟨l,⟨_,rfl⟩,hv⟩:=hv
     exact hz v hv
    have hlen:(rep n ei.zv.cells.toList).length=n*ei.size:=by
     rw [← zeroCells_rep,Array.length_toList,size_zeroCells,hei.zs]
    obtain⟨w',h1,h2,h3⟩:=H.put' (P:=P) hk hι (o:=o) (vs:=rep n ei.zv.cells.toList) (by omega) (fun v hv=>scS_g (hrep v hv))
    rw [map_trS_of hrep] at h1
    refine⟨_,_,_,ι,w',hK,by simp [scT],h3,h2,fun _ _=>rfl,Nat.le_refl _,?_⟩
    have e1:tr ι (.slice (some ⟨k,o,none⟩) n c)=.slice (some ⟨b,off+o,none⟩) n (c+ex):=by simp [tr,trA,trS,trP,hι]
    rw [e1]
    cases n with
    |zero=>exact absurd rfl hn0
    |succ n=>simp [Builtin.clear_,run_underlying hd,hei.zero,zeroCells_rep,h1,tr]
end
end Go.Aw
end
