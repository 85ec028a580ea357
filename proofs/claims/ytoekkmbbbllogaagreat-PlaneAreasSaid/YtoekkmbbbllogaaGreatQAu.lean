/-
  Parts of a proof. No condition.
-/
import Derived.Test.YtoekkmbbbllogaaGreatQAk
import Derived.Test.YtoekkmbbbllogaaGreatQAr
import Derived.Test.YtoekkmbbbllogaaGreatQAt
set_option linter.unusedSimpArgs false
set_option linter.unusedVariables false
noncomputable section
namespace Go.Aw
abbrev Sd:=(Int × Int) × (Int × Int)
def keyC (s:Sd):Array Value:=#[iv s.1.1,iv s.1.2,iv s.2.1,iv s.2.2]
def mapS (L:List (Sd × Int)):List (Value × Value):=L.map fun e=>(.agg (keyC e.1),iv e.2)
def sdW (s:Sd):Bool:=wide s.1&&wide s.2
def posS:List (Sd × Int)→Sd→Option (Nat × Int)
 |[],_=>none
 |(k,v)::r,s=>if k=s then some (0,v) else (posS r s).map fun p=>(p.1+1,p.2)
def valS (L:List (Sd × Int))(s:Sd):Int:=match posS L s with|some p=>p.2|none=>0
def idxS (L:List (Sd × Int))(s:Sd):Nat:=match posS L s with|some p=>p.1|none=>L.length
def setS:List (Sd × Int)→Sd→Int→List (Sd × Int)
 |[],s,n=>[(s,n)]
 |(k,v)::r,s,n=>if k=s then (k,n)::r else (k,v)::setS r s n
def entS (L:List (Sd × Int))(s:Sd):List (Sd × Int):=match posS L s with|some _=>L|none=>L++[(s,0)]
def addS (L:List (Sd × Int))(s:Sd)(d:Int):List (Sd × Int):=setS L s (valS L s+d)
theorem keyC_inj {s t:Sd}(h:Value.agg (keyC s)=.agg (keyC t)):s=t:=by
 obtain⟨⟨a,b⟩,c,d⟩:=s
 obtain⟨⟨a',b'⟩,c',d'⟩:=t
 simp [keyC,iv] at h
 obtain⟨h1,h2,h3,h4⟩:=h
 rw [h1,h2,h3,h4]
theorem posS_none {L:List (Sd × Int)}{s:Sd}:posS L s=none↔∀ e∈L,e.1≠s:=by
 induction L with
 |nil=>simp [posS]
 |cons x r ih =>
  obtain⟨k,v⟩:=x
  simp only [posS,List.mem_cons]
  by_cases h:k=s
  ·simp only [h,if_true]
   constructor
   ·intro h2;cases h2
   ·intro h2;exact absurd rfl (h2 (s,v) (.inl rfl))
  ·simp only [h,if_false,Option.map_eq_none_iff,ih]
   constructor
   ·rintro h2 e (rfl|he)
    ·exact h
    ·exact h2 e he
   ·exact fun h2 e he=>h2 e (.inr he)
theorem posS_some {L:List (Sd × Int)}{s:Sd}{p:Nat × Int}(h:posS L s=some p):L[p.1]? = some (s,p.2):=by
 induction L generalizing p with
 |nil=>cases h
 |cons x r ih =>
  obtain⟨k,v⟩:=x
  simp only [posS] at h
  split at h
  ·rename_i hk
   injection h with h
   subst h hk
   rfl
  ·rw [Option.map_eq_some_iff] at h
   obtain⟨q,hq,rfl⟩:=h
   exact ih hq
structure MapW (L:List (Sd × Int)):Prop where
 nodup:(L.map (·.1)).Nodup
 wide:∀ e∈L,sdW e.1=true
theorem MapW.nil:MapW []:=⟨by simp,fun _ h=>by cases h⟩
theorem setS_keys {L:List (Sd × Int)}{s:Sd}{n:Int}:(setS L s n).map (·.1)=match posS L s with|some _=>L.map (·.1)|none=>L.map (·.1)++[s]:=by
 induction L with
 |nil=>rfl
 |cons x r ih =>
  obtain⟨k,v⟩:=x
  simp only [setS,posS]
  by_cases h:k=s
  ·simp [h]
  ·simp only [h,if_false,List.map_cons,ih]
   cases posS r s <;> rfl
theorem setS_mem {L:List (Sd × Int)}{s:Sd}{n:Int}{e:Sd × Int}(h:e∈setS L s n):e∈L∨e=(s,n):=by
 induction L with
 |nil=>simp [setS] at h;exact .inr h
 |cons x r ih =>
  obtain⟨k,v⟩:=x
  simp only [setS] at h
  split at h
  ·rename_i hk
   rcases List.mem_cons.1 h with h|h
   ·exact .inr (by rw [h,hk])
   ·exact .inl (.tail _ h)
  ·rcases List.mem_cons.1 h with h|h
   ·exact .inl (by rw [h];exact .head _)
   ·rcases ih h with h|h
    ·exact .inl (.tail _ h)
    ·exact .inr h
theorem MapW.set {L:List (Sd × Int)}(h:MapW L){s:Sd}(hs:sdW s=true)(n:Int):MapW (setS L s n):=by
 refine⟨?_,fun e he=>?_⟩
 ·rw [setS_keys]
  cases hp:posS L s with
  |some p=>exact h.nodup
  |none =>
   refine List.nodup_append.2 ⟨h.nodup,by simp,fun a ha b hb e=>?_⟩
   obtain⟨x,hx,rfl⟩:=List.mem_map.1 ha
   simp at hb
   exact posS_none.1 hp x hx (e.trans hb)
 ·rcases setS_mem he with he|he
  ·exact h.wide e he
  ·rw [he];exact hs
theorem MapW.ent {L:List (Sd × Int)}(h:MapW L){s:Sd}(hs:sdW s=true):MapW (entS L s):=by
 unfold entS
 cases hp:posS L s with
 |some p=>exact h
 |none =>
  refine⟨?_,fun e he=>?_⟩
  ·rw [List.map_append]
   refine List.nodup_append.2 ⟨h.nodup,by simp,fun a ha b hb e=>?_⟩
   obtain⟨x,hx,rfl⟩:=List.mem_map.1 ha
   simp at hb
   exact posS_none.1 hp x hx (e.trans hb)
  ·rcases List.mem_append.1 he with he|he
   ·exact h.wide e he
   ·simp at he
    rw [he];exact hs
theorem posS_app {L:List (Sd × Int)}{s:Sd}{n:Int}(h:posS L s=none):posS (L++[(s,n)]) s=some (L.length,n):=by
 induction L with
 |nil=>simp [posS]
 |cons x r ih =>
  obtain⟨k,v⟩:=x
  simp only [posS] at h
  split at h
  ·cases h
  ·rename_i hk
   simp only [List.cons_append,posS,hk,if_false,ih (Option.map_eq_none_iff.1 h)]
   rfl
theorem posS_ent {L:List (Sd × Int)}{s:Sd}:posS (entS L s) s=some (idxS L s,valS L s):=by
 unfold entS idxS valS
 cases hp:posS L s with
 |some p=>simp only [hp]
 |none=>exact posS_app hp
theorem valS_ent {L:List (Sd × Int)}{s:Sd}:valS (entS L s) s=valS L s:=by
 rw [valS,posS_ent]
theorem setS_some {L:List (Sd × Int)}{s:Sd}{p:Nat × Int}(h:posS L s=some p)(n:Int):setS L s n=L.set p.1 (s,n):=by
 induction L generalizing p with
 |nil=>cases h
 |cons x r ih =>
  obtain⟨k,v⟩:=x
  simp only [posS] at h
  split at h
  ·rename_i hk
   injection h with h
   subst h
   simp [setS,hk]
  ·rename_i hk
   rw [Option.map_eq_some_iff] at h
   obtain⟨q,hq,rfl⟩:=h
   simp [setS,hk,ih hq]
theorem setS_none {L:List (Sd × Int)}{s:Sd}(h:posS L s=none)(n:Int):setS L s n=L++[(s,n)]:=by
 induction L with
 |nil=>rfl
 |cons x r ih =>
  obtain⟨k,v⟩:=x
  simp only [posS] at h
  split at h
  ·cases h
  ·rename_i hk
   simp [setS,hk,ih (Option.map_eq_none_iff.1 h)]
theorem setS_ent {L:List (Sd × Int)}{s:Sd}{n:Int}:(entS L s).set (idxS L s) (s,n)=setS L s n:=by
 unfold entS idxS
 cases hp:posS L s with
 |some p=>rw [setS_some hp]
 |none =>
  rw [setS_none hp]
  show (L++[(s,0)]).set L.length (s,n)=_
  simp
theorem mapS_at {L:List (Sd × Int)}{i:Nat}{e:Sd × Int}(h:L[i]? = some e):(mapS L)[i]? = some (.agg (keyC e.1),iv e.2):=by
 unfold mapS
 rw [List.getElem?_map,h];rfl
theorem mapS_set {L:List (Sd × Int)}{i:Nat}{s:Sd}{n:Int}:(mapS L).set i (.agg (keyC s),iv n)=mapS (L.set i (s,n)):=by
 unfold mapS
 rw [List.map_set]
theorem mapS_app {L:List (Sd × Int)}{s:Sd}{n:Int}:mapS L++[(.agg (keyC s),iv n)]=mapS (L++[(s,n)]):=by
 unfold mapS
 rw [List.map_append];rfl
theorem mapS_len {L:List (Sd × Int)}:(mapS L).length=L.length:=by unfold mapS;simp
theorem wide_fits {p:Int × Int}(h:wide p=true):fitsK .i64 p.1=true∧fitsK .i64 p.2=true:=by
 unfold wide at h
 simp only [Bool.and_eq_true,decide_eq_true_eq] at h
 simp only [fitsK,Bool.and_eq_true,decide_eq_true_eq]
 omega
theorem keyB_sd {s:Sd}(h:sdW s=true):keyB std (keyC s).toList=true:=by
 unfold sdW at h
 rw [Bool.and_eq_true] at h
 have h1:=wide_fits h.1
 have h2:=wide_fits h.2
 show (fitsK .i64 s.1.1&&(fitsK .i64 s.1.2&&(fitsK .i64 s.2.1&&(fitsK .i64 s.2.2&&true))))=true
 rw [h1.1,h1.2,h2.1,h2.2]
 rfl
theorem vkey_S {L:List (Sd × Int)}(hL:MapW L){s:Sd}(hs:sdW s=true){F:Nat→Value→Prop}{G:Prop}(h:match posS L s with|some p=>F p.1 (iv p.2)|none=>G):vkey std 4 (mapS L) (keyC s) F G:=by
 refine⟨fun e he=>?_,⟨rfl,keyB_sd hs⟩,?_⟩
 ·unfold mapS at he
  obtain⟨x,hx,rfl⟩:=List.mem_map.1 he
  exact⟨_,rfl,rfl,keyB_sd (hL.wide x hx)⟩
 ·cases hp:posS L s with
  |some p =>
   rw [hp] at h
   refine .inl ⟨p.1,iv p.2,mapS_at (posS_some hp),fun j u hj=>?_,h⟩
   unfold mapS at hj
   rw [List.getElem?_map,Option.map_eq_some_iff] at hj
   obtain⟨e,he,he2⟩:=hj
   injection he2 with he2 _
   have hk:=keyC_inj he2
   have h1:(L.map (·.1))[j]? = some s:=by rw [List.getElem?_map,he];exact congrArg some hk
   have h2:(L.map (·.1))[p.1]? = some s:=by rw [List.getElem?_map,posS_some hp];rfl
   exact (List.getElem?_inj (List.getElem?_eq_some_iff.1 h1).1 hL.nodup).1 (h1.trans h2.symm)
  |none =>
   rw [hp] at h
   refine .inr ⟨fun e he=>?_,h⟩
   unfold mapS at he
   obtain⟨x,hx,rfl⟩:=List.mem_map.1 he
   exact fun e=>posS_none.1 hp x hx (keyC_inj e)
theorem vkey_look {L:List (Sd × Int)}(hL:MapW L){s:Sd}(hs:sdW s=true){K:Value→Prop}(h:K (iv (valS L s))):vkey std 4 (mapS L) (keyC s) (fun _ v=>K v) (K (iv 0)):=by
 refine vkey_S hL hs ?_
 unfold valS at h
 cases hp:posS L s with
 |some p=>rw [hp] at h;exact h
 |none=>rw [hp] at h;exact h
theorem upd_self {α:Type}:∀ {l:List (Nat × α)} {k:Nat} {v:α},look l k=some v→upd l k v=l
 |[],_,_,h=>by cases h
 |(j,u)::r,k,v,h=>by
  rw [look_cons] at h
  rw [upd_cons]
  split at h
  ·rename_i hb
   injection h with h
   rw [h,beq_true hb]
  ·rename_i hb
   rw [upd_self h]
theorem upd_upd {α:Type}:∀ (l:List (Nat × α)) (k:Nat) (u v:α),upd (upd l k u) k v=upd l k v
 |[],k,u,v=>by rw [upd_nil,upd_cons,Nat.beq_refl,upd_nil]
 |(j,x)::r,k,u,v=>by
  rw [upd_cons,upd_cons]
  cases hb:Nat.beq j k with
  |true =>
   show upd ((j,u)::r) k v=(j,v)::r
   rw [upd_cons,hb]
  |false =>
   show upd ((j,x)::upd r k u) k v=(j,x)::upd r k v
   rw [upd_cons,hb,upd_upd]
theorem vkey_ent {L:List (Sd × Int)}(hL:MapW L){s:Sd}(hs:sdW s=true){K:KE}{h:Heap}{k nx:Nat}(hk:look h k=some (.map (mapS L)))(hK:K (.tuple #[iv (valS L s),iv (idxS L s)]) (upd h k (.map (mapS (entS L s)))) nx) :
  vkey std 4 (mapS L) (keyC s) (fun i v=>K (.tuple #[v,.int .i64 i]) h nx) (K (.tuple #[iv 0,.int .i64 (mapS L).length]) (upd h k (.map (mapS L++[(.agg (keyC s),iv 0)]))) nx):=by
 refine vkey_S hL hs ?_
 unfold valS idxS entS at hK
 cases hp:posS L s with
 |some p =>
  rw [hp] at hK
  have hK:K (.tuple #[iv p.2,iv p.1]) (upd h k (.map (mapS L))) nx:=hK
  rw [upd_self hk] at hK
  exact hK
 |none =>
  rw [hp] at hK
  show K (.tuple #[iv 0,.int .i64 (mapS L).length]) (upd h k (.map (mapS L++[(.agg (keyC s),iv 0)]))) nx
  rw [mapS_app,mapS_len]
  exact hK
def BndS (L:List (Sd × Int))(N:Int):Prop:=∀ e∈L,-N≤e.2∧e.2≤N
theorem BndS.val {L:List (Sd × Int)}{N:Int}(h:BndS L N)(hN:0≤N)(s:Sd) : -N≤valS L s∧valS L s≤N:=by
 unfold valS
 cases hp:posS L s with
 |some p=>exact h _ (List.mem_of_getElem? (posS_some hp))
 |none=>exact⟨by show -N≤0;omega,hN⟩
theorem BndS.add {L:List (Sd × Int)}{N:Int}(h:BndS L N)(hN:0≤N){s:Sd}{d:Int}(hd : -1≤d∧d≤1):BndS (addS L s d) (N+1):=by
 intro e he
 have hv:=h.val hN s
 rcases setS_mem he with he|he
 ·have:=h e he
  omega
 ·rw [he]
  show -(N+1)≤valS L s+d∧valS L s+d≤N+1
  omega
theorem MapW.add {L:List (Sd × Int)}(h:MapW L){s:Sd}(hs:sdW s=true)(d:Int):MapW (addS L s d):=h.set hs _
end Go.Aw
end

noncomputable section
namespace Go.Aw
set_option maxRecDepth 100000
section
variable {A:Ar}{T:Tab}{C:VC}{Y:VY}{tn:Nat}{ops:List Oper}
theorem vs_of {o:Oper}{e:List (Nat × Value)}{h:Heap}{nx d:Nat}{K:KS}(hg:o.guard=none)(hd:o.dst=some d)(hlt:Nat.blt d tn=true)(h1:vop A T C Y e h nx o.op (fun v h' nx'=>K (put e d v) h' nx')):vstep A T C Y tn ops o e h nx K:=by
 unfold vstep vguard
 rw [hg]
 show vop A T C Y e h nx o.op fun v h' nx'=>vput tn e o.dst v fun e'=>K e' h' nx'
 simp only [hd,vput,hlt]
 exact h1
theorem vs_no {o:Oper}{e:List (Nat × Value)}{h:Heap}{nx:Nat}{K:KS}(hg:o.guard=none)(hd:o.dst=none)(h1:vop A T C Y e h nx o.op (fun v h' nx'=>K e h' nx')):vstep A T C Y tn ops o e h nx K:=by
 unfold vstep vguard
 rw [hg]
 show vop A T C Y e h nx o.op fun v h' nx'=>vput tn e o.dst v fun e'=>K e' h' nx'
 simp only [hd,vput]
 exact h1
theorem vregA_S (hC:DetC C)(hY:DetC Y){b:Nat}{ops:Array Oper}{e:List (Nat × Value)}{h:Heap}{nx:Nat}{K:KS}(hl:linB ops.toList ops.toList 0=true)(S:List Nat→KS)(h0:S [] e h nx)
  (hstep:∀ done i o e h nx,S done e h nx→i∉done→(∀ x∈predsOf o,x∈done)→getL ops.toList i=some o→vstep A T C Y tn ops.toList o e h nx (S (i::done))) (hend:∀ done e h nx,S done e h nx→(∀ i,i<ops.size→i∈done)→K e h nx) :
  vregA A T C Y tn (.inv b) ops e h nx K:=by
 refine⟨K,vany_inv hC hY hl S hstep (fun done e h nx hS hd=>.inl (hend done e h nx hS fun i hi=>hd i (by simpa using hi))) _ _ _ _ _ ?_ h0,fun _ _ _ q=>q⟩
 refine Nat.le_trans (List.length_filter_le _ _) (by simp)
theorem vload_sc {t k o:Nat}{h:Heap}{K:Value→Prop}{ti:TyI}{wr g:Bool}{sz:Nat}{cs:List Value}{v:Value}(ht:look T t=some ti)(ha:ti.isAgg=false)(hk:look h k=some (.cells wr g sz cs))(hn:nth cs o=some v)(hK:K v):vload T h t (.pointer (some ⟨k,o,none⟩)) K:=by
 unfold vload
 simp only [ht,hk,ha,hn]
 exact hK
theorem vload_ag {t k o:Nat}{h:Heap}{K:Value→Prop}{ti:TyI}{wr g:Bool}{sz:Nat}{cs l:List Value}(ht:look T t=some ti)(ha:ti.isAgg=true)(hk:look h k=some (.cells wr g sz cs))(hn:getN cs o ti.size=some l)(hK:K (.agg l.toArray)):vload T h t (.pointer (some ⟨k,o,none⟩)) K:=by
 unfold vload
 simp only [ht,hk,ha,hn]
 exact hK
theorem on_at {x:Option Value}{v:Value}{K:Value→Prop}(hx:x=some v)(h:K v):on x K:=by rw [hx];exact h
end
structure SE (d N:Nat) (f0:Nat→Option Value) (vv:Nat→Value) (H:List Nat→Heap) (done:List Nat) (e:List (Nat × Value)) (h:Heap) (nx:Nat):Prop where
 fix:∀ t,t<6→look e t=f0 t
 val:∀ i,i∈done→i<9→look e (d+i)=some (vv i)
 heap:h=H done
 nx:nx=N
 cl:9∈done→∀ j,j<9→j∈done
theorem SE.put {d N:Nat}{f0:Nat→Option Value}{vv:Nat→Value}{H:List Nat→Heap}{done:List Nat}{e:List (Nat × Value)}{h h':Heap}{nx i:Nat}(S:SE d N f0 vv H done e h nx)(hd:6≤d)(hi:i<9)(hn:i∉done)(hh:h'=H (i::done)):SE d N f0 vv H (i::done) (put e (d+i) (vv i)) h' nx:=by
 refine⟨fun t ht=>?_,fun j hj hj9=>?_,hh,S.nx,fun h9=>?_⟩
 ·rw [look_put,if_neg (by omega)]
  exact S.fix t ht
 ·rw [look_put]
  by_cases e:j=i
  ·rw [if_pos (by rw [e]),e]
  ·rw [if_neg (by omega)]
   exact S.val j ((List.mem_cons.1 hj).resolve_left e) hj9
 ·rcases List.mem_cons.1 h9 with h9|h9
  ·omega
  ·exact absurd (S.cl h9 i hi) hn
theorem SE.last {d N:Nat}{f0:Nat→Option Value}{vv:Nat→Value}{H:List Nat→Heap}{done:List Nat}{e:List (Nat × Value)}{h h':Heap}{nx:Nat}(S:SE d N f0 vv H done e h nx)(hall:∀ j,j<9→j∈done)(hh:h'=H (9::done)):SE d N f0 vv H (9::done) e h' nx:=by
 refine⟨S.fix,fun j hj hj9=>S.val j ((List.mem_cons.1 hj).resolve_left (by omega)) hj9,hh,S.nx,fun _ j hj=>.tail _ (hall j hj)⟩
def heapE (h:Heap)(m:Nat)(L:List (Sd × Int))(s:Sd)(n:Int)(done:List Nat):Heap:=match memB 9 done,memB 7 done with
 |true,_=>upd h m (.map (mapS (addS L s n)))
 |false,true=>upd h m (.map (mapS (entS L s)))
 |false,false=>h
theorem heapE_ne {h:Heap}{m a:Nat}{L:List (Sd × Int)}{s:Sd}{n:Int}{done:List Nat}(ha:a≠m):look (heapE h m L s n done) a=look h a:=by
 unfold heapE
 split <;> first|exact look_upd_ne _ _ ha|rfl
theorem heapE_at {h:Heap}{m:Nat}{L:List (Sd × Int)}{s:Sd}{n:Int}{done:List Nat}(hm:look h m=some (.map (mapS L)))(h9:9∉done):∃ L',look (heapE h m L s n done) m=some (.map (mapS L'))∧valS L' s=valS L s∧(L'=L∨L'=entS L s)∧(7∉done→L'=L∧heapE h m L s n done=h)∧(7∈done→L'=entS L s∧heapE h m L s n done=upd h m (.map (mapS (entS L s)))):=by
 have e9:memB 9 done=false:=by
  cases hb:memB 9 done with
  |false=>rfl
  |true=>exact absurd (memB_iff.1 hb) h9
 unfold heapE
 rw [e9]
 cases hb:memB 7 done with
 |true=>exact⟨_,look_upd_same _ _ _,valS_ent,.inr rfl,fun hn=>absurd (memB_iff.1 hb) hn,fun _=>⟨rfl,rfl⟩⟩
 |false=>exact⟨L,hm,rfl,.inl rfl,fun _=>⟨rfl,rfl⟩,fun h7=>by rw [memB_iff.2 h7] at hb;cases hb⟩
theorem heapE_skip {h:Heap}{m:Nat}{L:List (Sd × Int)}{s:Sd}{n:Int}{done:List Nat}{i:Nat}(h1:i≠9)(h2:i≠7):heapE h m L s n (i::done)=heapE h m L s n done:=by
 unfold heapE
 have a1:memB 9 (i::done)=memB 9 done:=by
  show (match Nat.beq i 9 with|true=>true|false=>memB 9 done)=_
  cases hb:Nat.beq i 9 with
  |true=>exact absurd (beq_true hb) h1
  |false=>rfl
 have a2:memB 7 (i::done)=memB 7 done:=by
  show (match Nat.beq i 7 with|true=>true|false=>memB 7 done)=_
  cases hb:Nat.beq i 7 with
  |true=>exact absurd (beq_true hb) h2
  |false=>rfl
 rw [a1,a2]
theorem heapE_7 {h:Heap}{m:Nat}{L:List (Sd × Int)}{s:Sd}{n:Int}{done:List Nat}(h9:9∉done):heapE h m L s n (7::done)=upd h m (.map (mapS (entS L s))):=by
 have e9:memB 9 (7::done)=false:=by
  cases hb:memB 9 (7::done) with
  |false=>rfl
  |true =>
   rcases List.mem_cons.1 (memB_iff.1 hb) with h|h
   ·cases h
   ·exact absurd h h9
 unfold heapE
 rw [e9]
 have e7:memB 7 (7::done)=true:=memB_iff.2 (.head _)
 rw [e7]
theorem heapE_9 {h:Heap}{m:Nat}{L:List (Sd × Int)}{s:Sd}{n:Int}{done:List Nat}:heapE h m L s n (9::done)=upd h m (.map (mapS (addS L s n))):=by
 unfold heapE
 have e9:memB 9 (9::done)=true:=memB_iff.2 (.head _)
 rw [e9]
def valE (m:Nat)(P Q:Int × Int)(n:Int)(L:List (Sd × Int))(r:Int):Nat→Value
 |0=>.map (some m)
 |1=>ptv P
 |2=>ptv Q
 |3=>.agg (keyC (P,Q))
 |4=>iv (valS L (P,Q))
 |5=>iv n
 |6=>iv r
 |7=>.tuple #[iv (valS L (P,Q)),iv (idxS L (P,Q))]
 |8=>iv (idxS L (P,Q))
 |_=>undef
end Go.Aw
end

noncomputable section
namespace Go.Aw
section
variable {ρ:Nat→Nat}{n0 k:Nat}{h:Heap}{o o':AObj}{r:List (Nat × AObj)}{wr g:Bool}{sz:Nat}{cs:List Value}
theorem iN {α:Type}{P:α→Prop}:∀ p∈([]:List α),P p:=fun _ h=>by cases h
theorem iE {e:List (Nat × Value)}{v:Value}{s:List (Nat × Value)}(h1:look e k=some (ren ρ v))(h2:nmTB n0 v=true)(h3:∀ p∈s,look e p.1=some (ren ρ p.2)∧nmT n0 p.2):∀ p∈(k,v)::s,look e p.1=some (ren ρ p.2)∧nmT n0 p.2 :=
 List.forall_mem_cons.2 ⟨⟨h1,nmTB_ok h2⟩,h3⟩
theorem iW (h1:Nat.ble (k+1) n0=true)(h2:look h (ρ k)=some o')(h4:ObjRen ρ n0 o o')(h3:∀ p∈r,p.1<n0∧∃ o',look h (ρ p.1)=some o'∧ObjRen ρ n0 p.2 o'):∀ p∈(k,o)::r,p.1<n0∧∃ o',look h (ρ p.1)=some o'∧ObjRen ρ n0 p.2 o' :=
 List.forall_mem_cons.2 ⟨⟨Nat.le_of_ble_eq_true h1,_,h2,h4⟩,h3⟩
theorem iG (h1:Nat.ble (k+1) n0=true)(h2:look h (ρ k)=some (.cells wr g sz cs))(h4:allG cs=true)(h3:∀ p∈r,p.1<n0∧∃ o',look h (ρ p.1)=some o'∧ObjRen ρ n0 p.2 o'):∀ p∈(k,.cells wr g sz cs)::r,p.1<n0∧∃ o',look h (ρ p.1)=some o'∧ObjRen ρ n0 p.2 o' :=
 iW h1 h2 (ObjRen_g h4) h3
theorem iF {α:Type}{E:El α}{l:List α}(h1:Nat.ble (k+1) n0=true)(h2:look h (ρ k)=some (.cells wr g sz (flat E.fl l)))(h3:∀ p∈r,p.1<n0∧∃ o',look h (ρ p.1)=some o'∧ObjRen ρ n0 p.2 o'):∀ p∈(k,.cells wr g sz (flat E.fl l))::r,p.1<n0∧∃ o',look h (ρ p.1)=some o'∧ObjRen ρ n0 p.2 o' :=
 iG h1 h2 (flat_g E l) h3
theorem iC (h1:Nat.ble (k+1) n0=true)(h2:look h (ρ k)=some (.cells wr g sz (cs.map (ren1 ρ))))(h4:nmLB n0 cs=true)(h3:∀ p∈r,p.1<n0∧∃ o',look h (ρ p.1)=some o'∧ObjRen ρ n0 p.2 o'):∀ p∈(k,.cells wr g sz cs)::r,p.1<n0∧∃ o',look h (ρ p.1)=some o'∧ObjRen ρ n0 p.2 o' :=
 iW h1 h2 ⟨rfl,rfl,rfl,rfl,nmLB_ok h4⟩ h3
theorem iJ {cs':List Value}(h1:Nat.ble (k+1) n0=true)(h2:look h (ρ k)=some (.cells wr g sz cs'))(h4:allG cs=true)(h5:cs'=cs)(h3:∀ p∈r,p.1<n0∧∃ o',look h (ρ p.1)=some o'∧ObjRen ρ n0 p.2 o'):∀ p∈(k,.cells wr g sz cs)::r,p.1<n0∧∃ o',look h (ρ p.1)=some o'∧ObjRen ρ n0 p.2 o' :=
 iW h1 h2 (ObjRen_j h4 h5) h3
theorem iK {k0 q:Nat}(h1:(Nat.beq k k0 || !Nat.beq k q)=true)(h3:∀ p∈r,p.1≠k0→p.1≠q):∀ p∈(k,o)::r,p.1≠k0→p.1≠q :=
 List.forall_mem_cons.2 ⟨fun hk e=>by
  simp only [Bool.or_eq_true,Bool.not_eq_true'] at h1
  rcases h1 with h1|h1
  ·exact hk (beq_true h1)
  ·exact beq_false h1 e,h3⟩
end
end Go.Aw
end

noncomputable section
namespace Go.Aw
set_option maxRecDepth 100000
def boxE (p:Int × Int):AObj:=.cells true false 1 [iv p.1,iv p.2]
theorem vb_build {A:Ar}{T:Tab}{C:VC}{Y:VY}{e:List (Nat × Value)}{h:Heap}{nx t n et s1 b1:Nat}{z1:Value}{ps:List (Nat × Operand)}{l:List (Nat × Value)}{cells:List Value}{K:KE}(hp:partsOK e ps=some l)(ht:look T t=some ⟨.ar n et,s1,b1,z1⟩)
  (hk:(look T et).isSome=true) (ha:aggParts l=true) (hf:fillL (places T ⟨.ar n et,s1,b1,z1⟩) l z1.cells.toList=some cells) (hK:K (.agg cells.toArray) h nx):vop A T C Y e h nx (.build t ps.toArray) K:=by
 show (match partsOK e ps with|some l=>vbuild T t l (fun v=>K v h nx)|none=>False)
 rw [hp]
 show vbuild T t l (fun v=>K v h nx)
 unfold vbuild
 simp only [ht,hk,ha,hf]
 exact hK
theorem vb_lookup {A:Ar}{T:Tab}{h:Heap}{t kt et k:Nat}{cs:Array Value}{s1 b1:Nat}{z1:Value}{ki ei:TyI}{es:List (Value × Value)}{K:Value→Prop}(ht:look T t=some ⟨.mpk kt et,s1,b1,z1⟩)(hk:look T kt=some ki)(he:look T et=some ei)(hm:look h k=some (.map es))
  (hv:vkey A ki.size es cs (fun _ v=>K v) (K ei.zv)):vlookup A T h t (.map (some k)) (.agg cs) false K:=by
 unfold vlookup
 simp only [ht,hk,he,hm]
 exact hv
theorem vb_entry {A:Ar}{T:Tab}{h:Heap}{nx t kt et k:Nat}{cs:Array Value}{s1 b1:Nat}{z1:Value}{ki ei:TyI}{es:List (Value × Value)}{K:KE}(ht:look T t=some ⟨.mpk kt et,s1,b1,z1⟩)(hk:look T kt=some ki)(he:look T et=some ei)(hm:look h k=some (.map es))(hs:isSc ei.zv=true)
  (hv:vkey A ki.size es cs (fun i v=>K (.tuple #[v,.int .i64 i]) h nx) (K (.tuple #[ei.zv,.int .i64 es.length]) (upd h k (.map (es++[(.agg cs,ei.zv)]))) nx)):vmapEntry A T h nx t (.map (some k)) (.agg cs) K:=by
 unfold vmapEntry
 simp only [ht,hk,he,hm,hs]
 exact hv
theorem vb_lookupS {T:Tab}{h:Heap}{t kt et k:Nat}{s1 b1:Nat}{z1:Value}{ki ei:TyI}{L:List (Sd × Int)}{s:Sd}{K:Value→Prop}(ht:look T t=some ⟨.mpk kt et,s1,b1,z1⟩)(hk:look T kt=some ki)(he:look T et=some ei)(hz:ei.zv=iv 0)(h4:ki.size=4)(hm:look h k=some (.map (mapS L)))
  (hL:MapW L) (hs:sdW s=true) (hK:K (iv (valS L s))):vlookup std T h t (.map (some k)) (.agg (keyC s)) false K:=by
 refine vb_lookup ht hk he hm ?_
 rw [hz,h4]
 exact vkey_look hL hs hK
theorem vb_entryS {T:Tab}{h:Heap}{nx t kt et k:Nat}{s1 b1:Nat}{z1:Value}{ki ei:TyI}{L:List (Sd × Int)}{s:Sd}{K:KE}(ht:look T t=some ⟨.mpk kt et,s1,b1,z1⟩)(hk:look T kt=some ki)(he:look T et=some ei)(hz:ei.zv=iv 0)(h4:ki.size=4)(hm:look h k=some (.map (mapS L)))
  (hL:MapW L) (hs:sdW s=true) (hK:K (.tuple #[iv (valS L s),iv (idxS L s)]) (upd h k (.map (mapS (entS L s)))) nx):vmapEntry std T h nx t (.map (some k)) (.agg (keyC s)) K:=by
 refine vb_entry ht hk he hm (by rw [hz];rfl) ?_
 rw [hz,h4]
 exact vkey_ent hL hs hm hK
theorem vb_store {h:Heap}{nx k i:Nat}{st:Int}{v:Value}{es:List (Value × Value)}{p:Value × Value}{K:KE}(hm:look h k=some (.map es))(hs:isSc v=true)(hst:st=((i:Nat):Int))(hi:es[i]? = some p)(hK:K undef (upd h k (.map (es.set i (p.1,v)))) nx):ventryStore h nx (.map (some k)) (.int .i64 st) v K:=by
 unfold ventryStore
 simp only [hm,hs]
 exact⟨i,p,hst,hi,hK⟩
def X84F:XF:=fun args h nx K=>match args with
 |[p,q,.int .i64 n,.pointer (some ⟨a,0,none⟩)]=>∃ (L:List (Sd × Int)) (P Q:Int × Int) (m:Nat) (wr g:Bool) (sz:Nat) (cs:List Value),p=ptv P∧q=ptv Q∧look h a=some (.cells wr g sz (.map (some m)::cs))∧look h m=some (.map (mapS L)) ∧
  (a<nx∧m<nx)∧MapW L∧BndS L 100000∧(wide P=true∧wide Q=true)∧(-1≤n∧n≤1)∧K (.tuple #[]) (upd (hput (hput h nx (boxE P)) (nx+1) (boxE Q)) m (.map (mapS (addS (addS L (P,Q) n) (Q,P) (-n))))) (nx+2)
 |_=>False
def X84':Nat × XF:=(44,X84F)
theorem X84_det:∀ args h nx,DetE (X84F args h nx):=by
 intro args h nx K hx
 unfold X84F at hx
 split at hx
 case h_2=>exact hx.elim
 obtain⟨L,P,Q,m,wr,g,sz,cs,h1,h2,h3,h4,h5,h6,h7,h8,h9,hK⟩:=hx
 exact⟨_,_,_,hK,fun K' q=>⟨L,P,Q,m,wr,g,sz,cs,h1,h2,h3,h4,h5,h6,h7,h8,h9,q⟩⟩
attribute [local irreducible] vregA in
theorem x84':XOK Go.Proofs.Tryz.prog X84'.1 X84'.2:=by
 refine⟨fun args h nx K hx=>body_calls (xl:=[]) .nil 44 args h nx K ?_,X84_det⟩
 change X84F args h nx K at hx
 unfold X84F at hx
 split at hx
 case h_2=>exact hx.elim
 rename_i p q n a
 obtain⟨L,P,Q,m,wr,g,sz,cs,rfl,rfl,ha,hm,⟨han,hmn⟩,hW,hB,⟨wP,wQ⟩,⟨hn1,hn2⟩,hK⟩:=hx
 have ham:a≠m:=by
  rintro rfl
  rw [hm] at ha
  cases ha
 have wPQ:sdW (P,Q)=true:=by unfold sdW;rw [wP,wQ];rfl
 have wQP:sdW (Q,P)=true:=by unfold sdW;rw [wP,wQ];rfl
 generalize hH:hput (hput h nx (boxE P)) (nx+1) (boxE Q)=H at hK
 have gA:look H a=some (.cells wr g sz (.map (some m)::cs)):=by rw [← hH,look_hput_ne _ _ (by omega),look_hput_ne _ _ (by omega)];exact ha
 have gM:look H m=some (.map (mapS L)):=by rw [← hH,look_hput_ne _ _ (by omega),look_hput_ne _ _ (by omega)];exact hm
 have gP:look H nx=some (boxE P):=by rw [← hH,look_hput_ne _ _ (by omega),look_hput_same]
 have gQ:look H (nx+1)=some (boxE Q):=by rw [← hH,look_hput_same]
 have hmP:nx≠m:=by omega
 have hmQ:nx+1≠m:=by omega
 (conv=>whnf)
 show vregA std tyT (CX (look [])) noY 25 (.inv nx) _ _ (hput (hput h nx (boxE P)) (nx+1) (boxE Q)) (nx+2) _
 rw [hH]
 refine vregA_S (CX_det (XLOK.nil).look) noY_det rfl (SE 7 (nx+2) (look _) (valE m P Q n L (valS L (P,Q)+n)) (heapE H m L (P,Q) n)) ⟨fun _ _=>rfl,fun _ hi=>(by cases hi),rfl,rfl,fun h9=>(by cases h9)⟩ ?_ ?_
 ·intro done i o e h' nx' S hnd hpre ho
  have v0:0∈done→look e 7=some (.map (some m)):=fun h=>S.val 0 h (by decide)
  have v1:1∈done→look e (7+1)=some (ptv P):=fun h=>S.val 1 h (by decide)
  have v2:2∈done→look e (7+2)=some (ptv Q):=fun h=>S.val 2 h (by decide)
  have v3:3∈done→look e (7+3)=some (.agg (keyC (P,Q))):=fun h=>S.val 3 h (by decide)
  have v4:4∈done→look e (7+4)=some (iv (valS L (P,Q))):=fun h=>S.val 4 h (by decide)
  have v5:5∈done→look e (7+5)=some (iv n):=fun h=>S.val 5 h (by decide)
  have v6:6∈done→look e (7+6)=some (iv (valS L (P,Q)+n)):=fun h=>S.val 6 h (by decide)
  have v7:7∈done→look e (7+7)=some (.tuple #[iv (valS L (P,Q)),iv (idxS L (P,Q))]):=fun h=>S.val 7 h (by decide)
  have v8:8∈done→look e (7+8)=some (iv (idxS L (P,Q))):=fun h=>S.val 8 h (by decide)
  have hh:=S.heap
  subst hh
  have k9:∀ j,j<9→j∉done→9∉done:=fun j hj hn h9=>hn (S.cl h9 j hj)
  match i,ho,hnd with
  |0,ho,hnd =>
   cases ho
   refine vs_of rfl rfl rfl (on_at (S.fix 3 (by decide)) (vload_sc (v:=.map (some m)) rfl rfl ((heapE_ne ham).trans gA) rfl ?_))
   exact S.put (by decide) (by decide) hnd (heapE_skip (by decide) (by decide)).symm
  |1,ho,hnd =>
   cases ho
   refine vs_of rfl rfl rfl (on_at (S.fix 4 (by decide)) (vload_ag rfl rfl ((heapE_ne hmP).trans gP) rfl ?_))
   exact S.put (by decide) (by decide) hnd (heapE_skip (by decide) (by decide)).symm
  |2,ho,hnd =>
   cases ho
   refine vs_of rfl rfl rfl (on_at (S.fix 5 (by decide)) (vload_ag rfl rfl ((heapE_ne hmQ).trans gQ) rfl ?_))
   exact S.put (by decide) (by decide) hnd (heapE_skip (by decide) (by decide)).symm
  |3,ho,hnd =>
   cases ho
   have h1:=v1 (hpre 1 (by decide))
   have h2:=v2 (hpre 2 (by decide))
   refine vs_of rfl rfl rfl ?_
   refine vb_build (T:=tyT) (ps:=[(0,.tmp (7+1)),(1,.tmp (7+2))]) (l:=[(0,ptv P),(1,ptv Q)]) (cells:=(keyC (P,Q)).toList) (by simp only [partsOK,opv,h1,h2]) rfl rfl rfl rfl ?_
   exact S.put (by decide) (by decide) hnd (heapE_skip (by decide) (by decide)).symm
  |4,ho,hnd =>
   cases ho
   have h0:=v0 (hpre 0 (by decide))
   have h3:=v3 (hpre 3 (by decide))
   obtain⟨L',q1,q2,q3,_,_⟩:=heapE_at (n:=n) (s:=(P,Q)) gM (k9 4 (by decide) hnd)
   have wL':MapW L':=q3.elim (fun h=>h▸hW) (fun h=>h▸hW.ent wPQ)
   refine vs_of rfl rfl rfl (on_at h0 (on_at h3 (vb_lookupS rfl rfl rfl rfl rfl q1 wL' wPQ ?_)))
   rw [q2]
   exact S.put (by decide) (by decide) hnd (heapE_skip (by decide) (by decide)).symm
  |5,ho,hnd =>
   cases ho
   refine vs_of rfl rfl rfl (on_at (S.fix 2 (by decide)) ?_)
   exact S.put (by decide) (by decide) hnd (heapE_skip (by decide) (by decide)).symm
  |6,ho,hnd =>
   cases ho
   have h4:=v4 (hpre 4 (by decide))
   have h5:=v5 (hpre 5 (by decide))
   have hv:=hB.val (by decide) (P,Q)
   refine vs_of rfl rfl rfl (on_at h4 (on_at h5 ?_))
   show must (fitsK .i64 (valS L (P,Q)+n)) _
   refine must_of ?_ ?_
   ·simp only [fitsK,Bool.and_eq_true,decide_eq_true_eq]
    omega
   ·exact S.put (by decide) (by decide) hnd (heapE_skip (by decide) (by decide)).symm
  |7,ho,hnd =>
   cases ho
   have h0:=v0 (hpre 0 (by decide))
   have h3:=v3 (hpre 3 (by decide))
   have n9:=k9 7 (by decide) hnd
   obtain⟨L',q1,q2,q3,q4,_⟩:=heapE_at (n:=n) (s:=(P,Q)) gM n9
   obtain⟨rfl,q5⟩:=q4 hnd
   refine vs_of rfl rfl rfl (on_at h0 (on_at h3 (vb_entryS rfl rfl rfl rfl rfl q1 hW wPQ ?_)))
   refine S.put (by decide) (by decide) hnd ?_
   rw [heapE_7 n9,q5]
  |8,ho,hnd =>
   cases ho
   have h7:=v7 (hpre 7 (by decide))
   refine vs_of rfl rfl rfl (on_at h7 ?_)
   exact S.put (by decide) (by decide) hnd (heapE_skip (by decide) (by decide)).symm
  |9,ho,hnd =>
   cases ho
   have hall:∀ j,j<9→j∈done:=fun j hj=>hpre j (by
    match j,hj with
    |0,_=>decide
    |1,_=>decide
    |2,_=>decide
    |3,_=>decide
    |4,_=>decide
    |5,_=>decide
    |6,_=>decide
    |7,_=>decide
    |8,_=>decide)
   have h0:=v0 (hall 0 (by decide))
   have h6:=v6 (hall 6 (by decide))
   have h8:=v8 (hall 8 (by decide))
   obtain⟨L',q1,q2,q3,_,q4⟩:=heapE_at (n:=n) (s:=(P,Q)) gM hnd
   obtain⟨rfl,q5⟩:=q4 (hall 7 (by decide))
   refine vs_no rfl rfl (on_at h0 (on_at h8 (on_at h6 (vb_store q1 rfl rfl (mapS_at (posS_some posS_ent)) ?_))))
   refine S.last hall ?_
   rw [heapE_9,q5,upd_upd,mapS_set,setS_ent]
   rfl
  |i+10,ho,hnd=>cases ho
 ·intro done e h' nx' S hall
  have f2:look e 2=some (iv n):=S.fix 2 (by decide)
  have f3:look e 3=some (.pointer (some ⟨a,0,none⟩)):=S.fix 3 (by decide)
  have f4:look e 4=some (.pointer (some ⟨nx,0,none⟩)):=S.fix 4 (by decide)
  have f5:look e 5=some (.pointer (some ⟨nx+1,0,none⟩)):=S.fix 5 (by decide)
  have hh:=S.heap
  have hnx:=S.nx
  have e9:memB 9 done=true:=memB_iff.2 (hall 9 (by decide))
  unfold heapE at hh
  rw [e9] at hh
  subst hh hnx
  clear S hall
  have hB1:BndS (addS L (P,Q) n) 100001:=hB.add (by decide) ⟨hn1,hn2⟩
  have hW1:=hW.add wPQ n
  generalize hL1:addS L (P,Q) n=L1 at hB1 hW1 hK ⊢
  generalize hH1:upd H m (.map (mapS L1))=H1
  have gA1:look H1 a=some (.cells wr g sz (.map (some m)::cs)):=by rw [← hH1,look_upd_ne _ _ ham];exact gA
  have gM1:look H1 m=some (.map (mapS L1)):=by rw [← hH1,look_upd_same]
  have gP1:look H1 nx=some (boxE P):=by rw [← hH1,look_upd_ne _ _ hmP];exact gP
  have gQ1:look H1 (nx+1)=some (boxE Q):=by rw [← hH1,look_upd_ne _ _ hmQ];exact gQ
  (conv=>whnf)
  show vregA std tyT (CX (look [])) noY 25 (.inv nx) _ e H1 (nx+2) _
  refine vregA_S (CX_det (XLOK.nil).look) noY_det rfl (SE 16 (nx+2) (look _) (valE m Q P n L1 (valS L1 (Q,P) - n)) (heapE H1 m L1 (Q,P) (-n))) ⟨fun _ _=>rfl,fun _ hi=>(by cases hi),rfl,rfl,fun h9=>(by cases h9)⟩ ?_ ?_
  ·intro done i o e h' nx' S hnd hpre ho
   have v0:0∈done→look e 16=some (.map (some m)):=fun h=>S.val 0 h (by decide)
   have v1:1∈done→look e (16+1)=some (ptv Q):=fun h=>S.val 1 h (by decide)
   have v2:2∈done→look e (16+2)=some (ptv P):=fun h=>S.val 2 h (by decide)
   have v3:3∈done→look e (16+3)=some (.agg (keyC (Q,P))):=fun h=>S.val 3 h (by decide)
   have v4:4∈done→look e (16+4)=some (iv (valS L1 (Q,P))):=fun h=>S.val 4 h (by decide)
   have v5:5∈done→look e (16+5)=some (iv n):=fun h=>S.val 5 h (by decide)
   have v6:6∈done→look e (16+6)=some (iv (valS L1 (Q,P) - n)):=fun h=>S.val 6 h (by decide)
   have v7:7∈done→look e (16+7)=some (.tuple #[iv (valS L1 (Q,P)),iv (idxS L1 (Q,P))]):=fun h=>S.val 7 h (by decide)
   have v8:8∈done→look e (16+8)=some (iv (idxS L1 (Q,P))):=fun h=>S.val 8 h (by decide)
   have hh:=S.heap
   subst hh
   have k9:∀ j,j<9→j∉done→9∉done:=fun j hj hn h9=>hn (S.cl h9 j hj)
   match i,ho,hnd with
   |0,ho,hnd =>
    cases ho
    refine vs_of rfl rfl rfl (on_at ((S.fix 3 (by decide)).trans f3) (vload_sc (v:=.map (some m)) rfl rfl ((heapE_ne ham).trans gA1) rfl ?_))
    exact S.put (by decide) (by decide) hnd (heapE_skip (by decide) (by decide)).symm
   |1,ho,hnd =>
    cases ho
    refine vs_of rfl rfl rfl (on_at ((S.fix 5 (by decide)).trans f5) (vload_ag rfl rfl ((heapE_ne hmQ).trans gQ1) rfl ?_))
    exact S.put (by decide) (by decide) hnd (heapE_skip (by decide) (by decide)).symm
   |2,ho,hnd =>
    cases ho
    refine vs_of rfl rfl rfl (on_at ((S.fix 4 (by decide)).trans f4) (vload_ag rfl rfl ((heapE_ne hmP).trans gP1) rfl ?_))
    exact S.put (by decide) (by decide) hnd (heapE_skip (by decide) (by decide)).symm
   |3,ho,hnd =>
    cases ho
    have h1:=v1 (hpre 1 (by decide))
    have h2:=v2 (hpre 2 (by decide))
    refine vs_of rfl rfl rfl ?_
    refine vb_build (T:=tyT) (ps:=[(0,.tmp (16+1)),(1,.tmp (16+2))]) (l:=[(0,ptv Q),(1,ptv P)]) (cells:=(keyC (Q,P)).toList) (by simp only [partsOK,opv,h1,h2]) rfl rfl rfl rfl ?_
    exact S.put (by decide) (by decide) hnd (heapE_skip (by decide) (by decide)).symm
   |4,ho,hnd =>
    cases ho
    have h0:=v0 (hpre 0 (by decide))
    have h3:=v3 (hpre 3 (by decide))
    obtain⟨L',q1,q2,q3,_,_⟩:=heapE_at (n:=(-n)) (s:=(Q,P)) gM1 (k9 4 (by decide) hnd)
    have wL':MapW L':=q3.elim (fun h=>h▸hW1) (fun h=>h▸hW1.ent wQP)
    refine vs_of rfl rfl rfl (on_at h0 (on_at h3 (vb_lookupS rfl rfl rfl rfl rfl q1 wL' wQP ?_)))
    rw [q2]
    exact S.put (by decide) (by decide) hnd (heapE_skip (by decide) (by decide)).symm
   |5,ho,hnd =>
    cases ho
    refine vs_of rfl rfl rfl (on_at ((S.fix 2 (by decide)).trans f2) ?_)
    exact S.put (by decide) (by decide) hnd (heapE_skip (by decide) (by decide)).symm
   |6,ho,hnd =>
    cases ho
    have h4:=v4 (hpre 4 (by decide))
    have h5:=v5 (hpre 5 (by decide))
    have hv:=hB1.val (by decide) (Q,P)
    refine vs_of rfl rfl rfl (on_at h4 (on_at h5 ?_))
    show must (fitsK .i64 (valS L1 (Q,P) - n)) _
    refine must_of ?_ ?_
    ·simp only [fitsK,Bool.and_eq_true,decide_eq_true_eq]
     omega
    ·exact S.put (by decide) (by decide) hnd (heapE_skip (by decide) (by decide)).symm
   |7,ho,hnd =>
    cases ho
    have h0:=v0 (hpre 0 (by decide))
    have h3:=v3 (hpre 3 (by decide))
    have n9:=k9 7 (by decide) hnd
    obtain⟨L',q1,q2,q3,q4,_⟩:=heapE_at (n:=(-n)) (s:=(Q,P)) gM1 n9
    obtain⟨rfl,q5⟩:=q4 hnd
    refine vs_of rfl rfl rfl (on_at h0 (on_at h3 (vb_entryS rfl rfl rfl rfl rfl q1 hW1 wQP ?_)))
    refine S.put (by decide) (by decide) hnd ?_
    rw [heapE_7 n9,q5]
   |8,ho,hnd =>
    cases ho
    have h7:=v7 (hpre 7 (by decide))
    refine vs_of rfl rfl rfl (on_at h7 ?_)
    exact S.put (by decide) (by decide) hnd (heapE_skip (by decide) (by decide)).symm
   |9,ho,hnd =>
    cases ho
    have hall:∀ j,j<9→j∈done:=fun j hj=>hpre j (by
     match j,hj with
     |0,_=>decide
     |1,_=>decide
     |2,_=>decide
     |3,_=>decide
     |4,_=>decide
     |5,_=>decide
     |6,_=>decide
     |7,_=>decide
     |8,_=>decide)
    have h0:=v0 (hall 0 (by decide))
    have h6:=v6 (hall 6 (by decide))
    have h8:=v8 (hall 8 (by decide))
    obtain⟨L',q1,q2,q3,_,q4⟩:=heapE_at (n:=(-n)) (s:=(Q,P)) gM1 hnd
    obtain⟨rfl,q5⟩:=q4 (hall 7 (by decide))
    refine vs_no rfl rfl (on_at h0 (on_at h8 (on_at h6 (vb_store q1 rfl rfl (mapS_at (posS_some posS_ent)) ?_))))
    refine S.last hall ?_
    rw [heapE_9,q5,upd_upd,mapS_set,setS_ent]
    rfl
   |i+10,ho,hnd=>cases ho
  ·intro done e h' nx' S hall
   skip
   have hh:=S.heap
   have hnx:=S.nx
   have e9:memB 9 done=true:=memB_iff.2 (hall 9 (by decide))
   unfold heapE at hh
   rw [e9] at hh
   subst hh hnx
   clear S hall
   (conv=>whnf)
   rw [← hH1,upd_upd]
   exact hK
end Go.Aw
end
