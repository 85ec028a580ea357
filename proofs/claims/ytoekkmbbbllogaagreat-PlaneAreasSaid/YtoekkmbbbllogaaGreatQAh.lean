/-
  Parts of a proof. No condition.
-/
import Derived.Test.YtoekkmbbbllogaaGreatQAg
set_option linter.unusedSimpArgs false
set_option linter.unusedVariables false
noncomputable section
namespace Go.Aw
open Go.RowKit
structure Plan where
 head:List Nat
 allocs:List Nat
 tail:List (Nat × Bool)
 keep:List Nat
def memB (n:Nat):List Nat→Bool
 |[]=>false
 |x::r=>match Nat.beq x n with|true=>true|false=>memB n r
theorem memB_iff {n:Nat}{l:List Nat}:memB n l=true↔n∈l:=by
 induction l with
 |nil=>simp [memB]
 |cons x r ih =>
  simp only [memB]
  split
  ·rename_i h;simp [(beq_true h).symm]
  ·rename_i h
   have:=beq_false h
   simp only [ih,List.mem_cons]
   exact⟨.inr,fun h=>h.resolve_left (fun e=>this e.symm)⟩
def subB:List Nat→List Nat→Bool
 |[],_=>true
 |x::r,l=>match memB x l with|true=>subB r l|false=>false
theorem subB_spec {a l:List Nat}(h:subB a l=true):∀ x∈a,x∈l:=by
 induction a with
 |nil=>simp
 |cons x r ih =>
  simp only [subB] at h
  split at h
  ·rename_i hx
   intro y hy
   rcases List.mem_cons.1 hy with rfl|hy
   ·exact memB_iff.1 hx
   ·exact ih h y hy
  ·cases h
def nodupB:List Nat→Bool
 |[]=>true
 |x::r=>match memB x r with|true=>false|false=>nodupB r
theorem nodupB_spec {l:List Nat}(h:nodupB l=true):l.Nodup:=by
 induction l with
 |nil=>simp
 |cons x r ih =>
  simp only [nodupB] at h
  split at h
  ·cases h
  ·rename_i hx
   rw [List.nodup_cons]
   exact⟨fun hm=>(by rw [memB_iff.2 hm] at hx;cases hx),ih h⟩
def predsOf (o:Oper):List Nat:=o.after.toList.filterMap fun e=>match Region.binds .any e with|true=>some e.on|false=>none
def predsAt (ops:List Oper)(i:Nat):List Nat:=match getL ops i with|some o=>predsOf o|none=>[]
def dstAt (ops:List Oper)(i:Nat):Option Nat:=match getL ops i with|some o=>o.dst|none=>none
def lookAt (ops:Array Oper)(i:Nat):List Nat:=match getL ops.toList i with|some o=>o.looksAt ops|none=>[]
def clo (ops:List Oper):Nat→List Nat→List Nat
 |0,acc=>acc
 |j+1,acc=>clo ops j (match memB j acc with|true=>predsAt ops j++acc|false=>acc)
def predsC (ops:List Oper)(t:Nat):List Nat:=clo ops t (predsAt ops t)
theorem clo_all {ops:List Oper}{L:Nat→Prop}(cl:∀ i,L i→∀ j∈predsAt ops i,L j):∀ (j:Nat) (acc:List Nat),(∀ x∈acc,L x)→∀ x∈clo ops j acc,L x
 |0,acc,h,x,hx=>h x hx
 |j+1,acc,h,x,hx=>by
  refine clo_all cl j _ (fun y hy=>?_) x hx
  split at hy
  ·rename_i hm
   rcases List.mem_append.1 hy with hy|hy
   ·exact cl j (h j (memB_iff.1 hm)) y hy
   ·exact h y hy
  ·exact h y hy
theorem predsC_all {ops:List Oper}{L:Nat→Prop}(cl:∀ i,L i→∀ j∈predsAt ops i,L j){t:Nat}(h:∀ j∈predsAt ops t,L j):∀ j∈predsC ops t,L j:=clo_all cl t _ h
def headOK (ops:List Oper):List Nat→List Nat→Bool
 |_,[]=>true
 |seen,i::r=>match subB (predsAt ops i) seen with|true=>headOK ops (i::seen) r|false=>false
def kindB (f:Op→Bool)(ops:List Oper)(i:Nat):Bool:=match getL ops i with|some o=>f o.op|none=>false
def tailOK (ops:List Oper)(loads:List Nat):Option Nat→List Nat→List (Nat × Bool)→Bool
 |_,_,[]=>true
 |last,got,(t,chk)::r =>
  (match last with | none=>true | some l=>memB l (predsC ops t))&&(chk || subB loads (predsC ops t++got))&&tailOK ops loads (some t) (predsC ops t++got) r
def isAlloc (o:Oper):Bool:=match o with|{ op:=.alloc _,guard:=none,dst:=some _,.. }=>true|_=>false
def isPlain:Op→Bool
 |.select _ _=>false
 |.defer _=>false
 |_=>true
def Plan.order (p:Plan):List Nat:=p.head++p.allocs++p.tail.map (·.1)
def planOK (ops:Array Oper)(p:Plan):Bool :=
 let l:=ops.toList
 let n:=List.range ops.size
 nodupB p.order&&n.all (fun i=>memB i p.order)&&p.order.all (fun i=>Nat.blt i ops.size)&&headOK l [] p.head &&
 n.all (fun i=>(predsAt l i).all fun j=>Nat.blt j i) &&
 n.all (fun i=>n.all fun j=>Nat.beq i j || (match dstAt l i,dstAt l j with | some d,some e=>!Nat.beq d e | _,_=>true)) &&
 (p.head++p.allocs).all (fun i=>n.all fun j=>Nat.beq j i || (match dstAt l i with | some d=>!memB d (lookAt ops j) || memB i (predsAt l j) | none=>true)) &&
 p.tail.all (fun t=>p.head.all fun j=>match dstAt l t.1 with | some d=>!memB d (lookAt ops j) || memB j (predsAt l t.1) | none=>true) &&
 n.all (fun i=>kindB isPlain l i) &&
 p.allocs.all (fun i=>match getL l i with|some o=>isAlloc o|none=>false) &&
 (match p.tail with
  |[]=>p.allocs.isEmpty
  |(t,_)::_=>subB p.allocs (predsC l t)&&subB (p.head.filter (kindB isStrong l)) (predsC l t)) &&
 tailOK l (p.head.filter (fun i=>!kindB isPure l i)) none [] p.tail
structure PlanOK (ops:Array Oper) (p:Plan):Prop where
 nodup:p.order.Nodup
 cover:∀ i,i<ops.size→i∈p.order
 inb:∀ i∈p.order,i<ops.size
 headP:headOK ops.toList [] p.head=true
 lin:∀ i,i<ops.size→∀ j∈predsAt ops.toList i,j<i
 dsts:∀ i j d,i<ops.size→j<ops.size→dstAt ops.toList i=some d→dstAt ops.toList j=some d→i=j
 look1:∀ i,i∈p.head∨i∈p.allocs→∀ j,j<ops.size→j≠i→∀ d,dstAt ops.toList i=some d→d∈lookAt ops j→i∈predsAt ops.toList j
 look2:∀ t c,(t,c)∈p.tail→∀ j∈p.head,∀ d,dstAt ops.toList t=some d→d∈lookAt ops j→j∈predsAt ops.toList t
 plain:∀ i,i<ops.size→kindB isPlain ops.toList i=true
 allocs:∀ i∈p.allocs,∃ o,ops[i]? = some o∧isAlloc o=true
 noTail:p.tail=[]→p.allocs=[]
 first:∀ t c r,p.tail=(t,c)::r→(∀ i∈p.allocs,i∈predsC ops.toList t)∧(∀ i∈p.head,kindB isStrong ops.toList i=true→i∈predsC ops.toList t)
 tailP:tailOK ops.toList (p.head.filter (fun i=>!kindB isPure ops.toList i)) none [] p.tail=true
theorem blt_true {a b:Nat}(h:Nat.blt a b=true):a<b:=Nat.le_of_ble_eq_true h
theorem planOK_spec {ops:Array Oper}{p:Plan}(h:planOK ops p=true):PlanOK ops p:=by
 unfold planOK at h
 simp only [Bool.and_eq_true] at h
 obtain⟨⟨⟨⟨⟨⟨⟨⟨⟨⟨⟨h1,h2⟩,h3⟩,h4⟩,h5⟩,h6⟩,h7⟩,h8⟩,h9⟩,h10⟩,h11⟩,h12⟩:=h
 simp only [List.all_eq_true,List.mem_range] at h2 h3 h5 h6 h7 h8 h9 h10
 refine⟨nodupB_spec h1,fun i hi=>memB_iff.1 (h2 i hi),fun i hi=>blt_true (h3 i hi),h4,fun i hi j hj=>blt_true (h5 i hi j hj),?_,?_,?_,h9,?_,?_,?_,h12⟩
 ·intro i j d hi hj h1 h2
  have:=h6 i hi j hj
  rw [h1,h2] at this
  simp only [Bool.or_eq_true,Bool.not_eq_true'] at this
  rcases this with h|h
  ·exact beq_true h
  ·exact absurd rfl (beq_false h)
 ·intro i hi j hj hne d hd hl
  have:=h7 i (by simpa using hi) j hj
  rw [hd] at this
  simp only [Bool.or_eq_true,Bool.not_eq_true'] at this
  rcases this with h|h|h
  ·exact absurd (beq_true h) hne
  ·rw [memB_iff.2 hl] at h;cases h
  ·exact memB_iff.1 h
 ·intro t c ht j hj d hd hl
  have:=h8 (t,c) ht j hj
  simp only [hd,Bool.or_eq_true,Bool.not_eq_true'] at this
  rcases this with h|h
  ·rw [memB_iff.2 hl] at h;cases h
  ·exact memB_iff.1 h
 ·intro i hi
  have:=h10 i hi
  split at this
  ·rename_i o ho
   rw [getL_eq] at ho
   exact⟨o,by simpa using ho,this⟩
  ·cases this
 ·intro ht
  rw [ht] at h11
  simpa using h11
 ·intro t c r ht
  rw [ht] at h11
  simp only [Bool.and_eq_true] at h11
  exact⟨subB_spec h11.1,fun i hi hk=>subB_spec h11.2 i (List.mem_filter.2 ⟨hi,hk⟩)⟩
theorem headOK_spec {ops:List Oper}:∀ {seen l:List Nat},headOK ops seen l=true→∀ pre i post,l=pre++i::post→∀ j∈predsAt ops i,j∈seen∨j∈pre
 |seen,[],_,pre,i,post,e,_,_=>by simp at e
 |seen,x::r,h,pre,i,post,e,j,hj=>by
  simp only [headOK] at h
  split at h
  case h_2=>cases h
  rename_i hs
  cases pre with
  |nil =>
   simp only [List.nil_append,List.cons.injEq] at e
   obtain⟨rfl,rfl⟩:=e
   exact .inl (subB_spec hs j hj)
  |cons y pre =>
   simp only [List.cons_append,List.cons.injEq] at e
   obtain⟨rfl,rfl⟩:=e
   rcases headOK_spec h pre i post rfl j hj with h|h
   ·rcases List.mem_cons.1 h with rfl|h
    ·exact .inr (by simp)
    ·exact .inl h
   ·exact .inr (by simp [h])
def vhead (A:Ar)(T:Tab)(C:VC)(tn:Nat)(ops:List Oper)(hJ:Heap)(l:List Nat):List (Nat × Value)→Nat→(List (Nat × Value)→Nat→Prop)→Prop :=
 @List.rec Nat (fun _=>List (Nat × Value)→Nat→(List (Nat × Value)→Nat→Prop)→Prop) (fun env nx K=>K env nx)
  (fun i _ ih env nx K=>match getL ops i with
  |none=>False
  |some o=>vguard A ops env o.guard
   (fun env=>vquiet A T C hJ nx env o.op fun v nx'=>vput tn env o.dst v fun env=>ih env nx' K)
   (fun env=>vput tn env o.dst undef fun env=>ih env nx K)) l
theorem vhead_cons {A:Ar}{T:Tab}{C:VC}{tn:Nat}{ops:List Oper}{hJ:Heap}{nx i:Nat}{r:List Nat}{env:List (Nat × Value)}{K:List (Nat × Value)→Nat→Prop}:vhead A T C tn ops hJ (i::r) env nx K=match getL ops i with
 |none=>False
 |some o=>vguard A ops env o.guard
  (fun env=>vquiet A T C hJ nx env o.op fun v nx'=>vput tn env o.dst v fun env=>vhead A T C tn ops hJ r env nx' K)
  (fun env=>vput tn env o.dst undef fun env=>vhead A T C tn ops hJ r env nx K):=rfl
def vallocs (T:Tab)(tn:Nat)(ops:List Oper)(l:List Nat):List (Nat × Value)→Heap→Nat→KS→Prop :=
 @List.rec Nat (fun _=>List (Nat × Value)→Heap→Nat→KS→Prop) (fun env h nx K=>K env h nx)
  (fun i _ ih env h nx K=>match getL ops i with
  |some { op:=.alloc t,dst:=some d,.. }=>(match look T t with
   |some ti=>vput tn env (some d) (.pointer (some ⟨nx,0,none⟩)) fun env=>ih env (hput h nx (.cells true false 1 ti.zv.cells.toList)) (nx+1) K
   |none=>False)
  |_=>False) l
theorem vallocs_cons {T:Tab}{tn:Nat}{ops:List Oper}{i:Nat}{r:List Nat}{env:List (Nat × Value)}{h:Heap}{nx:Nat}{K:KS}:vallocs T tn ops (i::r) env h nx K=match getL ops i with
 |some { op:=.alloc t,dst:=some d,.. }=>(match look T t with
  |some ti=>vput tn env (some d) (.pointer (some ⟨nx,0,none⟩)) fun env=>vallocs T tn ops r env (hput h nx (.cells true false 1 ti.zv.cells.toList)) (nx+1) K
  |none=>False)
 |_=>False:=rfl
def asideOK (env:List (Nat × Value))(hJ:Heap)(chk:Bool)(op:Op):Bool :=
 match chk with
 |false=>true
 |true=>match op with
  |.store _ x _=>(match opv env x with
   |some (.pointer (some ad))=>(match look hJ ad.block with|none=>true|some _=>false)
   |_=>false)
  |.load _ _=>true
  |.buildSlice _ _ _=>true
  |.call c=>(match c.callee with
   |.builtin .append=>(match vargs env c.args.toList with
    |some [s,_]=>(match s with
     |.slice none 0 0=>true
     |.slice (some ad) _ _=>(match look hJ ad.block with|none=>true|some _=>false)
     |_=>false)
    |_=>false)
   |_=>false)
  |_=>false
def vtail (A:Ar)(T:Tab)(C:VC)(Y:VY)(tn:Nat)(ops:List Oper)(hJ:Heap)(l:List (Nat × Bool)):List (Nat × Value)→Heap→Nat→KS→Prop :=
 @List.rec (Nat × Bool) (fun _=>List (Nat × Value)→Heap→Nat→KS→Prop) (fun env h nx K=>K env h nx)
  (fun p _ ih env h nx K=>match getL ops p.1 with
  |none=>False
  |some o=>vguard A ops env o.guard
   (fun env=>must (asideOK env hJ p.2 o.op) (vop A T C Y env h nx o.op fun v h' nx'=>vput tn env o.dst v fun env'=>ih env' h' nx' K))
   (fun env=>vput tn env o.dst undef fun env'=>ih env' h nx K)) l
theorem vtail_cons {A:Ar}{T:Tab}{C:VC}{Y:VY}{tn:Nat}{ops:List Oper}{hJ:Heap}{i:Nat}{chk:Bool}{r:List (Nat × Bool)}{env:List (Nat × Value)}{h:Heap}{nx:Nat}{K:KS}:vtail A T C Y tn ops hJ ((i,chk)::r) env h nx K=match getL ops i with
 |none=>False
 |some o=>vguard A ops env o.guard
  (fun env=>must (asideOK env hJ chk o.op) (vop A T C Y env h nx o.op fun v h' nx'=>vput tn env o.dst v fun env'=>vtail A T C Y tn ops hJ r env' h' nx' K))
  (fun env=>vput tn env o.dst undef fun env'=>vtail A T C Y tn ops hJ r env' h nx K):=rfl
def dstOp (t:Nat):List Oper→Option Op
 |[]=>none
 |o::r=>match o.dst with
  |some d=>(match Nat.beq d t with|true=>some o.op|false=>dstOp t r)
  |none=>dstOp t r
def asideEv (T:Tab)(ops:List Oper)(env:List (Nat × Value))(g:Heap):Nat→Operand→Option Value
 |0,s=>opv env s
 |n+1,s=>match s with
  |.tmp t=>(match dstOp t ops with
   |some (.move y)=>asideEv T ops env g n y
   |some (.nilCheck y)=>asideEv T ops env g n y
   |some (.fieldAddr st y f)=>(match asideEv T ops env g n y,look T st with
    |some (.pointer (some ⟨k,o,none⟩)),some { kind:=.st fs,.. }=>(match fs[f]? with|some (off,_)=>some (.pointer (some ⟨k,o+off,none⟩))|none=>none)
    |_,_=>none)
   |some (.indexAddr st x y)=>(match asideEv T ops env g n x,asideEv T ops env g n y,look T st with
    |some (.slice (some ⟨k,o,none⟩) _ _),some (.int _ i),some { kind:=.sl e,.. }=>(match look T e with|some ei=>some (.pointer (some ⟨k,o+i.toNat*ei.size,none⟩))|none=>none)
    |_,_,_=>none)
   |some (.load _ y)=>(match asideEv T ops env g n y with
    |some (.pointer (some ⟨k,o,none⟩))=>(match look g k with|some (.cells _ _ _ cs)=>nth cs o|_=>none)
    |_=>none)
   |_=>opv env s)
  |_=>opv env s
def asideBlk (T:Tab)(ops:List Oper)(env:List (Nat × Value))(g:Heap):Nat→Operand→Option Nat
 |0,_=>none
 |n+1,s=>match s with
  |.tmp t=>(match dstOp t ops with
   |some (.indexAddr _ x _)=>(match asideEv T ops env g 12 x with
    |some (.slice (some a) _ _)=>some a.block
    |some (.pointer (some a))=>some a.block
    |_=>none)
   |some (.fieldAddr _ y _)=>asideBlk T ops env g n y
   |some (.nilCheck y)=>asideBlk T ops env g n y
   |_=>(match asideEv T ops env g 12 s with
    |some (.pointer (some a))=>some a.block
    |_=>none))
  |_=>none
def asideHeap (T:Tab)(ops:List Oper)(env:List (Nat × Value))(g:Heap):List (Nat × Bool)→Heap→Heap
 |[],h=>h
 |(i,chk)::r,h=>match chk,getL ops i with
  |true,some { op:=.store _ x _,.. }=>(match asideBlk T ops env g 12 x with
   |some k=>asideHeap T ops env g r (rem h k)
   |none=>asideHeap T ops env g r h)
  |true,some { op:=.call c,.. }=>(match c.callee,c.args.toList with
   |.builtin .append,s::_=>(match asideEv T ops env g 12 s with
    |some (.slice (some ad) _ _)=>asideHeap T ops env g r (rem h ad.block)
    |_=>asideHeap T ops env g r h)
   |_,_=>asideHeap T ops env g r h)
  |_,_=>asideHeap T ops env g r h
def pickH (T:Tab)(ops:List Oper)(env:List (Nat × Value))(h:Heap):List Nat→Heap→Heap
 |[],g=>g
 |i::r,g=>match getL ops i with
  |some { op:=.load _ y,.. }=>(match asideBlk T ops env h 12 y with
   |some k=>(match look g k with
    |some _=>pickH T ops env h r g
    |none=>(match look h k with|some o=>pickH T ops env h r (hput g k o)|none=>pickH T ops env h r g))
   |none=>pickH T ops env h r g)
  |_=>pickH T ops env h r g
def hjOf (T:Tab)(ops:List Oper)(env:List (Nat × Value))(p:Plan)(h:Heap):Heap :=
 match p.keep with
 |[]=>asideHeap T ops env h p.tail h
 |i::r=>pickH T ops env h (i::r) []
def vregion (A:Ar)(T:Tab)(C:VC)(Y:VY)(tn:Nat)(ops:List Oper)(p:Plan)(env:List (Nat × Value))(h:Heap)(nx:Nat)(K:KS):Prop :=
 vhead A T C tn ops (hjOf T ops env p h) p.head env nx fun env1 nx1 =>
  vallocs T tn ops p.allocs env1 h nx1 fun env2 h2 nx2 =>
   vtail A T C Y tn ops (hjOf T ops env p h) p.tail env2 h2 nx2 K
theorem rem_sub {h:Heap}{j k:Nat}{o:AObj}(hk:look (rem h j) k=some o):look h k=some o:=by
 rw [look_rem] at hk
 split at hk
 ·cases hk
 ·exact hk
theorem asideHeap_sub {T:Tab}{g:Heap}{ops:List Oper}{env:List (Nat × Value)}:∀ {l:List (Nat × Bool)} {h:Heap} {k:Nat} {o:AObj},look (asideHeap T ops env g l h) k=some o→look h k=some o
 |[],h,k,o,hk=>hk
 |(i,chk)::r,h,k,o,hk=>by
  unfold asideHeap at hk
  split at hk
  ·split at hk
   ·exact rem_sub (asideHeap_sub hk)
   ·exact asideHeap_sub hk
  ·split at hk
   ·split at hk
    ·exact rem_sub (asideHeap_sub hk)
    ·exact asideHeap_sub hk
   ·exact asideHeap_sub hk
  ·exact asideHeap_sub hk
theorem pickH_sub {T:Tab}{ops:List Oper}{env:List (Nat × Value)}{h:Heap}:∀ {l:List Nat} {g:Heap},(∀ k o,look g k=some o→look h k=some o)→∀ k o,look (pickH T ops env h l g) k=some o→look h k=some o
 |[],g,hg,k,o,hk=>hg k o hk
 |i::r,g,hg,k,o,hk=>by
  unfold pickH at hk
  split at hk
  ·split at hk
   ·split at hk
    ·exact pickH_sub hg k o hk
    ·split at hk
     ·rename_i o' ho'
      refine pickH_sub (fun k2 o2 h2=>?_) k o hk
      rw [look_hput] at h2
      split at h2
      ·rename_i e;cases h2;rw [e];exact ho'
      ·exact hg k2 o2 h2
     ·exact pickH_sub hg k o hk
   ·exact pickH_sub hg k o hk
  ·exact pickH_sub hg k o hk
theorem hjOf_sub {T:Tab}{ops:List Oper}{env:List (Nat × Value)}{p:Plan}{h:Heap}(k:Nat)(o:AObj)(hk:look (hjOf T ops env p h) k=some o):look h k=some o:=by
 unfold hjOf at hk
 split at hk
 ·exact asideHeap_sub hk
 ·refine pickH_sub (fun k2 o2 h2=>?_) k o hk
  cases h2
end Go.Aw
end

noncomputable section
namespace Go.Aw
open Go.RowKit
section
variable {P:Program}{T:Tab}{C:VC}{Y:VY}{ops:Array Oper}{p:Plan}
theorem same_of_look {o:Oper}(hs:∀ cs b,o.op≠.select cs b){a a':Act}(h:∀ t∈o.looksAt ops,a.tmps[t]? = a'.tmps[t]?) :
  execOp a.eval o=execOp a'.eval o∧Region.wanted o (yielded ops a.tmps)=Region.wanted o (yielded ops a'.tmps):=by
 refine⟨execOp_congr o hs fun x hx=>?_,?_⟩
 ·cases x with
  |tmp t =>
   have:=h t (List.mem_append_left _ (List.mem_filterMap.2 ⟨.tmp t,by simpa using hx,rfl⟩))
   simp [Act.eval,this]
  |_=>rfl
 ·unfold Region.wanted
  cases hg:o.guard with
  |none=>rfl
  |some gw =>
   obtain⟨g,want⟩:=gw
   have:yielded ops a.tmps g=yielded ops a'.tmps g:=by
    unfold yielded
    cases ht:(ops[g]?).bind (·.dst) with
    |none=>rfl
    |some t =>
     have:=h t (List.mem_append_right _ (by simp [hg,ht]))
     simp [this]
   simp only [this]
theorem put_get (a:Act)(dst:Option Nat)(v:Value)(t:Nat):(a.put dst v).tmps[t]? = if dst=some t∧t<a.tmps.size then some v else a.tmps[t]? := by
 cases dst with
 |none=>simp [Act.put]
 |some d =>
  by_cases h:d=t
  ·subst h
   by_cases hl:d<a.tmps.size
   ·rw [if_pos ⟨rfl,hl⟩];simp [Act.put,Array.getElem?_setIfInBounds_self_of_lt hl]
   ·rw [if_neg (fun e=>hl e.2)]
    simp [Act.put,Array.getElem?_setIfInBounds,hl]
  ·rw [if_neg (fun e=>h (Option.some.inj e.1))]
   simp only [Act.put]
   exact Array.getElem?_setIfInBounds_ne h
theorem put_get_ne {a:Act}{dst:Option Nat}{v:Value}{t:Nat}(h:dst≠some t):(a.put dst v).tmps[t]? = a.tmps[t]? := by
 rw [put_get,if_neg (fun e=>h e.1)]
theorem put_get_eq {a:Act}{v:Value}{t:Nat}(h:t<a.tmps.size):(a.put (some t) v).tmps[t]? = some v:=by
 rw [put_get,if_pos ⟨rfl,h⟩]
theorem put_size (a:Act)(dst:Option Nat)(v:Value):(a.put dst v).tmps.size=a.tmps.size:=by
 cases dst <;> simp [Act.put]
theorem put_defers (a:Act)(dst:Option Nat)(v:Value):(a.put dst v).defers=a.defers:=by
 cases dst <;> rfl
def putAll (ops:Array Oper)(ι:Nat→Loc)(vals:List (Nat × Value))(a:Act):Act:=vals.foldl (fun a q=>a.put (dstAt ops.toList q.1) (tr ι q.2)) a
theorem putAll_size {ι:Nat→Loc}:∀ (vals:List (Nat × Value)) (a:Act),(putAll ops ι vals a).tmps.size=a.tmps.size
 |[],a=>rfl
 |q::r,a=>by
  have:=putAll_size (ι:=ι) r (a.put (dstAt ops.toList q.1) (tr ι q.2))
  rw [put_size] at this
  exact this
theorem putAll_defers {ι:Nat→Loc}:∀ (vals:List (Nat × Value)) (a:Act),(putAll ops ι vals a).defers=a.defers
 |[],a=>rfl
 |q::r,a=>by
  have:=putAll_defers (ι:=ι) r (a.put (dstAt ops.toList q.1) (tr ι q.2))
  rw [put_defers] at this
  exact this
theorem putAll_none {ι:Nat→Loc}{d:Nat}:∀ (vals:List (Nat × Value)) (a:Act),(∀ q∈vals,dstAt ops.toList q.1≠some d)→(putAll ops ι vals a).tmps[d]? = a.tmps[d]?
 |[],a,_=>rfl
 |q::r,a,h=>by
  have:=putAll_none (ι:=ι) r (a.put (dstAt ops.toList q.1) (tr ι q.2)) (fun x hx=>h x (by simp [hx]))
  rw [put_get_ne (h q (by simp))] at this
  exact this
theorem putAll_some {ι:Nat→Loc}{d i:Nat}{v:Value}:∀ (vals:List (Nat × Value)) (a:Act),d<a.tmps.size→(i,v)∈vals→dstAt ops.toList i=some d→(∀ q∈vals,dstAt ops.toList q.1=some d→q.1=i)→(vals.map (·.1)).Nodup →
  (putAll ops ι vals a).tmps[d]? = some (tr ι v)
 |[],a,_,h,_,_,_=>by cases h
 |q::r,a,hd,hm,hi,hu,hn=>by
  simp only [List.map_cons,List.nodup_cons] at hn
  rcases List.mem_cons.1 hm with rfl|hm
  ·have:=putAll_none (ops:=ops) (ι:=ι) (d:=d) r (a.put (dstAt ops.toList i) (tr ι v)) (fun x hx e=>by
    have:=hu x (by simp [hx]) e
    exact hn.1 (List.mem_map.2 ⟨x,hx,this⟩))
   show (putAll ops ι r (a.put (dstAt ops.toList i) (tr ι v))).tmps[d]? = _
   rw [this,hi,put_get_eq hd]
  ·exact putAll_some r (a.put (dstAt ops.toList q.1) (tr ι q.2)) (by rw [put_size];exact hd) hm hi (fun x hx=>hu x (by simp [hx])) hn.2
def Yld (P:Program)(ops:Array Oper)(ι:Nat→Loc)(B nx:Nat)(hJ:Heap)(wS:World)(i:Nat)(v:Value)(a:Act):Prop :=
 ∃ o,ops[i]? = some o∧scT ι nx v∧(∀ c,o.op≠.defer c)∧((Region.wanted o (yielded ops a.tmps)=false∧v=undef) ∨
   (Region.wanted o (yielded ops a.tmps)=true∧∀ w,RelH ι B (heapOf o.op hJ) nx w→(isStrong o.op=true→Bel wS.heap.size wS w)→Run1 P (execOp a.eval o) w (tr ι v)))
theorem vput_lt {tn:Nat}{env:List (Nat × Value)}{dst:Option Nat}{v:Value}{K:List (Nat × Value)→Prop}(hl:vput tn env dst v K):∀ d,dst=some d→d<tn:=by
 rintro d rfl
 simp only [vput] at hl
 split at hl
 ·rename_i h;exact blt_true h
 ·exact hl.elim
theorem RelH.wide {ι ι':Nat→Loc}{B nx nx':Nat}{h:Heap}{w:World}(H:RelH ι B h nx w)(hi:∀ k,k<nx→ι' k=ι k)(hn:nx≤nx'):RelH ι' B h nx' w:=by
 refine⟨fun k o hk=>?_,fun k k' o1 o2 h1 h2 hne ha b hb=>?_,fun k o hk=>Nat.lt_of_lt_of_le (H.low k o hk) hn,H.size,fun k o hk=>(H.sc k o hk).mono hn hi⟩
 ·rw [hi _ (H.low k o hk)]
  exact (H.obj k o hk).names (H.sc k o hk) hi
 ·rw [hi _ (H.low k o1 h1)] at hb
  rw [hi _ (H.low k' o2 h2)]
  exact H.sep k k' o1 o2 h1 h2 hne ha b hb
theorem RelH.narrow {ι ι':Nat→Loc}{B nx nx':Nat}{h:Heap}{w wS:World}(H:RelH ι' B h nx' w)(HS:RelH ι B h nx wS)(hi:∀ k,k<nx→ι' k=ι k):RelH ι B h nx w:=by
 have hsc:∀ k o,look h k=some o→OSc ι nx o:=HS.sc
 refine⟨fun k o hk=>?_,fun k k' o1 o2 h1 h2 hne ha b hb=>?_,fun k o hk=>HS.low k o hk,H.size,hsc⟩
 ·have:=H.obj k o hk
  rw [hi _ (HS.low k o hk)] at this
  exact this.names ((hsc k o hk).mono (Nat.le_refl _) hi) (fun j hj=>(hi j hj).symm)
 ·rw [← hi _ (HS.low k o1 h1)] at hb
  rw [← hi _ (HS.low k' o2 h2)]
  exact H.sep k k' o1 o2 h1 h2 hne ha b hb
theorem Yld.wide {P:Program}{ops:Array Oper}{ι ι':Nat→Loc}{B nx nx':Nat}{hJ:Heap}{wS:World}{i:Nat}{v:Value}{a:Act}(H:RelH ι B hJ nx wS)(hi:∀ k,k<nx→ι' k=ι k)(hn:nx≤nx')
  (hy:Yld P ops ι B nx hJ wS i v a):Yld P ops ι' B nx' hJ wS i v a:=by
 obtain⟨o,h1,h2,h3,h4⟩:=hy
 refine⟨o,h1,scT_mono hn hi h2,h3,?_⟩
 rcases h4 with h4|⟨h4,h5⟩
 ·exact .inl h4
 ·refine .inr ⟨h4,fun w Hw hb=>?_⟩
  rw [tr_eq hi h2]
  refine h5 w (Hw.narrow (wS:=wS) ?_ hi) hb
  unfold heapOf
  cases isPure o.op with
  |true=>exact RelH.none H.size
  |false=>exact H
theorem vhead_ok (hT:TabOK P T)(hC:CallsOK P C)(hD:DetC C)(hp:∀ i,i<ops.size→kindB isPlain ops.toList i=true){tn:Nat}{B:Nat}{hJ:Heap}{wS:World}{K:List (Nat × Value)→Nat→Prop} :
  ∀ (l:List Nat) (env:List (Nat × Value)) (a:Act) (ι:Nat→Loc) (nx:Nat),RelH ι B hJ nx wS→vhead std T C tn ops.toList hJ l env nx K→EnvOK ι nx env a→a.tmps.size=tn →
  ∃ vals env1 ι' nx',K env1 nx'∧(∀ k,k<nx→ι' k=ι k)∧nx≤nx'∧vals.map (·.1)=l∧EnvOK ι' nx' env1 (putAll ops ι' vals a)∧(∀ q∈vals,∀ d,dstAt ops.toList q.1=some d→d<tn) ∧
    ∀ pre i v post,vals=pre++(i,v)::post→Yld P ops ι' B nx' hJ wS i v (putAll ops ι' pre a)
 |[],env,a,ι,nx,H,hl,he,hs=>⟨[],env,ι,nx,hl,fun _ _=>rfl,Nat.le_refl _,rfl,he,by simp,by simp⟩
 |i::r,env,a,ι,nx,H,hl,he,hs=>by
  simp only [vhead_cons] at hl
  split at hl
  ·exact hl.elim
  rename_i o ho
  have hdst:dstAt ops.toList i=o.dst:=by simp [dstAt,ho]
  have hoi:ops[i]? = some o:=by rw [getL_eq] at ho;simpa using ho
  have hlt:i<ops.size:=(Array.getElem?_eq_some_iff.1 hoi).1
  have hdef:∀ c,o.op≠.defer c:=by
   intro c e
   have:=hp i hlt
   simp [kindB,ho,e,isPlain] at this
  obtain⟨env1,he1,hcase⟩:=vguard_ok he hl
  have main:∃ v ι1 nx1,(∀ k,k<nx→ι1 k=ι k)∧nx≤nx1∧scT ι1 nx1 v∧Yld P ops ι1 B nx1 hJ wS i v a∧vput tn env1 o.dst v fun env=>vhead std T C tn ops.toList hJ r env nx1 K:=by
   rcases hcase with ⟨hw,hl⟩|⟨hw,hl⟩
   ·obtain⟨v,nx1,ι1,h1,h2,h3,h4,h5⟩:=vquiet_ok hT hC hD he1 H hl
    refine⟨v,ι1,nx1,h3,h4,h2,⟨o,hoi,h2,hdef,.inr ⟨hw,fun w Hw hb=>h5 w (Hw.narrow (wS:=wS) ?_ h3) hb⟩⟩,h1⟩
    unfold heapOf
    cases isPure o.op with
    |true=>exact RelH.none H.size
    |false=>exact H
   ·exact⟨undef,ι,nx,fun _ _=>rfl,Nat.le_refl _,scT_g rfl,⟨o,hoi,scT_g rfl,hdef,.inl ⟨hw,rfl⟩⟩,hl⟩
  obtain⟨v,ι1,nx1,hi1,hn1,hv,hy,hl⟩:=main
  have H1:=H.wide hi1 hn1
  obtain⟨env2,k1,k2,k3,k4⟩:=vput_ok (he1.names hn1 hi1) hs hl hv
  rw [← hdst] at k2 k3
  obtain⟨vals,env3,ι',nx',h1,hi',hn',h2,h3,h4,h5⟩:=vhead_ok hT hC hD hp r env2 _ ι1 nx1 H1 k1 k2 k3
  have etr:tr ι' v=tr ι1 v:=tr_eq hi' hv
  have ep:∀ pre,putAll ops ι' ((i,v)::pre) a=putAll ops ι' pre (a.put (dstAt ops.toList i) (tr ι1 v)):=fun pre=>by
   show putAll ops ι' pre (a.put (dstAt ops.toList i) (tr ι' v))=_
   rw [etr]
  refine⟨(i,v)::vals,env3,ι',nx',h1,fun k hk=>(hi' k (by omega)).trans (hi1 k hk),by omega,by simp [h2],by rw [ep];exact h3,fun q hq d hd=>?_,fun pre j u post e=>?_⟩
  ·rcases List.mem_cons.1 hq with rfl|hq
   ·exact vput_lt hl d (by rw [← hdst];exact hd)
   ·exact h4 q hq d hd
  ·cases pre with
   |nil =>
    simp only [List.nil_append,List.cons.injEq,Prod.mk.injEq] at e
    obtain⟨⟨rfl,rfl⟩,rfl⟩:=e
    exact hy.wide H1 hi' hn'
   |cons q pre =>
    simp only [List.cons_append,List.cons.injEq] at e
    obtain⟨rfl,rfl⟩:=e
    rw [ep]
    exact h5 pre j u post rfl
structure TInv (ops:Array Oper) (p:Plan) (ι:Nat→Loc) (vals:List (Nat × Value)) (tn:Nat) (ds:List Deferred) (a0:Act) (L:Nat→Prop) (a a':Act):Prop where
 size:a.tmps.size=tn
 size':a'.tmps.size=tn
 defers:a.defers=ds
 defers':a'.defers=ds
 q1:∀ i v d,(i,v)∈vals→dstAt ops.toList i=some d→a'.tmps[d]? = some (tr ι v)
 q2:∀ d,(∀ i∈p.head,dstAt ops.toList i=some d→L i)→a.tmps[d]? = a'.tmps[d]?
 q3:∀ d,(∀ i,i∈p.head∨L i→dstAt ops.toList i≠some d)→a'.tmps[d]? = a0.tmps[d]?
 q4:∀ i d,i∈p.head→¬ L i→dstAt ops.toList i=some d→a.tmps[d]? = a0.tmps[d]?
def adds (L:Nat→Prop)(i:Nat):Nat→Prop:=fun j=>j=i∨L j
variable {ι:Nat→Loc}{vals:List (Nat × Value)}{tn:Nat}{ds:List Deferred}{a0:Act}{L:Nat→Prop}{a a':Act}
theorem dst_lt {i d:Nat}(h:dstAt ops.toList i=some d):i<ops.size:=by
 unfold dstAt at h
 split at h
 ·rename_i o ho
  rw [getL_eq] at ho
  have:ops[i]? = some o:=by simpa using ho
  exact (Array.getElem?_eq_some_iff.1 this).1
 ·cases h
theorem TInv.head (hp:PlanOK ops p)(I:TInv ops p ι vals tn ds a0 L a a')(hv:vals.map (·.1)=p.head)(hd:∀ q∈vals,∀ d,dstAt ops.toList q.1=some d→d<tn){i:Nat}{v:Value}(hi:(i,v)∈vals) :
  TInv ops p ι vals tn ds a0 (adds L i) (a.put (dstAt ops.toList i) (tr ι v)) a':=by
 refine⟨by rw [put_size];exact I.size,I.size',by rw [put_defers];exact I.defers,I.defers',I.q1,fun d h=>?_,fun d h=>I.q3 d (fun j hj=>h j (hj.imp id .inr)),fun j d hj hn hjd=>?_⟩
 ·by_cases e:dstAt ops.toList i=some d
  ·rw [e,put_get_eq (by rw [I.size];exact hd _ hi d e),I.q1 i v d hi e]
  ·rw [put_get_ne e]
   refine I.q2 d fun j hj hjd=>?_
   rcases h j hj hjd with rfl|h
   ·exact absurd hjd e
   ·exact h
 ·have hij:j≠i:=fun e=>hn (.inl e)
  rw [put_get_ne (fun e=>hij (hp.dsts j i d (dst_lt hjd) (dst_lt e) hjd e))]
  exact I.q4 j d hj (fun h=>hn (.inr h)) hjd
theorem TInv.other (hp:PlanOK ops p)(I:TInv ops p ι vals tn ds a0 L a a')(hv:vals.map (·.1)=p.head){j:Nat}(hj:j∉p.head)(u:Value) :
  TInv ops p ι vals tn ds a0 (adds L j) (a.put (dstAt ops.toList j) u) (a'.put (dstAt ops.toList j) u):=by
 have hne:∀ i d,i∈p.head→dstAt ops.toList i=some d→dstAt ops.toList j≠some d:=fun i d hi hd e=>hj (by rw [hp.dsts j i d (dst_lt e) (dst_lt hd) e hd];exact hi)
 have hmem:∀ i v,(i,v)∈vals→i∈p.head:=fun i v h=>by rw [← hv];exact List.mem_map.2 ⟨_,h,rfl⟩
 refine⟨by rw [put_size];exact I.size,by rw [put_size];exact I.size',by rw [put_defers];exact I.defers,by rw [put_defers];exact I.defers',fun i v d hi hd=>?_,fun d h=>?_,fun d h=>?_,fun i d hi hn hid=>?_⟩
 ·rw [put_get_ne (hne i d (hmem i v hi) hd)]
  exact I.q1 i v d hi hd
 ·rw [put_get,put_get,I.size,I.size']
  by_cases e:dstAt ops.toList j=some d∧d<tn
  ·rw [if_pos e,if_pos e]
  ·rw [if_neg e,if_neg e]
   refine I.q2 d fun i hi hid=>?_
   rcases h i hi hid with rfl|h
   ·exact absurd hi hj
   ·exact h
 ·rw [put_get_ne (h j (.inr (.inl rfl)))]
  exact I.q3 d fun i hi=>h i (hi.imp id .inr)
 ·rw [put_get_ne (hne i d hi hid)]
  exact I.q4 i d hi (fun h=>hn (.inr h)) hid
theorem mem_order {i:Nat}:i∈p.order↔i∈p.head∨i∈p.allocs∨i∈p.tail.map (·.1):=by simp [Plan.order]
theorem PlanOK.apart (hp:PlanOK ops p){i:Nat}(hi:i∈p.head):i∉p.allocs∧i∉p.tail.map (·.1):=by
 have:=hp.nodup
 unfold Plan.order at this
 rw [List.append_assoc,List.nodup_append] at this
 exact⟨fun h=>this.2.2 i hi i (List.mem_append_left _ h) rfl,fun h=>this.2.2 i hi i (List.mem_append_right _ h) rfl⟩
theorem PlanOK.apart2 (hp:PlanOK ops p){i:Nat}(hi:i∈p.allocs):i∉p.tail.map (·.1):=by
 have:=hp.nodup
 unfold Plan.order at this
 rw [List.nodup_append] at this
 exact fun h=>this.2.2 i (List.mem_append_right _ hi) i h rfl
theorem TInv.sees (hp:PlanOK ops p)(I:TInv ops p ι vals tn ds a0 L a a')(hv:vals.map (·.1)=p.head)(hd:∀ q∈vals,∀ d,dstAt ops.toList q.1=some d→d<tn)(h0:a0.tmps.size=tn)
  (cl:∀ i,L i→∀ j∈predsAt ops.toList i,L j) (hL:∀ i,L i→i<ops.size) {pre post:List (Nat × Value)} {i:Nat} {v:Value} (e:vals=pre++(i,v)::post) (hn:¬ L i) (hr:∀ j∈predsAt ops.toList i,L j) :
  ∀ t∈lookAt ops i,a.tmps[t]? = (putAll ops ι pre a0).tmps[t]? := by
 intro t ht
 have hih:i∈p.head:=by rw [← hv,e];simp
 have hin:i<ops.size:=hp.inb i (mem_order.2 (.inl hih))
 have hhead:p.head=pre.map (·.1)++i::post.map (·.1):=by rw [← hv,e];simp
 have hnd:(p.head).Nodup:=by
  have:=hp.nodup
  unfold Plan.order at this
  rw [List.append_assoc,List.nodup_append] at this
  exact this.1
 have hpre:∀ j∈predsAt ops.toList i,j∈pre.map (·.1):=fun j hj=>by
  rcases headOK_spec hp.headP _ _ _ hhead j hj with h|h
  ·cases h
  ·exact h
 have hni:i∉pre.map (·.1):=fun hm=>by
  rw [hhead,List.nodup_append] at hnd
  exact hnd.2.2 i hm i (by simp) rfl
 by_cases hex:∃ j∈p.head,dstAt ops.toList j=some t
 ·obtain⟨j,hj,hjt⟩:=hex
  by_cases hji:j=i
  ·subst hji
   rw [I.q4 j t hj hn hjt]
   rw [putAll_none]
   intro q hq hqt
   have:=hp.dsts _ _ t (dst_lt hqt) (dst_lt hjt) hqt hjt
   exact hni (List.mem_map.2 ⟨q,hq,this⟩)
  ·have hjp:=hp.look1 j (.inl hj) i hin (fun e=>hji e.symm) t hjt ht
   have hjL:=hr j hjp
   obtain⟨q,hq,hqj⟩:=List.mem_map.1 (hpre j hjp)
   obtain⟨j',u⟩:=q
   simp only at hqj
   subst hqj
   have hqv:(j',u)∈vals:=by rw [e];exact List.mem_append_left _ hq
   rw [I.q2 t (fun j2 hj2 h2=>by rw [hp.dsts j2 j' t (dst_lt h2) (dst_lt hjt) h2 hjt];exact hjL),I.q1 j' u t hqv hjt]
   rw [putAll_some pre a0 (by rw [h0];exact hd _ hqv t hjt) hq hjt (fun q2 hq2 h2=>hp.dsts _ _ t (dst_lt h2) (dst_lt hjt) h2 hjt) (by
    rw [hhead,List.nodup_append] at hnd
    exact hnd.1)]
 ·have hex':∀ j∈p.head,dstAt ops.toList j≠some t:=fun j hj h=>hex ⟨j,hj,h⟩
  rw [I.q2 t (fun j hj h=>absurd h (hex' j hj)),I.q3 t,putAll_none]
  ·intro q hq
   exact hex' _ (by rw [hhead];exact List.mem_append_left _ (List.mem_map.2 ⟨q,hq,rfl⟩))
  ·intro j hj
   rcases hj with hj|hj
   ·exact hex' j hj
   ·intro hjt
    rcases mem_order.1 (hp.cover j (hL j hj)) with h|h|h
    ·exact hex' j h hjt
    ·have hne:i≠j:=fun e=>(hp.apart hih).1 (e▸h)
     have:=hpre j (hp.look1 j (.inr h) i hin hne t hjt ht)
     exact (hp.apart (i:=j) (by rw [hhead];exact List.mem_append_left _ this)).1 h
    ·obtain⟨⟨t',c⟩,htc,rfl⟩:=List.mem_map.1 h
     exact hn (cl t' hj i (hp.look2 t' c htc i hih t hjt ht))
theorem TInv.sees' (hp:PlanOK ops p)(I:TInv ops p ι vals tn ds a0 L a a'){j:Nat}(hj:j∉p.head)(hjn:j<ops.size)(hr:∀ i∈predsAt ops.toList j,L i) :
  ∀ t∈lookAt ops j,a.tmps[t]? = a'.tmps[t]? := fun t ht =>
 I.q2 t fun i hi hit=>hr i (hp.look1 i (.inl hi) j hjn (fun e=>hj (e▸hi)) t hit ht)
end
end Go.Aw
end
