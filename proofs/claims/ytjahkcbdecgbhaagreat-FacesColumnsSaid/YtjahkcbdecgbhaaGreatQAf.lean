/-
  Parts of a proof. No condition.
-/
import Derived.Test.YtjahkcbdecgbhaaGreatQAe
set_option linter.unusedSimpArgs false
set_option linter.unusedVariables false
noncomputable section
namespace Go.Aw
open Go.RowKit
structure fE where
 head:List Nat
 allocs:List Nat
 tail:List (Nat × Bool)
 z8:List Nat
def pH (n:Nat):List Nat→Bool
 |[]=>false
 |x::r=>match Nat.beq x n with|true=>true|false=>pH n r
theorem dM {n:Nat}{l:List Nat}:pH n l=true↔n∈l:=by
 induction l with
 |nil=>simp [pH]
 |cons x r ih =>
  simp only [pH];split
  ·rename_i h;simp [(beq_true h).symm]
  ·rename_i h;have:=beq_false h;simp only [ih,List.mem_cons];exact⟨.inr,fun h=>h.resolve_left (fun e=>this e.symm)⟩
def QD:List Nat→List Nat→Bool
 |[],_=>true
 |x::r,l=>match pH x l with|true=>QD r l|false=>false
theorem tX {a l:List Nat}(h:QD a l=true):∀ x∈a,x∈l:=by
 induction a with
 |nil=>simp
 |cons x r ih =>
  simp only [QD] at h;split at h
  ·rename_i hx;intro y hy;rcases List.mem_cons.1 hy with rfl|hy
   ·exact dM.1 hx
   ·exact ih h y hy
  ·cases h
def LY:List Nat→Bool
 |[]=>true
 |x::r=>match pH x r with|true=>false|false=>LY r
theorem NB {l:List Nat}(h:LY l=true):l.Nodup:=by
 induction l with
 |nil=>simp
 |cons x r ih =>
  simp only [LY] at h;split at h
  ·cases h
  ·rename_i hx;rw [List.nodup_cons];exact⟨fun hm=>(by rw [dM.2 hm] at hx;cases hx),ih h⟩
def lI (o:Oper):List Nat:=o.after.toList.filterMap fun e=>match Region.binds .any e with|true=>some e.on|false=>none
def cD (ops:List Oper)(i:Nat):List Nat:=match fC ops i with|some o=>lI o|none=>[]
def cB (ops:List Oper)(i:Nat):Option Nat:=match fC ops i with|some o=>o.dst|none=>none
def pA (ops:Array Oper)(i:Nat):List Nat:=match fC ops.toList i with|some o=>o.looksAt ops|none=>[]
def clo (ops:List Oper):Nat→List Nat→List Nat
 |0,acc=>acc
 |j+1,acc=>clo ops j (match pH j acc with|true=>cD ops j++acc|false=>acc)
def o7 (ops:List Oper)(t:Nat):List Nat:=clo ops t (cD ops t)
theorem V0 {ops:List Oper}{L:Nat→Prop}(cl:∀ i,L i→∀ j∈cD ops i,L j):∀ (j:Nat) (acc:List Nat),(∀ x∈acc,L x)→∀ x∈clo ops j acc,L x
 |0,acc,h,x,hx=>h x hx
 |j+1,acc,h,x,hx=>by
  refine V0 cl j _ (fun y hy=>?_) x hx;split at hy
  ·rename_i hm;rcases List.mem_append.1 hy with hy|hy
   ·exact cl j (h j (dM.1 hm)) y hy
   ·exact h y hy
  ·exact h y hy
theorem nT {ops:List Oper}{L:Nat→Prop}(cl:∀ i,L i→∀ j∈cD ops i,L j){t:Nat}(h:∀ j∈cD ops t,L j):∀ j∈o7 ops t,L j:=V0 cl t _ h
def F3 (ops:List Oper):List Nat→List Nat→Bool
 |_,[]=>true
 |seen,i::r=>match QD (cD ops i) seen with|true=>F3 ops (i::seen) r|false=>false
def lN (f:Op→Bool)(ops:List Oper)(i:Nat):Bool:=match fC ops i with|some o=>f o.op|none=>false
def qP (ops:List Oper)(loads:List Nat):Option Nat→List Nat→List (Nat × Bool)→Bool
 |_,_,[]=>true
 |last,got,(t,chk)::r =>
  (match last with | none=>true | some l=>pH l (o7 ops t))&&(chk || QD loads (o7 ops t++got))&&qP ops loads (some t) (o7 ops t++got) r
def LK (o:Oper):Bool:=match o with|{ op:=.alloc _,guard:=none,dst:=some _,.. }=>true|_=>false
def qK:Op→Bool
 |.select _ _=>false
 |.defer _=>false
 |_=>true
def fE.order (p:fE):List Nat:=p.head++p.allocs++p.tail.map (·.1)
def R7 (ops:Array Oper)(p:fE):Bool :=
 let l:=ops.toList;let n:=List.range ops.size
 LY p.order&&n.all (fun i=>pH i p.order)&&p.order.all (fun i=>Nat.blt i ops.size)&&F3 l [] p.head &&
 n.all (fun i=>(cD l i).all fun j=>Nat.blt j i) &&
 n.all (fun i=>n.all fun j=>Nat.beq i j || (match cB l i,cB l j with | some d,some e=>!Nat.beq d e | _,_=>true)) &&
 (p.head++p.allocs).all (fun i=>n.all fun j=>Nat.beq j i || (match cB l i with | some d=>!pH d (pA ops j) || pH i (cD l j) | none=>true)) &&
 p.tail.all (fun t=>p.head.all fun j=>match cB l t.1 with | some d=>!pH d (pA ops j) || pH j (cD l t.1) | none=>true) &&
 n.all (fun i=>lN qK l i) &&
 p.allocs.all (fun i=>match fC l i with|some o=>LK o|none=>false) &&
 (match p.tail with
  |[]=>p.allocs.isEmpty
  |(t,_)::_=>QD p.allocs (o7 l t)&&QD (p.head.filter (lN m8 l)) (o7 l t)) &&
 qP l (p.head.filter (fun i=>!lN kX l i)) none [] p.tail
structure mB (ops:Array Oper) (p:fE):Prop where
 nodup:p.order.Nodup
 cover:∀ i,i<ops.size→i∈p.order
 MD:∀ i∈p.order,i<ops.size
 headP:F3 ops.toList [] p.head=true
 lin:∀ i,i<ops.size→∀ j∈cD ops.toList i,j<i
 dsts:∀ i j d,i<ops.size→j<ops.size→cB ops.toList i=some d→cB ops.toList j=some d→i=j
 look1:∀ i,i∈p.head∨i∈p.allocs→∀ j,j<ops.size→j≠i→∀ d,cB ops.toList i=some d→d∈pA ops j→i∈cD ops.toList j
 look2:∀ t c,(t,c)∈p.tail→∀ j∈p.head,∀ d,cB ops.toList t=some d→d∈pA ops j→j∈cD ops.toList t
 plain:∀ i,i<ops.size→lN qK ops.toList i=true
 allocs:∀ i∈p.allocs,∃ o,ops[i]? = some o∧LK o=true
 noTail:p.tail=[]→p.allocs=[]
 first:∀ t c r,p.tail=(t,c)::r→(∀ i∈p.allocs,i∈o7 ops.toList t)∧(∀ i∈p.head,lN m8 ops.toList i=true→i∈o7 ops.toList t)
 tailP:qP ops.toList (p.head.filter (fun i=>!lN kX ops.toList i)) none [] p.tail=true
theorem qD {a b:Nat}(h:Nat.blt a b=true):a<b:=Nat.le_of_ble_eq_true h
theorem NX {ops:Array Oper}{p:fE}(h:R7 ops p=true):mB ops p:=by
 unfold R7 at h;simp only [Bool.and_eq_true] at h;obtain⟨⟨⟨⟨⟨⟨⟨⟨⟨⟨⟨h1,h2⟩,h3⟩,h4⟩,h5⟩,h6⟩,h7⟩,h8⟩,h9⟩,h10⟩,h11⟩,h12⟩:=h;simp only [List.all_eq_true,List.mem_range] at h2 h3 h5 h6 h7 h8 h9 h10;refine⟨NB h1,fun i hi=>dM.1 (h2 i hi),fun i hi=>qD (h3 i hi),h4,fun i hi j hj=>qD (h5 i hi j hj),?_,?_,?_,h9,?_,?_,?_,h12⟩
 ·intro i j d hi hj h1 h2;have:=h6 i hi j hj;rw [h1,h2] at this;simp only [Bool.or_eq_true,Bool.not_eq_true'] at this;rcases this with h|h
  ·exact beq_true h
  ·exact absurd rfl (beq_false h)
 ·intro i hi j hj hne d hd hl;have:=h7 i (by simpa using hi) j hj;rw [hd] at this;simp only [Bool.or_eq_true,Bool.not_eq_true'] at this;rcases this with h|h|h
  ·exact absurd (beq_true h) hne
  ·rw [dM.2 hl] at h;cases h
  ·exact dM.1 h
 ·intro t c ht j hj d hd hl;have:=h8 (t,c) ht j hj;simp only [hd,Bool.or_eq_true,Bool.not_eq_true'] at this;rcases this with h|h
  ·rw [dM.2 hl] at h;cases h
  ·exact dM.1 h
 ·intro i hi;have:=h10 i hi;split at this
  ·rename_i o ho;rw [eC] at ho;exact⟨o,by simpa using ho,this⟩
  ·cases this
 ·intro ht;rw [ht] at h11;simpa using h11
 ·intro t c r ht;rw [ht] at h11;simp only [Bool.and_eq_true] at h11;exact⟨tX h11.1,fun i hi hk=>tX h11.2 i (List.mem_filter.2 ⟨hi,hk⟩)⟩
theorem BK {ops:List Oper}:∀ {seen l:List Nat},F3 ops seen l=true→∀ pre i post,l=pre++i::post→∀ j∈cD ops i,j∈seen∨j∈pre
 |seen,[],_,pre,i,post,e,_,_=>by simp at e
 |seen,x::r,h,pre,i,post,e,j,hj=>by
  simp only [F3] at h;split at h
  case h_2=>cases h
  rename_i hs;cases pre with
  |nil =>
   simp only [List.nil_append,List.cons.injEq] at e;obtain⟨rfl,rfl⟩:=e;exact .inl (tX hs j hj)
  |cons y pre =>
   simp only [List.cons_append,List.cons.injEq] at e;obtain⟨rfl,rfl⟩:=e;rcases BK h pre i post rfl j hj with h|h
   ·rcases List.mem_cons.1 h with rfl|h
    ·exact .inr (by simp)
    ·exact .inl h
   ·exact .inr (by simp [h])
def oH (A:Ar)(T:cN)(C:VC)(tn:Nat)(ops:List Oper)(hJ:Heap)(l:List Nat):List (Nat × Value)→Nat→(List (Nat × Value)→Nat→Prop)→Prop :=
 @List.rec Nat (fun _=>List (Nat × Value)→Nat→(List (Nat × Value)→Nat→Prop)→Prop) (fun env nx K=>K env nx)
  (fun i _ ih env nx K=>match fC ops i with
  |none=>False
  |some o=>fL A ops env o.guard
   (fun env=>iO A T C hJ nx env o.op fun v nx'=>eL tn env o.dst v fun env=>ih env nx' K)
   (fun env=>eL tn env o.dst undef fun env=>ih env nx K)) l
theorem wK {A:Ar}{T:cN}{C:VC}{tn:Nat}{ops:List Oper}{hJ:Heap}{nx i:Nat}{r:List Nat}{env:List (Nat × Value)}{K:List (Nat × Value)→Nat→Prop}:oH A T C tn ops hJ (i::r) env nx K=match fC ops i with
 |none=>False
 |some o=>fL A ops env o.guard
  (fun env=>iO A T C hJ nx env o.op fun v nx'=>eL tn env o.dst v fun env=>oH A T C tn ops hJ r env nx' K)
  (fun env=>eL tn env o.dst undef fun env=>oH A T C tn ops hJ r env nx K):=rfl
def lF (T:cN)(tn:Nat)(ops:List Oper)(l:List Nat):List (Nat × Value)→Heap→Nat→KS→Prop :=
 @List.rec Nat (fun _=>List (Nat × Value)→Heap→Nat→KS→Prop) (fun env h nx K=>K env h nx)
  (fun i _ ih env h nx K=>match fC ops i with
  |some { op:=.alloc t,dst:=some d,.. }=>(match look T t with
   |some ti=>eL tn env (some d) (.pointer (some ⟨nx,0,none⟩)) fun env=>ih env (bO h nx (.cells true false 1 ti.zv.cells.toList)) (nx+1) K
   |none=>False)
  |_=>False) l
theorem mI {T:cN}{tn:Nat}{ops:List Oper}{i:Nat}{r:List Nat}{env:List (Nat × Value)}{h:Heap}{nx:Nat}{K:KS}:lF T tn ops (i::r) env h nx K=match fC ops i with
 |some { op:=.alloc t,dst:=some d,.. }=>(match look T t with
  |some ti=>eL tn env (some d) (.pointer (some ⟨nx,0,none⟩)) fun env=>lF T tn ops r env (bO h nx (.cells true false 1 ti.zv.cells.toList)) (nx+1) K
  |none=>False)
 |_=>False:=rfl
def yB (env:List (Nat × Value))(hJ:Heap)(chk:Bool)(op:Op):Bool :=
 match chk with
 |false=>true
 |true=>match op with
  |.store _ x _=>(match cY env x with
   |some (.pointer (some ad))=>(match look hJ ad.block with|none=>true|some _=>false)
   |_=>false)
  |.load _ _=>true
  |.buildSlice _ _ _=>true
  |.call c=>(match c.callee with
   |.builtin .append=>(match kQ env c.args.toList with
    |some [s,_]=>(match s with
     |.slice none 0 0=>true
     |.slice (some ad) _ _=>(match look hJ ad.block with|none=>true|some _=>false)
     |_=>false)
    |_=>false)
   |_=>false)
  |_=>false
def j0 (A:Ar)(T:cN)(C:VC)(Y:VY)(tn:Nat)(ops:List Oper)(hJ:Heap)(l:List (Nat × Bool)):List (Nat × Value)→Heap→Nat→KS→Prop :=
 @List.rec (Nat × Bool) (fun _=>List (Nat × Value)→Heap→Nat→KS→Prop) (fun env h nx K=>K env h nx)
  (fun p _ ih env h nx K=>match fC ops p.1 with
  |none=>False
  |some o=>fL A ops env o.guard
   (fun env=>dK (yB env hJ p.2 o.op) (pK A T C Y env h nx o.op fun v h' nx'=>eL tn env o.dst v fun env'=>ih env' h' nx' K))
   (fun env=>eL tn env o.dst undef fun env'=>ih env' h nx K)) l
theorem wC {A:Ar}{T:cN}{C:VC}{Y:VY}{tn:Nat}{ops:List Oper}{hJ:Heap}{i:Nat}{chk:Bool}{r:List (Nat × Bool)}{env:List (Nat × Value)}{h:Heap}{nx:Nat}{K:KS}:j0 A T C Y tn ops hJ ((i,chk)::r) env h nx K=match fC ops i with
 |none=>False
 |some o=>fL A ops env o.guard
  (fun env=>dK (yB env hJ chk o.op) (pK A T C Y env h nx o.op fun v h' nx'=>eL tn env o.dst v fun env'=>j0 A T C Y tn ops hJ r env' h' nx' K))
  (fun env=>eL tn env o.dst undef fun env'=>j0 A T C Y tn ops hJ r env' h nx K):=rfl
def V3 (t:Nat):List Oper→Option Op
 |[]=>none
 |o::r=>match o.dst with
  |some d=>(match Nat.beq d t with|true=>some o.op|false=>V3 t r)
  |none=>V3 t r
def mL (T:cN)(ops:List Oper)(env:List (Nat × Value))(g:Heap):Nat→Operand→Option Value
 |0,s=>cY env s
 |n+1,s=>match s with
  |.tmp t=>(match V3 t ops with
   |some (.move y)=>mL T ops env g n y
   |some (.nilCheck y)=>mL T ops env g n y
   |some (.fieldAddr st y f)=>(match mL T ops env g n y,look T st with
    |some (.pointer (some ⟨k,o,none⟩)),some { kind:=.st fs,.. }=>(match fs[f]? with|some (off,_)=>some (.pointer (some ⟨k,o+off,none⟩))|none=>none)
    |_,_=>none)
   |some (.indexAddr st x y)=>(match mL T ops env g n x,mL T ops env g n y,look T st with
    |some (.slice (some ⟨k,o,none⟩) _ _),some (.int _ i),some { kind:=.sl e,.. }=>(match look T e with|some ei=>some (.pointer (some ⟨k,o+i.toNat*ei.size,none⟩))|none=>none)
    |_,_,_=>none)
   |some (.load _ y)=>(match mL T ops env g n y with
    |some (.pointer (some ⟨k,o,none⟩))=>(match look g k with|some (.cells _ _ _ cs)=>nth cs o|_=>none)
    |_=>none)
   |_=>cY env s)
  |_=>cY env s
def yV (T:cN)(ops:List Oper)(env:List (Nat × Value))(g:Heap):Nat→Operand→Option Nat
 |0,_=>none
 |n+1,s=>match s with
  |.tmp t=>(match V3 t ops with
   |some (.indexAddr _ x _)=>(match mL T ops env g 12 x with
    |some (.slice (some a) _ _)=>some a.block
    |some (.pointer (some a))=>some a.block
    |_=>none)
   |some (.fieldAddr _ y _)=>yV T ops env g n y
   |some (.nilCheck y)=>yV T ops env g n y
   |_=>(match mL T ops env g 12 s with
    |some (.pointer (some a))=>some a.block
    |_=>none))
  |_=>none
def iR (T:cN)(ops:List Oper)(env:List (Nat × Value))(g:Heap):List (Nat × Bool)→Heap→Heap
 |[],h=>h
 |(i,chk)::r,h=>match chk,fC ops i with
  |true,some { op:=.store _ x _,.. }=>(match yV T ops env g 12 x with
   |some k=>iR T ops env g r (rem h k)
   |none=>iR T ops env g r h)
  |true,some { op:=.call c,.. }=>(match c.callee,c.args.toList with
   |.builtin .append,s::_=>(match mL T ops env g 12 s with
    |some (.slice (some ad) _ _)=>iR T ops env g r (rem h ad.block)
    |_=>iR T ops env g r h)
   |_,_=>iR T ops env g r h)
  |_,_=>iR T ops env g r h
def BO (T:cN)(ops:List Oper)(env:List (Nat × Value))(h:Heap):List Nat→Heap→Heap
 |[],g=>g
 |i::r,g=>match fC ops i with
  |some { op:=.load _ y,.. }=>(match yV T ops env h 12 y with
   |some k=>(match look g k with
    |some _=>BO T ops env h r g
    |none=>(match look h k with|some o=>BO T ops env h r (bO g k o)|none=>BO T ops env h r g))
   |none=>BO T ops env h r g)
  |_=>BO T ops env h r g
def HG (T:cN)(ops:List Oper)(env:List (Nat × Value))(p:fE)(h:Heap):Heap :=
 match p.z8 with
 |[]=>iR T ops env h p.tail h
 |i::r=>BO T ops env h (i::r) []
def oF (A:Ar)(T:cN)(C:VC)(Y:VY)(tn:Nat)(ops:List Oper)(p:fE)(env:List (Nat × Value))(h:Heap)(nx:Nat)(K:KS):Prop :=
 oH A T C tn ops (HG T ops env p h) p.head env nx fun env1 nx1 =>
  lF T tn ops p.allocs env1 h nx1 fun env2 h2 nx2 =>
   j0 A T C Y tn ops (HG T ops env p h) p.tail env2 h2 nx2 K
theorem T1 {h:Heap}{j k:Nat}{o:aV}(hk:look (rem h j) k=some o):look h k=some o:=by
 rw [dL] at hk;split at hk
 ·cases hk
 ·exact hk
theorem fA {T:cN}{g:Heap}{ops:List Oper}{env:List (Nat × Value)}:∀ {l:List (Nat × Bool)} {h:Heap} {k:Nat} {o:aV},look (iR T ops env g l h) k=some o→look h k=some o
 |[],h,k,o,hk=>hk
 |(i,chk)::r,h,k,o,hk=>by
  unfold iR at hk;split at hk
  ·split at hk
   ·exact T1 (fA hk)
   ·exact fA hk
  ·split at hk
   ·split at hk
    ·exact T1 (fA hk)
    ·exact fA hk
   ·exact fA hk
  ·exact fA hk
theorem mW {T:cN}{ops:List Oper}{env:List (Nat × Value)}{h:Heap}:∀ {l:List Nat} {g:Heap},(∀ k o,look g k=some o→look h k=some o)→∀ k o,look (BO T ops env h l g) k=some o→look h k=some o
 |[],g,hg,k,o,hk=>hg k o hk
 |i::r,g,hg,k,o,hk=>by
  unfold BO at hk;split at hk
  ·split at hk
   ·split at hk
    ·exact mW hg k o hk
    ·split at hk
     ·rename_i o' ho';refine mW (fun k2 o2 h2=>?_) k o hk;rw [kZ] at h2;split at h2
      ·rename_i e;cases h2;rw [e];exact ho'
      ·exact hg k2 o2 h2
     ·exact mW hg k o hk
   ·exact mW hg k o hk
  ·exact mW hg k o hk
theorem aBq {T:cN}{ops:List Oper}{env:List (Nat × Value)}{p:fE}{h:Heap}(k:Nat)(o:aV)(hk:look (HG T ops env p h) k=some o):look h k=some o:=by
 unfold HG at hk;split at hk
 ·exact fA hk
 ·refine mW (fun k2 o2 h2=>?_) k o hk;cases h2
section
variable {P:Program}{T:cN}{C:VC}{Y:VY}{ops:Array Oper}{p:fE}
theorem yP {o:Oper}(hs:∀ cs b,o.op≠.select cs b){a a':Act}(h:∀ t∈o.looksAt ops,a.tmps[t]? = a'.tmps[t]?) :
  execOp a.eval o=execOp a'.eval o∧Region.wanted o (yielded ops a.tmps)=Region.wanted o (yielded ops a'.tmps):=by
 refine⟨execOp_congr o hs fun x hx=>?_,?_⟩
 ·cases x with
  |tmp t =>
   have:=h t (List.mem_append_left _ (List.mem_filterMap.2 ⟨.tmp t,by simpa using hx,rfl⟩));simp [Act.eval,this]
  |_=>rfl
 ·unfold Region.wanted;cases hg:o.guard with
  |none=>rfl
  |some gw =>
   obtain⟨g,want⟩:=gw;have:yielded ops a.tmps g=yielded ops a'.tmps g:=by
    unfold yielded;cases ht:(ops[g]?).bind (·.dst) with
    |none=>rfl
    |some t =>
     have:=h t (List.mem_append_right _ (by simp [hg,ht]));simp [this]
   simp only [this]
theorem CI (a:Act)(dst:Option Nat)(v:Value)(t:Nat):(a.put dst v).tmps[t]? = if dst=some t∧t<a.tmps.size then some v else a.tmps[t]? := by
 cases dst with
 |none=>simp [Act.put]
 |some d =>
  by_cases h:d=t
  ·subst h;by_cases hl:d<a.tmps.size
   ·rw [if_pos ⟨rfl,hl⟩];simp [Act.put,Array.getElem?_setIfInBounds_self_of_lt hl]
   ·rw [if_neg (fun e=>hl e.2)];simp [Act.put,Array.getElem?_setIfInBounds,hl]
  ·rw [if_neg (fun e=>h (Option.some.inj e.1))];simp only [Act.put];exact Array.getElem?_setIfInBounds_ne h
theorem fW {a:Act}{dst:Option Nat}{v:Value}{t:Nat}(h:dst≠some t):(a.put dst v).tmps[t]? = a.tmps[t]? := by
 rw [CI,if_neg (fun e=>h e.1)]
theorem rG {a:Act}{v:Value}{t:Nat}(h:t<a.tmps.size):(a.put (some t) v).tmps[t]? = some v:=by
 rw [CI,if_pos ⟨rfl,h⟩]
theorem pW (a:Act)(dst:Option Nat)(v:Value):(a.put dst v).tmps.size=a.tmps.size:=by
 cases dst <;> simp [Act.put]
theorem put_defers (a:Act)(dst:Option Nat)(v:Value):(a.put dst v).defers=a.defers:=by
 cases dst <;> rfl
def jG (ops:Array Oper)(ι:Nat→Loc)(vals:List (Nat × Value))(a:Act):Act:=vals.foldl (fun a q=>a.put (cB ops.toList q.1) (tr ι q.2)) a
theorem tG {ι:Nat→Loc}:∀ (vals:List (Nat × Value)) (a:Act),(jG ops ι vals a).tmps.size=a.tmps.size
 |[],a=>rfl
 |q::r,a=>by
  have:=tG (ι:=ι) r (a.put (cB ops.toList q.1) (tr ι q.2));rw [pW] at this;exact this
theorem vT {ι:Nat→Loc}:∀ (vals:List (Nat × Value)) (a:Act),(jG ops ι vals a).defers=a.defers
 |[],a=>rfl
 |q::r,a=>by
  have:=vT (ι:=ι) r (a.put (cB ops.toList q.1) (tr ι q.2));rw [put_defers] at this;exact this
theorem j6 {ι:Nat→Loc}{d:Nat}:∀ (vals:List (Nat × Value)) (a:Act),(∀ q∈vals,cB ops.toList q.1≠some d)→(jG ops ι vals a).tmps[d]? = a.tmps[d]?
 |[],a,_=>rfl
 |q::r,a,h=>by
  have:=j6 (ι:=ι) r (a.put (cB ops.toList q.1) (tr ι q.2)) (fun x hx=>h x (by simp [hx]));rw [fW (h q (by simp))] at this;exact this
theorem r6 {ι:Nat→Loc}{d i:Nat}{v:Value}:∀ (vals:List (Nat × Value)) (a:Act),d<a.tmps.size→(i,v)∈vals→cB ops.toList i=some d→(∀ q∈vals,cB ops.toList q.1=some d→q.1=i)→(vals.map (·.1)).Nodup →
  (jG ops ι vals a).tmps[d]? = some (tr ι v)
 |[],a,_,h,_,_,_=>by cases h
 |q::r,a,hd,hm,hi,hu,hn=>by
  simp only [List.map_cons,List.nodup_cons] at hn;rcases List.mem_cons.1 hm with rfl|hm
  ·have:=j6 (ops:=ops) (ι:=ι) (d:=d) r (a.put (cB ops.toList i) (tr ι v)) (fun x hx e=>by
    have:=hu x (by simp [hx]) e;exact hn.1 (List.mem_map.2 ⟨x,hx,this⟩))
   show (jG ops ι r (a.put (cB ops.toList i) (tr ι v))).tmps[d]? = _;rw [this,hi,rG hd]
  ·exact r6 r (a.put (cB ops.toList q.1) (tr ι q.2)) (by rw [pW];exact hd) hm hi (fun x hx=>hu x (by simp [hx])) hn.2
def Yld (P:Program)(ops:Array Oper)(ι:Nat→Loc)(B nx:Nat)(hJ:Heap)(wS:World)(i:Nat)(v:Value)(a:Act):Prop :=
 ∃ o,ops[i]? = some o∧eT ι nx v∧(∀ c,o.op≠.defer c)∧((Region.wanted o (yielded ops a.tmps)=false∧v=undef) ∨
   (Region.wanted o (yielded ops a.tmps)=true∧∀ w,aR ι B (mA o.op hJ) nx w→(m8 o.op=true→gJ wS.heap.size wS w)→aDe P (execOp a.eval o) w (tr ι v)))
theorem J8 {tn:Nat}{env:List (Nat × Value)}{dst:Option Nat}{v:Value}{K:List (Nat × Value)→Prop}(hl:eL tn env dst v K):∀ d,dst=some d→d<tn:=by
 rintro d rfl;simp only [eL] at hl;split at hl
 ·rename_i h;exact qD h
 ·exact hl.elim
theorem aR.wide {ι ι':Nat→Loc}{B nx nx':Nat}{h:Heap}{w:World}(H:aR ι B h nx w)(hi:∀ k,k<nx→ι' k=ι k)(hn:nx≤nx'):aR ι' B h nx' w:=by
 refine⟨fun k o hk=>?_,fun k k' o1 o2 h1 h2 hne ha b hb=>?_,fun k o hk=>Nat.lt_of_lt_of_le (H.low k o hk) hn,H.size,fun k o hk=>(H.sc k o hk).mono hn hi⟩
 ·rw [hi _ (H.low k o hk)];exact (H.obj k o hk).names (H.sc k o hk) hi
 ·rw [hi _ (H.low k o1 h1)] at hb;rw [hi _ (H.low k' o2 h2)];exact H.sep k k' o1 o2 h1 h2 hne ha b hb
theorem aR.narrow {ι ι':Nat→Loc}{B nx nx':Nat}{h:Heap}{w wS:World}(H:aR ι' B h nx' w)(HS:aR ι B h nx wS)(hi:∀ k,k<nx→ι' k=ι k):aR ι B h nx w:=by
 have hsc:∀ k o,look h k=some o→T4 ι nx o:=HS.sc;refine⟨fun k o hk=>?_,fun k k' o1 o2 h1 h2 hne ha b hb=>?_,fun k o hk=>HS.low k o hk,H.size,hsc⟩
 ·have:=H.obj k o hk;rw [hi _ (HS.low k o hk)] at this;exact this.names ((hsc k o hk).mono (Nat.le_refl _) hi) (fun j hj=>(hi j hj).symm)
 ·rw [← hi _ (HS.low k o1 h1)] at hb;rw [← hi _ (HS.low k' o2 h2)];exact H.sep k k' o1 o2 h1 h2 hne ha b hb
theorem Yld.wide {P:Program}{ops:Array Oper}{ι ι':Nat→Loc}{B nx nx':Nat}{hJ:Heap}{wS:World}{i:Nat}{v:Value}{a:Act}(H:aR ι B hJ nx wS)(hi:∀ k,k<nx→ι' k=ι k)(hn:nx≤nx')
  (hy:Yld P ops ι B nx hJ wS i v a):Yld P ops ι' B nx' hJ wS i v a:=by
 obtain⟨o,h1,h2,h3,h4⟩:=hy;refine⟨o,h1,nM hn hi h2,h3,?_⟩;rcases h4 with h4|⟨h4,h5⟩
 ·exact .inl h4
 ·refine .inr ⟨h4,fun w Hw hb=>?_⟩;rw [A4 hi h2];refine h5 w (Hw.narrow (wS:=wS) ?_ hi) hb;unfold mA;cases kX o.op with
  |true=>exact aR.none H.size
  |false=>exact H
theorem N0 (hT:cK P T)(hC:bG P C)(hD:dW C)(hp:∀ i,i<ops.size→lN qK ops.toList i=true){tn:Nat}{B:Nat}{hJ:Heap}{wS:World}{K:List (Nat × Value)→Nat→Prop} :
  ∀ (l:List Nat) (env:List (Nat × Value)) (a:Act) (ι:Nat→Loc) (nx:Nat),aR ι B hJ nx wS→oH aC T C tn ops.toList hJ l env nx K→cW ι nx env a→a.tmps.size=tn →
  ∃ vals env1 ι' nx',K env1 nx'∧(∀ k,k<nx→ι' k=ι k)∧nx≤nx'∧vals.map (·.1)=l∧cW ι' nx' env1 (jG ops ι' vals a)∧(∀ q∈vals,∀ d,cB ops.toList q.1=some d→d<tn) ∧
    ∀ pre i v post,vals=pre++(i,v)::post→Yld P ops ι' B nx' hJ wS i v (jG ops ι' pre a)
 |[],env,a,ι,nx,H,hl,he,hs=>⟨[],env,ι,nx,hl,fun _ _=>rfl,Nat.le_refl _,rfl,he,by simp,by simp⟩
 |i::r,env,a,ι,nx,H,hl,he,hs=>by
  simp only [wK] at hl;split at hl
  ·exact hl.elim
  rename_i o ho;have hdst:cB ops.toList i=o.dst:=(by simp [cB,ho]);have hoi:ops[i]? = some o:=(by rw [eC] at ho;simpa using ho);have hlt:i<ops.size:=(Array.getElem?_eq_some_iff.1 hoi).1;have hdef:∀ c,o.op≠.defer c:=by
   intro c e;have:=hp i hlt;simp [lN,ho,e,qK] at this
  obtain⟨env1,he1,hcase⟩:=uJ he hl;have main:∃ v ι1 nx1,(∀ k,k<nx→ι1 k=ι k)∧nx≤nx1∧eT ι1 nx1 v∧Yld P ops ι1 B nx1 hJ wS i v a∧eL tn env1 o.dst v fun env=>oH aC T C tn ops.toList hJ r env nx1 K:=by
   rcases hcase with ⟨hw,hl⟩|⟨hw,hl⟩
   ·obtain⟨v,nx1,ι1,h1,h2,h3,h4,h5⟩:=XP hT hC hD he1 H hl;refine⟨v,ι1,nx1,h3,h4,h2,⟨o,hoi,h2,hdef,.inr ⟨hw,fun w Hw hb=>h5 w (Hw.narrow (wS:=wS) ?_ h3) hb⟩⟩,h1⟩;unfold mA;cases kX o.op with
    |true=>exact aR.none H.size
    |false=>exact H
   ·exact⟨undef,ι,nx,fun _ _=>rfl,Nat.le_refl _,dE rfl,⟨o,hoi,dE rfl,hdef,.inl ⟨hw,rfl⟩⟩,hl⟩
  obtain⟨v,ι1,nx1,hi1,hn1,hv,hy,hl⟩:=main;have H1:=H.wide hi1 hn1;obtain⟨env2,k1,k2,k3,k4⟩:=oJ (he1.names hn1 hi1) hs hl hv;rw [← hdst] at k2 k3;obtain⟨vals,env3,ι',nx',h1,hi',hn',h2,h3,h4,h5⟩:=N0 hT hC hD hp r env2 _ ι1 nx1 H1 k1 k2 k3;have etr:tr ι' v=tr ι1 v:=A4 hi' hv;have ep:∀ pre,jG ops ι' ((i,v)::pre) a=jG ops ι' pre (a.put (cB ops.toList i) (tr ι1 v)):=fun pre=>by
   show jG ops ι' pre (a.put (cB ops.toList i) (tr ι' v))=_;rw [etr]
  refine⟨(i,v)::vals,env3,ι',nx',h1,fun k hk=>(hi' k (by omega)).trans (hi1 k hk),by omega,by simp [h2],by rw [ep];exact h3,fun q hq d hd=>?_,fun pre j u post e=>?_⟩
  ·rcases List.mem_cons.1 hq with rfl|hq
   ·exact J8 hl d (by rw [← hdst];exact hd)
   ·exact h4 q hq d hd
  ·cases pre with
   |nil =>
    simp only [List.nil_append,List.cons.injEq,Prod.mk.injEq] at e;obtain⟨⟨rfl,rfl⟩,rfl⟩:=e;exact hy.wide H1 hi' hn'
   |cons q pre =>
    simp only [List.cons_append,List.cons.injEq] at e;obtain⟨rfl,rfl⟩:=e;rw [ep];exact h5 pre j u post rfl
structure AR (ops:Array Oper) (p:fE) (ι:Nat→Loc) (vals:List (Nat × Value)) (tn:Nat) (ds:List Deferred) (a0:Act) (L:Nat→Prop) (a a':Act):Prop where
 size:a.tmps.size=tn
 size':a'.tmps.size=tn
 defers:a.defers=ds
 defers':a'.defers=ds
 q1:∀ i v d,(i,v)∈vals→cB ops.toList i=some d→a'.tmps[d]? = some (tr ι v)
 q2:∀ d,(∀ i∈p.head,cB ops.toList i=some d→L i)→a.tmps[d]? = a'.tmps[d]?
 q3:∀ d,(∀ i,i∈p.head∨L i→cB ops.toList i≠some d)→a'.tmps[d]? = a0.tmps[d]?
 q4:∀ i d,i∈p.head→¬ L i→cB ops.toList i=some d→a.tmps[d]? = a0.tmps[d]?
def F0 (L:Nat→Prop)(i:Nat):Nat→Prop:=fun j=>j=i∨L j
variable {ι:Nat→Loc}{vals:List (Nat × Value)}{tn:Nat}{ds:List Deferred}{a0:Act}{L:Nat→Prop}{a a':Act}
theorem lY {i d:Nat}(h:cB ops.toList i=some d):i<ops.size:=by
 unfold cB at h;split at h
 ·rename_i o ho;rw [eC] at ho;have:ops[i]? = some o:=(by simpa using ho);exact (Array.getElem?_eq_some_iff.1 this).1
 ·cases h
theorem AR.head (hp:mB ops p)(I:AR ops p ι vals tn ds a0 L a a')(hv:vals.map (·.1)=p.head)(hd:∀ q∈vals,∀ d,cB ops.toList q.1=some d→d<tn){i:Nat}{v:Value}(hi:(i,v)∈vals) :
  AR ops p ι vals tn ds a0 (F0 L i) (a.put (cB ops.toList i) (tr ι v)) a':=by
 refine⟨by rw [pW];exact I.size,I.size',by rw [put_defers];exact I.defers,I.defers',I.q1,fun d h=>?_,fun d h=>I.q3 d (fun j hj=>h j (hj.imp id .inr)),fun j d hj hn hjd=>?_⟩
 ·by_cases e:cB ops.toList i=some d
  ·rw [e,rG (by rw [I.size];exact hd _ hi d e),I.q1 i v d hi e]
  ·rw [fW e];refine I.q2 d fun j hj hjd=>?_;rcases h j hj hjd with rfl|h
   ·exact absurd hjd e
   ·exact h
 ·have hij:j≠i:=fun e=>hn (.inl e);rw [fW (fun e=>hij (hp.dsts j i d (lY hjd) (lY e) hjd e))];exact I.q4 j d hj (fun h=>hn (.inr h)) hjd
theorem AR.other (hp:mB ops p)(I:AR ops p ι vals tn ds a0 L a a')(hv:vals.map (·.1)=p.head){j:Nat}(hj:j∉p.head)(u:Value) :
  AR ops p ι vals tn ds a0 (F0 L j) (a.put (cB ops.toList j) u) (a'.put (cB ops.toList j) u):=by
 have hne:∀ i d,i∈p.head→cB ops.toList i=some d→cB ops.toList j≠some d:=fun i d hi hd e=>hj (by rw [hp.dsts j i d (lY e) (lY hd) e hd];exact hi);have hmem:∀ i v,(i,v)∈vals→i∈p.head:=fun i v h=>(by rw [← hv];exact List.mem_map.2 ⟨_,h,rfl⟩);refine⟨by rw [pW];exact I.size,by rw [pW];exact I.size',by rw [put_defers];exact I.defers,by rw [put_defers];exact I.defers',fun i v d hi hd=>?_,fun d h=>?_,fun d h=>?_,fun i d hi hn hid=>?_⟩
 ·rw [fW (hne i d (hmem i v hi) hd)];exact I.q1 i v d hi hd
 ·rw [CI,CI,I.size,I.size'];by_cases e:cB ops.toList j=some d∧d<tn
  ·rw [if_pos e,if_pos e]
  ·rw [if_neg e,if_neg e];refine I.q2 d fun i hi hid=>?_;rcases h i hi hid with rfl|h
   ·exact absurd hi hj
   ·exact h
 ·rw [fW (h j (.inr (.inl rfl)))];exact I.q3 d fun i hi=>h i (hi.imp id .inr)
 ·rw [fW (hne i d hi hid)];exact I.q4 i d hi (fun h=>hn (.inr h)) hid
theorem gK {i:Nat}:i∈p.order↔i∈p.head∨i∈p.allocs∨i∈p.tail.map (·.1):=by simp [fE.order]
theorem mB.apart (hp:mB ops p){i:Nat}(hi:i∈p.head):i∉p.allocs∧i∉p.tail.map (·.1):=by
 have:=hp.nodup;unfold fE.order at this;rw [List.append_assoc,List.nodup_append] at this;exact⟨fun h=>this.2.2 i hi i (List.mem_append_left _ h) rfl,fun h=>this.2.2 i hi i (List.mem_append_right _ h) rfl⟩
theorem mB.aGS (hp:mB ops p){i:Nat}(hi:i∈p.allocs):i∉p.tail.map (·.1):=by
 have:=hp.nodup;unfold fE.order at this;rw [List.nodup_append] at this;exact fun h=>this.2.2 i (List.mem_append_right _ hi) i h rfl
theorem AR.aM3 (hp:mB ops p)(I:AR ops p ι vals tn ds a0 L a a')(hv:vals.map (·.1)=p.head)(hd:∀ q∈vals,∀ d,cB ops.toList q.1=some d→d<tn)(h0:a0.tmps.size=tn)
  (cl:∀ i,L i→∀ j∈cD ops.toList i,L j) (hL:∀ i,L i→i<ops.size) {pre post:List (Nat × Value)} {i:Nat} {v:Value} (e:vals=pre++(i,v)::post) (hn:¬ L i) (hr:∀ j∈cD ops.toList i,L j) :
  ∀ t∈pA ops i,a.tmps[t]? = (jG ops ι pre a0).tmps[t]? := by
 intro t ht;have hih:i∈p.head:=(by rw [← hv,e];simp);have hin:i<ops.size:=hp.MD i (gK.2 (.inl hih));have hhead:p.head=pre.map (·.1)++i::post.map (·.1):=(by rw [← hv,e];simp);have hnd:(p.head).Nodup:=by
  have:=hp.nodup;unfold fE.order at this;rw [List.append_assoc,List.nodup_append] at this;exact this.1
 have hpre:∀ j∈cD ops.toList i,j∈pre.map (·.1):=fun j hj=>by
  rcases BK hp.headP _ _ _ hhead j hj with h|h
  ·cases h
  ·exact h
 have hni:i∉pre.map (·.1):=fun hm=>by
  rw [hhead,List.nodup_append] at hnd;exact hnd.2.2 i hm i (by simp) rfl
 by_cases hex:∃ j∈p.head,cB ops.toList j=some t
 ·obtain⟨j,hj,hjt⟩:=hex;by_cases hji:j=i
  ·subst hji;rw [I.q4 j t hj hn hjt];rw [j6];intro q hq hqt;have:=hp.dsts _ _ t (lY hqt) (lY hjt) hqt hjt;exact hni (List.mem_map.2 ⟨q,hq,this⟩)
  ·have hjp:=hp.look1 j (.inl hj) i hin (fun e=>hji e.symm) t hjt ht;have hjL:=hr j hjp;obtain⟨q,hq,hqj⟩:=List.mem_map.1 (hpre j hjp);obtain⟨j',u⟩:=q;simp only at hqj;subst hqj;have hqv:(j',u)∈vals:=(by rw [e];exact List.mem_append_left _ hq);rw [I.q2 t (fun j2 hj2 h2=>by rw [hp.dsts j2 j' t (lY h2) (lY hjt) h2 hjt];exact hjL),I.q1 j' u t hqv hjt];rw [r6 pre a0 (by rw [h0];exact hd _ hqv t hjt) hq hjt (fun q2 hq2 h2=>hp.dsts _ _ t (lY h2) (lY hjt) h2 hjt) (by
    rw [hhead,List.nodup_append] at hnd;exact hnd.1)]
 ·have hex':∀ j∈p.head,cB ops.toList j≠some t:=fun j hj h=>hex ⟨j,hj,h⟩;rw [I.q2 t (fun j hj h=>absurd h (hex' j hj)),I.q3 t,j6]
  ·intro q hq;exact hex' _ (by rw [hhead];exact List.mem_append_left _ (List.mem_map.2 ⟨q,hq,rfl⟩))
  ·intro j hj;rcases hj with hj|hj
   ·exact hex' j hj
   ·intro hjt;rcases gK.1 (hp.cover j (hL j hj)) with h|h|h
    ·exact hex' j h hjt
    ·have hne:i≠j:=fun e=>(hp.apart hih).1 (e▸h);have:=hpre j (hp.look1 j (.inr h) i hin hne t hjt ht);exact (hp.apart (i:=j) (by rw [hhead];exact List.mem_append_left _ this)).1 h
    ·obtain⟨⟨t',c⟩,htc,rfl⟩:=List.mem_map.1 h;exact hn (cl t' hj i (hp.look2 t' c htc i hih t hjt ht))
theorem AR.aJQ (hp:mB ops p)(I:AR ops p ι vals tn ds a0 L a a'){j:Nat}(hj:j∉p.head)(hjn:j<ops.size)(hr:∀ i∈cD ops.toList j,L i) :
  ∀ t∈pA ops j,a.tmps[t]? = a'.tmps[t]? := fun t ht =>
 I.q2 t fun i hi hit=>hr i (hp.look1 i (.inl hi) j hjn (fun e=>hj (e▸hi)) t hit ht)
end
end Go.Aw
end
