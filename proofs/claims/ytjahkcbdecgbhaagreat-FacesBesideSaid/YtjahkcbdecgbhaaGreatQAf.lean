/-
  Parts of a proof. No condition.
-/
import Derived.Test.YtjahkcbdecgbhaaGreatQAe
set_option linter.unusedSimpArgs false
set_option linter.unusedVariables false
noncomputable section
namespace Go.Aw
open Go.RowKit
structure eZ where
 head:List Nat
 allocs:List Nat
 tail:List (Nat × Bool)
 BI:List Nat
def pM (n:Nat):List Nat→Bool
 |[]=>false
 |x::r=>match Nat.beq x n with|true=>true|false=>pM n r
theorem dM {n:Nat}{l:List Nat}:pM n l=true↔n∈l:=by
 induction l with
 |nil=>simp [pM]
 |cons x r ih =>
  simp only [pM];split
  ·rename_i h;simp [(beq_true h).symm]
  ·rename_i h;have:=beq_false h;simp only [ih,List.mem_cons];exact⟨.inr,fun h=>h.resolve_left (fun e=>this e.symm)⟩
def T4:List Nat→List Nat→Bool
 |[],_=>true
 |x::r,l=>match pM x l with|true=>T4 r l|false=>false
theorem vB {a l:List Nat}(h:T4 a l=true):∀ x∈a,x∈l:=by
 induction a with
 |nil=>simp
 |cons x r ih =>
  simp only [T4] at h;split at h
  ·rename_i hx;intro y hy;rcases List.mem_cons.1 hy with rfl|hy
   ·exact dM.1 hx
   ·exact ih h y hy
  ·cases h
def LO:List Nat→Bool
 |[]=>true
 |x::r=>match pM x r with|true=>false|false=>LO r
theorem P9 {l:List Nat}(h:LO l=true):l.Nodup:=by
 induction l with
 |nil=>simp
 |cons x r ih =>
  simp only [LO] at h;split at h
  ·cases h
  ·rename_i hx;rw [List.nodup_cons];exact⟨fun hm=>(by rw [dM.2 hm] at hx;cases hx),ih h⟩
def lU (o:Oper):List Nat:=o.after.toList.filterMap fun e=>match Region.binds .any e with|true=>some e.on|false=>none
def cK (ops:List Oper)(i:Nat):List Nat:=match fM ops i with|some o=>lU o|none=>[]
def cD (ops:List Oper)(i:Nat):Option Nat:=match fM ops i with|some o=>o.dst|none=>none
def pP (ops:Array Oper)(i:Nat):List Nat:=match fM ops.toList i with|some o=>o.looksAt ops|none=>[]
def clo (ops:List Oper):Nat→List Nat→List Nat
 |0,acc=>acc
 |j+1,acc=>clo ops j (match pM j acc with|true=>cK ops j++acc|false=>acc)
def pE (ops:List Oper)(t:Nat):List Nat:=clo ops t (cK ops t)
theorem VE {ops:List Oper}{L:Nat→Prop}(cl:∀ i,L i→∀ j∈cK ops i,L j):∀ (j:Nat) (acc:List Nat),(∀ x∈acc,L x)→∀ x∈clo ops j acc,L x
 |0,acc,h,x,hx=>h x hx
 |j+1,acc,h,x,hx=>by
  refine VE cl j _ (fun y hy=>?_) x hx;split at hy
  ·rename_i hm;rcases List.mem_append.1 hy with hy|hy
   ·exact cl j (h j (dM.1 hm)) y hy
   ·exact h y hy
  ·exact h y hy
theorem oB {ops:List Oper}{L:Nat→Prop}(cl:∀ i,L i→∀ j∈cK ops i,L j){t:Nat}(h:∀ j∈cK ops t,L j):∀ j∈pE ops t,L j:=VE cl t _ h
def FX (ops:List Oper):List Nat→List Nat→Bool
 |_,[]=>true
 |seen,i::r=>match T4 (cK ops i) seen with|true=>FX ops (i::seen) r|false=>false
def l7 (f:Op→Bool)(ops:List Oper)(i:Nat):Bool:=match fM ops i with|some o=>f o.op|none=>false
def rR (ops:List Oper)(loads:List Nat):Option Nat→List Nat→List (Nat × Bool)→Bool
 |_,_,[]=>true
 |last,got,(t,chk)::r =>
  (match last with | none=>true | some l=>pM l (pE ops t))&&(chk || T4 loads (pE ops t++got))&&rR ops loads (some t) (pE ops t++got) r
def MB (o:Oper):Bool:=match o with|{ op:=.alloc _,guard:=none,dst:=some _,.. }=>true|_=>false
def rW:Op→Bool
 |.select _ _=>false
 |.defer _=>false
 |_=>true
def eZ.order (p:eZ):List Nat:=p.head++p.allocs++p.tail.map (·.1)
def S5 (ops:Array Oper)(p:eZ):Bool :=
 let l:=ops.toList;let n:=List.range ops.size
 LO p.order&&n.all (fun i=>pM i p.order)&&p.order.all (fun i=>Nat.blt i ops.size)&&FX l [] p.head &&
 n.all (fun i=>(cK l i).all fun j=>Nat.blt j i) &&
 n.all (fun i=>n.all fun j=>Nat.beq i j || (match cD l i,cD l j with | some d,some e=>!Nat.beq d e | _,_=>true)) &&
 (p.head++p.allocs).all (fun i=>n.all fun j=>Nat.beq j i || (match cD l i with | some d=>!pM d (pP ops j) || pM i (cK l j) | none=>true)) &&
 p.tail.all (fun t=>p.head.all fun j=>match cD l t.1 with | some d=>!pM d (pP ops j) || pM j (cK l t.1) | none=>true) &&
 n.all (fun i=>l7 rW l i) &&
 p.allocs.all (fun i=>match fM l i with|some o=>MB o|none=>false) &&
 (match p.tail with
  |[]=>p.allocs.isEmpty
  |(t,_)::_=>T4 p.allocs (pE l t)&&T4 (p.head.filter (l7 n7 l)) (pE l t)) &&
 rR l (p.head.filter (fun i=>!l7 lO l i)) none [] p.tail
structure mF (ops:Array Oper) (p:eZ):Prop where
 nodup:p.order.Nodup
 cover:∀ i,i<ops.size→i∈p.order
 NA:∀ i∈p.order,i<ops.size
 headP:FX ops.toList [] p.head=true
 lin:∀ i,i<ops.size→∀ j∈cK ops.toList i,j<i
 dsts:∀ i j d,i<ops.size→j<ops.size→cD ops.toList i=some d→cD ops.toList j=some d→i=j
 look1:∀ i,i∈p.head∨i∈p.allocs→∀ j,j<ops.size→j≠i→∀ d,cD ops.toList i=some d→d∈pP ops j→i∈cK ops.toList j
 look2:∀ t c,(t,c)∈p.tail→∀ j∈p.head,∀ d,cD ops.toList t=some d→d∈pP ops j→j∈cK ops.toList t
 plain:∀ i,i<ops.size→l7 rW ops.toList i=true
 allocs:∀ i∈p.allocs,∃ o,ops[i]? = some o∧MB o=true
 noTail:p.tail=[]→p.allocs=[]
 first:∀ t c r,p.tail=(t,c)::r→(∀ i∈p.allocs,i∈pE ops.toList t)∧(∀ i∈p.head,l7 n7 ops.toList i=true→i∈pE ops.toList t)
 tailP:rR ops.toList (p.head.filter (fun i=>!l7 lO ops.toList i)) none [] p.tail=true
theorem pU {a b:Nat}(h:Nat.blt a b=true):a<b:=Nat.le_of_ble_eq_true h
theorem PQ {ops:Array Oper}{p:eZ}(h:S5 ops p=true):mF ops p:=by
 unfold S5 at h;simp only [Bool.and_eq_true] at h;obtain⟨⟨⟨⟨⟨⟨⟨⟨⟨⟨⟨h1,h2⟩,h3⟩,h4⟩,h5⟩,h6⟩,h7⟩,h8⟩,h9⟩,h10⟩,h11⟩,h12⟩:=h;simp only [List.all_eq_true,List.mem_range] at h2 h3 h5 h6 h7 h8 h9 h10;refine⟨P9 h1,fun i hi=>dM.1 (h2 i hi),fun i hi=>pU (h3 i hi),h4,fun i hi j hj=>pU (h5 i hi j hj),?_,?_,?_,h9,?_,?_,?_,h12⟩
 ·intro i j d hi hj h1 h2;have:=h6 i hi j hj;rw [h1,h2] at this;simp only [Bool.or_eq_true,Bool.not_eq_true'] at this;rcases this with h|h
  ·exact beq_true h
  ·exact absurd rfl (beq_false h)
 ·intro i hi j hj hne d hd hl;have:=h7 i (by simpa using hi) j hj;rw [hd] at this;simp only [Bool.or_eq_true,Bool.not_eq_true'] at this;rcases this with h|h|h
  ·exact absurd (beq_true h) hne
  ·rw [dM.2 hl] at h;cases h
  ·exact dM.1 h
 ·intro t c ht j hj d hd hl;have:=h8 (t,c) ht j hj;simp only [hd,Bool.or_eq_true,Bool.not_eq_true'] at this;rcases this with h|h
  ·rw [dM.2 hl] at h;cases h
  ·exact dM.1 h
 ·intro i hi;have:=h10 i hi;split at this
  ·rename_i o ho;rw [eC] at ho;exact⟨o,by simpa using ho,this⟩
  ·cases this
 ·intro ht;rw [ht] at h11;simpa using h11
 ·intro t c r ht;rw [ht] at h11;simp only [Bool.and_eq_true] at h11;exact⟨vB h11.1,fun i hi hk=>vB h11.2 i (List.mem_filter.2 ⟨hi,hk⟩)⟩
theorem CJ {ops:List Oper}:∀ {seen l:List Nat},FX ops seen l=true→∀ pre i post,l=pre++i::post→∀ j∈cK ops i,j∈seen∨j∈pre
 |seen,[],_,pre,i,post,e,_,_=>by simp at e
 |seen,x::r,h,pre,i,post,e,j,hj=>by
  simp only [FX] at h;split at h
  case h_2=>cases h
  rename_i hs;cases pre with
  |nil =>
   simp only [List.nil_append,List.cons.injEq] at e;obtain⟨rfl,rfl⟩:=e;exact .inl (vB hs j hj)
  |cons y pre =>
   simp only [List.cons_append,List.cons.injEq] at e;obtain⟨rfl,rfl⟩:=e;rcases CJ h pre i post rfl j hj with h|h
   ·rcases List.mem_cons.1 h with rfl|h
    ·exact .inr (by simp)
    ·exact .inl h
   ·exact .inr (by simp [h])
def oY (A:Ar)(T:cU)(C:VC)(tn:Nat)(ops:List Oper)(hJ:Heap)(l:List Nat):List (Nat × Value)→Nat→(List (Nat × Value)→Nat→Prop)→Prop :=
 @List.rec Nat (fun _=>List (Nat × Value)→Nat→(List (Nat × Value)→Nat→Prop)→Prop) (fun env nx K=>K env nx)
  (fun i _ ih env nx K=>match fM ops i with
  |none=>False
  |some o=>gD A ops env o.guard
   (fun env=>jB A T C hJ nx env o.op fun v nx'=>eP tn env o.dst v fun env=>ih env nx' K)
   (fun env=>eP tn env o.dst undef fun env=>ih env nx K)) l
theorem w9 {A:Ar}{T:cU}{C:VC}{tn:Nat}{ops:List Oper}{hJ:Heap}{nx i:Nat}{r:List Nat}{env:List (Nat × Value)}{K:List (Nat × Value)→Nat→Prop}:oY A T C tn ops hJ (i::r) env nx K=match fM ops i with
 |none=>False
 |some o=>gD A ops env o.guard
  (fun env=>jB A T C hJ nx env o.op fun v nx'=>eP tn env o.dst v fun env=>oY A T C tn ops hJ r env nx' K)
  (fun env=>eP tn env o.dst undef fun env=>oY A T C tn ops hJ r env nx K):=rfl
def lV (T:cU)(tn:Nat)(ops:List Oper)(l:List Nat):List (Nat × Value)→Heap→Nat→KS→Prop :=
 @List.rec Nat (fun _=>List (Nat × Value)→Heap→Nat→KS→Prop) (fun env h nx K=>K env h nx)
  (fun i _ ih env h nx K=>match fM ops i with
  |some { op:=.alloc t,dst:=some d,.. }=>(match look T t with
   |some ti=>eP tn env (some d) (.pointer (some ⟨nx,0,none⟩)) fun env=>ih env (bQ h nx (.cells true false 1 ti.zv.cells.toList)) (nx+1) K
   |none=>False)
  |_=>False) l
theorem m9 {T:cU}{tn:Nat}{ops:List Oper}{i:Nat}{r:List Nat}{env:List (Nat × Value)}{h:Heap}{nx:Nat}{K:KS}:lV T tn ops (i::r) env h nx K=match fM ops i with
 |some { op:=.alloc t,dst:=some d,.. }=>(match look T t with
  |some ti=>eP tn env (some d) (.pointer (some ⟨nx,0,none⟩)) fun env=>lV T tn ops r env (bQ h nx (.cells true false 1 ti.zv.cells.toList)) (nx+1) K
  |none=>False)
 |_=>False:=rfl
def zJ (env:List (Nat × Value))(hJ:Heap)(chk:Bool)(op:Op):Bool :=
 match chk with
 |false=>true
 |true=>match op with
  |.store _ x _=>(match dD env x with
   |some (.pointer (some ad))=>(match look hJ ad.block with|none=>true|some _=>false)
   |_=>false)
  |.load _ _=>true
  |.buildSlice _ _ _=>true
  |.call c=>(match c.callee with
   |.builtin .append=>(match lH env c.args.toList with
    |some [s,_]=>(match s with
     |.slice none 0 0=>true
     |.slice (some ad) _ _=>(match look hJ ad.block with|none=>true|some _=>false)
     |_=>false)
    |_=>false)
   |_=>false)
  |_=>false
def kL (A:Ar)(T:cU)(C:VC)(Y:VY)(tn:Nat)(ops:List Oper)(hJ:Heap)(l:List (Nat × Bool)):List (Nat × Value)→Heap→Nat→KS→Prop :=
 @List.rec (Nat × Bool) (fun _=>List (Nat × Value)→Heap→Nat→KS→Prop) (fun env h nx K=>K env h nx)
  (fun p _ ih env h nx K=>match fM ops p.1 with
  |none=>False
  |some o=>gD A ops env o.guard
   (fun env=>dJ (zJ env hJ p.2 o.op) (qJ A T C Y env h nx o.op fun v h' nx'=>eP tn env o.dst v fun env'=>ih env' h' nx' K))
   (fun env=>eP tn env o.dst undef fun env'=>ih env' h nx K)) l
theorem xH {A:Ar}{T:cU}{C:VC}{Y:VY}{tn:Nat}{ops:List Oper}{hJ:Heap}{i:Nat}{chk:Bool}{r:List (Nat × Bool)}{env:List (Nat × Value)}{h:Heap}{nx:Nat}{K:KS}:kL A T C Y tn ops hJ ((i,chk)::r) env h nx K=match fM ops i with
 |none=>False
 |some o=>gD A ops env o.guard
  (fun env=>dJ (zJ env hJ chk o.op) (qJ A T C Y env h nx o.op fun v h' nx'=>eP tn env o.dst v fun env'=>kL A T C Y tn ops hJ r env' h' nx' K))
  (fun env=>eP tn env o.dst undef fun env'=>kL A T C Y tn ops hJ r env' h nx K):=rfl
def WZ (t:Nat):List Oper→Option Op
 |[]=>none
 |o::r=>match o.dst with
  |some d=>(match Nat.beq d t with|true=>some o.op|false=>WZ t r)
  |none=>WZ t r
def m4 (T:cU)(ops:List Oper)(env:List (Nat × Value))(g:Heap):Nat→Operand→Option Value
 |0,s=>dD env s
 |n+1,s=>match s with
  |.tmp t=>(match WZ t ops with
   |some (.move y)=>m4 T ops env g n y
   |some (.nilCheck y)=>m4 T ops env g n y
   |some (.fieldAddr st y f)=>(match m4 T ops env g n y,look T st with
    |some (.pointer (some ⟨k,o,none⟩)),some { kind:=.st fs,.. }=>(match fs[f]? with|some (off,_)=>some (.pointer (some ⟨k,o+off,none⟩))|none=>none)
    |_,_=>none)
   |some (.indexAddr st x y)=>(match m4 T ops env g n x,m4 T ops env g n y,look T st with
    |some (.slice (some ⟨k,o,none⟩) _ _),some (.int _ i),some { kind:=.sl e,.. }=>(match look T e with|some ei=>some (.pointer (some ⟨k,o+i.toNat*ei.size,none⟩))|none=>none)
    |_,_,_=>none)
   |some (.load _ y)=>(match m4 T ops env g n y with
    |some (.pointer (some ⟨k,o,none⟩))=>(match look g k with|some (.cells _ _ _ cs)=>nth cs o|_=>none)
    |_=>none)
   |_=>dD env s)
  |_=>dD env s
def yL (T:cU)(ops:List Oper)(env:List (Nat × Value))(g:Heap):Nat→Operand→Option Nat
 |0,_=>none
 |n+1,s=>match s with
  |.tmp t=>(match WZ t ops with
   |some (.indexAddr _ x _)=>(match m4 T ops env g 12 x with
    |some (.slice (some a) _ _)=>some a.block
    |some (.pointer (some a))=>some a.block
    |_=>none)
   |some (.fieldAddr _ y _)=>yL T ops env g n y
   |some (.nilCheck y)=>yL T ops env g n y
   |_=>(match m4 T ops env g 12 s with
    |some (.pointer (some a))=>some a.block
    |_=>none))
  |_=>none
def jE (T:cU)(ops:List Oper)(env:List (Nat × Value))(g:Heap):List (Nat × Bool)→Heap→Heap
 |[],h=>h
 |(i,chk)::r,h=>match chk,fM ops i with
  |true,some { op:=.store _ x _,.. }=>(match yL T ops env g 12 x with
   |some k=>jE T ops env g r (rem h k)
   |none=>jE T ops env g r h)
  |true,some { op:=.call c,.. }=>(match c.callee,c.args.toList with
   |.builtin .append,s::_=>(match m4 T ops env g 12 s with
    |some (.slice (some ad) _ _)=>jE T ops env g r (rem h ad.block)
    |_=>jE T ops env g r h)
   |_,_=>jE T ops env g r h)
  |_,_=>jE T ops env g r h
def B5 (T:cU)(ops:List Oper)(env:List (Nat × Value))(h:Heap):List Nat→Heap→Heap
 |[],g=>g
 |i::r,g=>match fM ops i with
  |some { op:=.load _ y,.. }=>(match yL T ops env h 12 y with
   |some k=>(match look g k with
    |some _=>B5 T ops env h r g
    |none=>(match look h k with|some o=>B5 T ops env h r (bQ g k o)|none=>B5 T ops env h r g))
   |none=>B5 T ops env h r g)
  |_=>B5 T ops env h r g
def IB (T:cU)(ops:List Oper)(env:List (Nat × Value))(p:eZ)(h:Heap):Heap :=
 match p.BI with
 |[]=>jE T ops env h p.tail h
 |i::r=>B5 T ops env h (i::r) []
def o5 (A:Ar)(T:cU)(C:VC)(Y:VY)(tn:Nat)(ops:List Oper)(p:eZ)(env:List (Nat × Value))(h:Heap)(nx:Nat)(K:KS):Prop :=
 oY A T C tn ops (IB T ops env p h) p.head env nx fun env1 nx1 =>
  lV T tn ops p.allocs env1 h nx1 fun env2 h2 nx2 =>
   kL A T C Y tn ops (IB T ops env p h) p.tail env2 h2 nx2 K
theorem WQ {h:Heap}{j k:Nat}{o:aX}(hk:look (rem h j) k=some o):look h k=some o:=by
 rw [c7] at hk;split at hk
 ·cases hk
 ·exact hk
theorem fO {T:cU}{g:Heap}{ops:List Oper}{env:List (Nat × Value)}:∀ {l:List (Nat × Bool)} {h:Heap} {k:Nat} {o:aX},look (jE T ops env g l h) k=some o→look h k=some o
 |[],h,k,o,hk=>hk
 |(i,chk)::r,h,k,o,hk=>by
  unfold jE at hk;split at hk
  ·split at hk
   ·exact WQ (fO hk)
   ·exact fO hk
  ·split at hk
   ·split at hk
    ·exact WQ (fO hk)
    ·exact fO hk
   ·exact fO hk
  ·exact fO hk
theorem nH {T:cU}{ops:List Oper}{env:List (Nat × Value)}{h:Heap}:∀ {l:List Nat} {g:Heap},(∀ k o,look g k=some o→look h k=some o)→∀ k o,look (B5 T ops env h l g) k=some o→look h k=some o
 |[],g,hg,k,o,hk=>hg k o hk
 |i::r,g,hg,k,o,hk=>by
  unfold B5 at hk;split at hk
  ·split at hk
   ·split at hk
    ·exact nH hg k o hk
    ·split at hk
     ·rename_i o' ho';refine nH (fun k2 o2 h2=>?_) k o hk;rw [lP] at h2;split at h2
      ·rename_i e;cases h2;rw [e];exact ho'
      ·exact hg k2 o2 h2
     ·exact nH hg k o hk
   ·exact nH hg k o hk
  ·exact nH hg k o hk
theorem aCq {T:cU}{ops:List Oper}{env:List (Nat × Value)}{p:eZ}{h:Heap}(k:Nat)(o:aX)(hk:look (IB T ops env p h) k=some o):look h k=some o:=by
 unfold IB at hk;split at hk
 ·exact fO hk
 ·refine nH (fun k2 o2 h2=>?_) k o hk;cases h2
section
variable {P:Program}{T:cU}{C:VC}{Y:VY}{ops:Array Oper}{p:eZ}
theorem AB {o:Oper}(hs:∀ cs b,o.op≠.select cs b){a a':Act}(h:∀ t∈o.looksAt ops,a.tmps[t]? = a'.tmps[t]?) :
  execOp a.eval o=execOp a'.eval o∧Region.wanted o (yielded ops a.tmps)=Region.wanted o (yielded ops a'.tmps):=by
 refine⟨execOp_congr o hs fun x hx=>?_,?_⟩
 ·cases x with
  |tmp t =>
   have:=h t (List.mem_append_left _ (List.mem_filterMap.2 ⟨.tmp t,by simpa using hx,rfl⟩));simp [Act.eval,this]
  |_=>rfl
 ·unfold Region.wanted;cases hg:o.guard with
  |none=>rfl
  |some gw =>
   obtain⟨g,want⟩:=gw;have:yielded ops a.tmps g=yielded ops a'.tmps g:=by
    unfold yielded;cases ht:(ops[g]?).bind (·.dst) with
    |none=>rfl
    |some t =>
     have:=h t (List.mem_append_right _ (by simp [hg,ht]));simp [this]
   simp only [this]
theorem DU (a:Act)(dst:Option Nat)(v:Value)(t:Nat):(a.put dst v).tmps[t]? = if dst=some t∧t<a.tmps.size then some v else a.tmps[t]? := by
 cases dst with
 |none=>simp [Act.put]
 |some d =>
  by_cases h:d=t
  ·subst h;by_cases hl:d<a.tmps.size
   ·rw [if_pos ⟨rfl,hl⟩];simp [Act.put,Array.getElem?_setIfInBounds_self_of_lt hl]
   ·rw [if_neg (fun e=>hl e.2)];simp [Act.put,Array.getElem?_setIfInBounds,hl]
  ·rw [if_neg (fun e=>h (Option.some.inj e.1))];simp only [Act.put];exact Array.getElem?_setIfInBounds_ne h
theorem gU {a:Act}{dst:Option Nat}{v:Value}{t:Nat}(h:dst≠some t):(a.put dst v).tmps[t]? = a.tmps[t]? := by
 rw [DU,if_neg (fun e=>h e.1)]
theorem rB {a:Act}{v:Value}{t:Nat}(h:t<a.tmps.size):(a.put (some t) v).tmps[t]? = some v:=by
 rw [DU,if_pos ⟨rfl,h⟩]
theorem qO (a:Act)(dst:Option Nat)(v:Value):(a.put dst v).tmps.size=a.tmps.size:=by
 cases dst <;> simp [Act.put]
theorem put_defers (a:Act)(dst:Option Nat)(v:Value):(a.put dst v).defers=a.defers:=by
 cases dst <;> rfl
def jQ (ops:Array Oper)(ι:Nat→Loc)(vals:List (Nat × Value))(a:Act):Act:=vals.foldl (fun a q=>a.put (cD ops.toList q.1) (tr ι q.2)) a
theorem tI {ι:Nat→Loc}:∀ (vals:List (Nat × Value)) (a:Act),(jQ ops ι vals a).tmps.size=a.tmps.size
 |[],a=>rfl
 |q::r,a=>by
  have:=tI (ι:=ι) r (a.put (cD ops.toList q.1) (tr ι q.2));rw [qO] at this;exact this
theorem wX {ι:Nat→Loc}:∀ (vals:List (Nat × Value)) (a:Act),(jQ ops ι vals a).defers=a.defers
 |[],a=>rfl
 |q::r,a=>by
  have:=wX (ι:=ι) r (a.put (cD ops.toList q.1) (tr ι q.2));rw [put_defers] at this;exact this
theorem kN {ι:Nat→Loc}{d:Nat}:∀ (vals:List (Nat × Value)) (a:Act),(∀ q∈vals,cD ops.toList q.1≠some d)→(jQ ops ι vals a).tmps[d]? = a.tmps[d]?
 |[],a,_=>rfl
 |q::r,a,h=>by
  have:=kN (ι:=ι) r (a.put (cD ops.toList q.1) (tr ι q.2)) (fun x hx=>h x (by simp [hx]));rw [gU (h q (by simp))] at this;exact this
theorem tE {ι:Nat→Loc}{d i:Nat}{v:Value}:∀ (vals:List (Nat × Value)) (a:Act),d<a.tmps.size→(i,v)∈vals→cD ops.toList i=some d→(∀ q∈vals,cD ops.toList q.1=some d→q.1=i)→(vals.map (·.1)).Nodup →
  (jQ ops ι vals a).tmps[d]? = some (tr ι v)
 |[],a,_,h,_,_,_=>by cases h
 |q::r,a,hd,hm,hi,hu,hn=>by
  simp only [List.map_cons,List.nodup_cons] at hn;rcases List.mem_cons.1 hm with rfl|hm
  ·have:=kN (ops:=ops) (ι:=ι) (d:=d) r (a.put (cD ops.toList i) (tr ι v)) (fun x hx e=>by
    have:=hu x (by simp [hx]) e;exact hn.1 (List.mem_map.2 ⟨x,hx,this⟩))
   show (jQ ops ι r (a.put (cD ops.toList i) (tr ι v))).tmps[d]? = _;rw [this,hi,rB hd]
  ·exact tE r (a.put (cD ops.toList q.1) (tr ι q.2)) (by rw [qO];exact hd) hm hi (fun x hx=>hu x (by simp [hx])) hn.2
def Yld (P:Program)(ops:Array Oper)(ι:Nat→Loc)(B nx:Nat)(hJ:Heap)(wS:World)(i:Nat)(v:Value)(a:Act):Prop :=
 ∃ o,ops[i]? = some o∧fA ι nx v∧(∀ c,o.op≠.defer c)∧((Region.wanted o (yielded ops a.tmps)=false∧v=undef) ∨
   (Region.wanted o (yielded ops a.tmps)=true∧∀ w,aT ι B (mL o.op hJ) nx w→(n7 o.op=true→gV wS.heap.size wS w)→aEO P (execOp a.eval o) w (tr ι v)))
theorem KY {tn:Nat}{env:List (Nat × Value)}{dst:Option Nat}{v:Value}{K:List (Nat × Value)→Prop}(hl:eP tn env dst v K):∀ d,dst=some d→d<tn:=by
 rintro d rfl;simp only [eP] at hl;split at hl
 ·rename_i h;exact pU h
 ·exact hl.elim
theorem aT.wide {ι ι':Nat→Loc}{B nx nx':Nat}{h:Heap}{w:World}(H:aT ι B h nx w)(hi:∀ k,k<nx→ι' k=ι k)(hn:nx≤nx'):aT ι' B h nx' w:=by
 refine⟨fun k o hk=>?_,fun k k' o1 o2 h1 h2 hne ha b hb=>?_,fun k o hk=>Nat.lt_of_lt_of_le (H.low k o hk) hn,H.size,fun k o hk=>(H.sc k o hk).mono hn hi⟩
 ·rw [hi _ (H.low k o hk)];exact (H.obj k o hk).names (H.sc k o hk) hi
 ·rw [hi _ (H.low k o1 h1)] at hb;rw [hi _ (H.low k' o2 h2)];exact H.sep k k' o1 o2 h1 h2 hne ha b hb
theorem aT.narrow {ι ι':Nat→Loc}{B nx nx':Nat}{h:Heap}{w wS:World}(H:aT ι' B h nx' w)(HS:aT ι B h nx wS)(hi:∀ k,k<nx→ι' k=ι k):aT ι B h nx w:=by
 have hsc:∀ k o,look h k=some o→XP ι nx o:=HS.sc;refine⟨fun k o hk=>?_,fun k k' o1 o2 h1 h2 hne ha b hb=>?_,fun k o hk=>HS.low k o hk,H.size,hsc⟩
 ·have:=H.obj k o hk;rw [hi _ (HS.low k o hk)] at this;exact this.names ((hsc k o hk).mono (Nat.le_refl _) hi) (fun j hj=>(hi j hj).symm)
 ·rw [← hi _ (HS.low k o1 h1)] at hb;rw [← hi _ (HS.low k' o2 h2)];exact H.sep k k' o1 o2 h1 h2 hne ha b hb
theorem Yld.wide {P:Program}{ops:Array Oper}{ι ι':Nat→Loc}{B nx nx':Nat}{hJ:Heap}{wS:World}{i:Nat}{v:Value}{a:Act}(H:aT ι B hJ nx wS)(hi:∀ k,k<nx→ι' k=ι k)(hn:nx≤nx')
  (hy:Yld P ops ι B nx hJ wS i v a):Yld P ops ι' B nx' hJ wS i v a:=by
 obtain⟨o,h1,h2,h3,h4⟩:=hy;refine⟨o,h1,pY hn hi h2,h3,?_⟩;rcases h4 with h4|⟨h4,h5⟩
 ·exact .inl h4
 ·refine .inr ⟨h4,fun w Hw hb=>?_⟩;rw [HM hi h2];refine h5 w (Hw.narrow (wS:=wS) ?_ hi) hb;unfold mL;cases lO o.op with
  |true=>exact aT.none H.size
  |false=>exact H
theorem QF (hT:cQ P T)(hC:bH P C)(hD:eJ C)(hp:∀ i,i<ops.size→l7 rW ops.toList i=true){tn:Nat}{B:Nat}{hJ:Heap}{wS:World}{K:List (Nat × Value)→Nat→Prop} :
  ∀ (l:List Nat) (env:List (Nat × Value)) (a:Act) (ι:Nat→Loc) (nx:Nat),aT ι B hJ nx wS→oY aB T C tn ops.toList hJ l env nx K→dC ι nx env a→a.tmps.size=tn →
  ∃ vals env1 ι' nx',K env1 nx'∧(∀ k,k<nx→ι' k=ι k)∧nx≤nx'∧vals.map (·.1)=l∧dC ι' nx' env1 (jQ ops ι' vals a)∧(∀ q∈vals,∀ d,cD ops.toList q.1=some d→d<tn) ∧
    ∀ pre i v post,vals=pre++(i,v)::post→Yld P ops ι' B nx' hJ wS i v (jQ ops ι' pre a)
 |[],env,a,ι,nx,H,hl,he,hs=>⟨[],env,ι,nx,hl,fun _ _=>rfl,Nat.le_refl _,rfl,he,by simp,by simp⟩
 |i::r,env,a,ι,nx,H,hl,he,hs=>by
  simp only [w9] at hl;split at hl
  ·exact hl.elim
  rename_i o ho;have hdst:cD ops.toList i=o.dst:=(by simp [cD,ho]);have hoi:ops[i]? = some o:=(by rw [eC] at ho;simpa using ho);have hlt:i<ops.size:=(Array.getElem?_eq_some_iff.1 hoi).1;have hdef:∀ c,o.op≠.defer c:=by
   intro c e;have:=hp i hlt;simp [l7,ho,e,rW] at this
  obtain⟨env1,he1,hcase⟩:=u9 he hl;have main:∃ v ι1 nx1,(∀ k,k<nx→ι1 k=ι k)∧nx≤nx1∧fA ι1 nx1 v∧Yld P ops ι1 B nx1 hJ wS i v a∧eP tn env1 o.dst v fun env=>oY aB T C tn ops.toList hJ r env nx1 K:=by
   rcases hcase with ⟨hw,hl⟩|⟨hw,hl⟩
   ·obtain⟨v,nx1,ι1,h1,h2,h3,h4,h5⟩:=X4 hT hC hD he1 H hl;refine⟨v,ι1,nx1,h3,h4,h2,⟨o,hoi,h2,hdef,.inr ⟨hw,fun w Hw hb=>h5 w (Hw.narrow (wS:=wS) ?_ h3) hb⟩⟩,h1⟩;unfold mL;cases lO o.op with
    |true=>exact aT.none H.size
    |false=>exact H
   ·exact⟨undef,ι,nx,fun _ _=>rfl,Nat.le_refl _,cY rfl,⟨o,hoi,cY rfl,hdef,.inl ⟨hw,rfl⟩⟩,hl⟩
  obtain⟨v,ι1,nx1,hi1,hn1,hv,hy,hl⟩:=main;have H1:=H.wide hi1 hn1;obtain⟨env2,k1,k2,k3,k4⟩:=oM (he1.names hn1 hi1) hs hl hv;rw [← hdst] at k2 k3;obtain⟨vals,env3,ι',nx',h1,hi',hn',h2,h3,h4,h5⟩:=QF hT hC hD hp r env2 _ ι1 nx1 H1 k1 k2 k3;have etr:tr ι' v=tr ι1 v:=HM hi' hv;have ep:∀ pre,jQ ops ι' ((i,v)::pre) a=jQ ops ι' pre (a.put (cD ops.toList i) (tr ι1 v)):=fun pre=>by
   show jQ ops ι' pre (a.put (cD ops.toList i) (tr ι' v))=_;rw [etr]
  refine⟨(i,v)::vals,env3,ι',nx',h1,fun k hk=>(hi' k (by omega)).trans (hi1 k hk),by omega,by simp [h2],by rw [ep];exact h3,fun q hq d hd=>?_,fun pre j u post e=>?_⟩
  ·rcases List.mem_cons.1 hq with rfl|hq
   ·exact KY hl d (by rw [← hdst];exact hd)
   ·exact h4 q hq d hd
  ·cases pre with
   |nil =>
    simp only [List.nil_append,List.cons.injEq,Prod.mk.injEq] at e;obtain⟨⟨rfl,rfl⟩,rfl⟩:=e;exact hy.wide H1 hi' hn'
   |cons q pre =>
    simp only [List.cons_append,List.cons.injEq] at e;obtain⟨rfl,rfl⟩:=e;rw [ep];exact h5 pre j u post rfl
structure BR (ops:Array Oper) (p:eZ) (ι:Nat→Loc) (vals:List (Nat × Value)) (tn:Nat) (ds:List Deferred) (a0:Act) (L:Nat→Prop) (a a':Act):Prop where
 size:a.tmps.size=tn
 size':a'.tmps.size=tn
 defers:a.defers=ds
 defers':a'.defers=ds
 q1:∀ i v d,(i,v)∈vals→cD ops.toList i=some d→a'.tmps[d]? = some (tr ι v)
 q2:∀ d,(∀ i∈p.head,cD ops.toList i=some d→L i)→a.tmps[d]? = a'.tmps[d]?
 q3:∀ d,(∀ i,i∈p.head∨L i→cD ops.toList i≠some d)→a'.tmps[d]? = a0.tmps[d]?
 q4:∀ i d,i∈p.head→¬ L i→cD ops.toList i=some d→a.tmps[d]? = a0.tmps[d]?
def EP (L:Nat→Prop)(i:Nat):Nat→Prop:=fun j=>j=i∨L j
variable {ι:Nat→Loc}{vals:List (Nat × Value)}{tn:Nat}{ds:List Deferred}{a0:Act}{L:Nat→Prop}{a a':Act}
theorem mN {i d:Nat}(h:cD ops.toList i=some d):i<ops.size:=by
 unfold cD at h;split at h
 ·rename_i o ho;rw [eC] at ho;have:ops[i]? = some o:=(by simpa using ho);exact (Array.getElem?_eq_some_iff.1 this).1
 ·cases h
theorem BR.head (hp:mF ops p)(I:BR ops p ι vals tn ds a0 L a a')(hv:vals.map (·.1)=p.head)(hd:∀ q∈vals,∀ d,cD ops.toList q.1=some d→d<tn){i:Nat}{v:Value}(hi:(i,v)∈vals) :
  BR ops p ι vals tn ds a0 (EP L i) (a.put (cD ops.toList i) (tr ι v)) a':=by
 refine⟨by rw [qO];exact I.size,I.size',by rw [put_defers];exact I.defers,I.defers',I.q1,fun d h=>?_,fun d h=>I.q3 d (fun j hj=>h j (hj.imp id .inr)),fun j d hj hn hjd=>?_⟩
 ·by_cases e:cD ops.toList i=some d
  ·rw [e,rB (by rw [I.size];exact hd _ hi d e),I.q1 i v d hi e]
  ·rw [gU e];refine I.q2 d fun j hj hjd=>?_;rcases h j hj hjd with rfl|h
   ·exact absurd hjd e
   ·exact h
 ·have hij:j≠i:=fun e=>hn (.inl e);rw [gU (fun e=>hij (hp.dsts j i d (mN hjd) (mN e) hjd e))];exact I.q4 j d hj (fun h=>hn (.inr h)) hjd
theorem BR.other (hp:mF ops p)(I:BR ops p ι vals tn ds a0 L a a')(hv:vals.map (·.1)=p.head){j:Nat}(hj:j∉p.head)(u:Value) :
  BR ops p ι vals tn ds a0 (EP L j) (a.put (cD ops.toList j) u) (a'.put (cD ops.toList j) u):=by
 have hne:∀ i d,i∈p.head→cD ops.toList i=some d→cD ops.toList j≠some d:=fun i d hi hd e=>hj (by rw [hp.dsts j i d (mN e) (mN hd) e hd];exact hi);have hmem:∀ i v,(i,v)∈vals→i∈p.head:=fun i v h=>(by rw [← hv];exact List.mem_map.2 ⟨_,h,rfl⟩);refine⟨by rw [qO];exact I.size,by rw [qO];exact I.size',by rw [put_defers];exact I.defers,by rw [put_defers];exact I.defers',fun i v d hi hd=>?_,fun d h=>?_,fun d h=>?_,fun i d hi hn hid=>?_⟩
 ·rw [gU (hne i d (hmem i v hi) hd)];exact I.q1 i v d hi hd
 ·rw [DU,DU,I.size,I.size'];by_cases e:cD ops.toList j=some d∧d<tn
  ·rw [if_pos e,if_pos e]
  ·rw [if_neg e,if_neg e];refine I.q2 d fun i hi hid=>?_;rcases h i hi hid with rfl|h
   ·exact absurd hi hj
   ·exact h
 ·rw [gU (h j (.inr (.inl rfl)))];exact I.q3 d fun i hi=>h i (hi.imp id .inr)
 ·rw [gU (hne i d hi hid)];exact I.q4 i d hi (fun h=>hn (.inr h)) hid
theorem gZ {i:Nat}:i∈p.order↔i∈p.head∨i∈p.allocs∨i∈p.tail.map (·.1):=by simp [eZ.order]
theorem mF.apart (hp:mF ops p){i:Nat}(hi:i∈p.head):i∉p.allocs∧i∉p.tail.map (·.1):=by
 have:=hp.nodup;unfold eZ.order at this;rw [List.append_assoc,List.nodup_append] at this;exact⟨fun h=>this.2.2 i hi i (List.mem_append_left _ h) rfl,fun h=>this.2.2 i hi i (List.mem_append_right _ h) rfl⟩
theorem mF.aIn (hp:mF ops p){i:Nat}(hi:i∈p.allocs):i∉p.tail.map (·.1):=by
 have:=hp.nodup;unfold eZ.order at this;rw [List.nodup_append] at this;exact fun h=>this.2.2 i (List.mem_append_right _ hi) i h rfl
theorem BR.aMc (hp:mF ops p)(I:BR ops p ι vals tn ds a0 L a a')(hv:vals.map (·.1)=p.head)(hd:∀ q∈vals,∀ d,cD ops.toList q.1=some d→d<tn)(h0:a0.tmps.size=tn)
  (cl:∀ i,L i→∀ j∈cK ops.toList i,L j) (hL:∀ i,L i→i<ops.size) {pre post:List (Nat × Value)} {i:Nat} {v:Value} (e:vals=pre++(i,v)::post) (hn:¬ L i) (hr:∀ j∈cK ops.toList i,L j) :
  ∀ t∈pP ops i,a.tmps[t]? = (jQ ops ι pre a0).tmps[t]? := by
 intro t ht;have hih:i∈p.head:=(by rw [← hv,e];simp);have hin:i<ops.size:=hp.NA i (gZ.2 (.inl hih));have hhead:p.head=pre.map (·.1)++i::post.map (·.1):=(by rw [← hv,e];simp);have hnd:(p.head).Nodup:=by
  have:=hp.nodup;unfold eZ.order at this;rw [List.append_assoc,List.nodup_append] at this;exact this.1
 have hpre:∀ j∈cK ops.toList i,j∈pre.map (·.1):=fun j hj=>by
  rcases CJ hp.headP _ _ _ hhead j hj with h|h
  ·cases h
  ·exact h
 have hni:i∉pre.map (·.1):=fun hm=>by
  rw [hhead,List.nodup_append] at hnd;exact hnd.2.2 i hm i (by simp) rfl
 by_cases hex:∃ j∈p.head,cD ops.toList j=some t
 ·obtain⟨j,hj,hjt⟩:=hex;by_cases hji:j=i
  ·subst hji;rw [I.q4 j t hj hn hjt];rw [kN];intro q hq hqt;have:=hp.dsts _ _ t (mN hqt) (mN hjt) hqt hjt;exact hni (List.mem_map.2 ⟨q,hq,this⟩)
  ·have hjp:=hp.look1 j (.inl hj) i hin (fun e=>hji e.symm) t hjt ht;have hjL:=hr j hjp;obtain⟨q,hq,hqj⟩:=List.mem_map.1 (hpre j hjp);obtain⟨j',u⟩:=q;simp only at hqj;subst hqj;have hqv:(j',u)∈vals:=(by rw [e];exact List.mem_append_left _ hq);rw [I.q2 t (fun j2 hj2 h2=>by rw [hp.dsts j2 j' t (mN h2) (mN hjt) h2 hjt];exact hjL),I.q1 j' u t hqv hjt];rw [tE pre a0 (by rw [h0];exact hd _ hqv t hjt) hq hjt (fun q2 hq2 h2=>hp.dsts _ _ t (mN h2) (mN hjt) h2 hjt) (by
    rw [hhead,List.nodup_append] at hnd;exact hnd.1)]
 ·have hex':∀ j∈p.head,cD ops.toList j≠some t:=fun j hj h=>hex ⟨j,hj,h⟩;rw [I.q2 t (fun j hj h=>absurd h (hex' j hj)),I.q3 t,kN]
  ·intro q hq;exact hex' _ (by rw [hhead];exact List.mem_append_left _ (List.mem_map.2 ⟨q,hq,rfl⟩))
  ·intro j hj;rcases hj with hj|hj
   ·exact hex' j hj
   ·intro hjt;rcases gZ.1 (hp.cover j (hL j hj)) with h|h|h
    ·exact hex' j h hjt
    ·have hne:i≠j:=fun e=>(hp.apart hih).1 (e▸h);have:=hpre j (hp.look1 j (.inr h) i hin hne t hjt ht);exact (hp.apart (i:=j) (by rw [hhead];exact List.mem_append_left _ this)).1 h
    ·obtain⟨⟨t',c⟩,htc,rfl⟩:=List.mem_map.1 h;exact hn (cl t' hj i (hp.look2 t' c htc i hih t hjt ht))
theorem BR.aKy (hp:mF ops p)(I:BR ops p ι vals tn ds a0 L a a'){j:Nat}(hj:j∉p.head)(hjn:j<ops.size)(hr:∀ i∈cK ops.toList j,L i) :
  ∀ t∈pP ops j,a.tmps[t]? = a'.tmps[t]? := fun t ht =>
 I.q2 t fun i hi hit=>hr i (hp.look1 i (.inl hi) j hjn (fun e=>hj (e▸hi)) t hit ht)
end
end Go.Aw
end
