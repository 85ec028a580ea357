/-
  Parts of a proof. No condition.
-/
import Derived.Test.YticajjhjehljpaaGreatQAe
set_option linter.unusedSimpArgs false
set_option linter.unusedVariables false
noncomputable section
namespace Go.Aw
open Go.RowKit
structure eM where
 head:List Nat
 allocs:List Nat
 tail:List (Nat × Bool)
 zF:List Nat
def n7 (n:Nat):List Nat→Bool
 |[]=>false
 |x::r=>match Nat.beq x n with|true=>true|false=>n7 n r
theorem dC {n:Nat}{l:List Nat}:n7 n l=true↔n∈l:=by
 induction l with
 |nil=>simp [n7]
 |cons x r ih =>
  simp only [n7];split
  ·rename_i h;simp [(beq_true h).symm]
  ·rename_i h;have:=beq_false h;simp only [ih,List.mem_cons];exact⟨.inr,fun h=>h.resolve_left (fun e=>this e.symm)⟩
def PO:List Nat→List Nat→Bool
 |[],_=>true
 |x::r,l=>match n7 x l with|true=>PO r l|false=>false
theorem sQ {a l:List Nat}(h:PO a l=true):∀ x∈a,x∈l:=by
 induction a with
 |nil=>simp
 |cons x r ih =>
  simp only [PO] at h;split at h
  ·rename_i hx;intro y hy;rcases List.mem_cons.1 hy with rfl|hy
   ·exact dC.1 hx
   ·exact ih h y hy
  ·cases h
def JG:List Nat→Bool
 |[]=>true
 |x::r=>match n7 x r with|true=>false|false=>JG r
theorem LG {l:List Nat}(h:JG l=true):l.Nodup:=by
 induction l with
 |nil=>simp
 |cons x r ih =>
  simp only [JG] at h;split at h
  ·cases h
  ·rename_i hx;rw [List.nodup_cons];exact⟨fun hm=>(by rw [dC.2 hm] at hx;cases hx),ih h⟩
def kP (o:Oper):List Nat:=o.after.toList.filterMap fun e=>match Region.binds .any e with|true=>some e.on|false=>none
def bW (ops:List Oper)(i:Nat):List Nat:=match eO ops i with|some o=>kP o|none=>[]
def bU (ops:List Oper)(i:Nat):Option Nat:=match eO ops i with|some o=>o.dst|none=>none
def oF (ops:Array Oper)(i:Nat):List Nat:=match eO ops.toList i with|some o=>o.looksAt ops|none=>[]
def clo (ops:List Oper):Nat→List Nat→List Nat
 |0,acc=>acc
 |j+1,acc=>clo ops j (match n7 j acc with|true=>bW ops j++acc|false=>acc)
def nW (ops:List Oper)(t:Nat):List Nat:=clo ops t (bW ops t)
theorem TD {ops:List Oper}{L:Nat→Prop}(cl:∀ i,L i→∀ j∈bW ops i,L j):∀ (j:Nat) (acc:List Nat),(∀ x∈acc,L x)→∀ x∈clo ops j acc,L x
 |0,acc,h,x,hx=>h x hx
 |j+1,acc,h,x,hx=>by
  refine TD cl j _ (fun y hy=>?_) x hx;split at hy
  ·rename_i hm;rcases List.mem_append.1 hy with hy|hy
   ·exact cl j (h j (dC.1 hm)) y hy
   ·exact h y hy
  ·exact h y hy
theorem mO {ops:List Oper}{L:Nat→Prop}(cl:∀ i,L i→∀ j∈bW ops i,L j){t:Nat}(h:∀ j∈bW ops t,L j):∀ j∈nW ops t,L j:=TD cl t _ h
def EZ (ops:List Oper):List Nat→List Nat→Bool
 |_,[]=>true
 |seen,i::r=>match PO (bW ops i) seen with|true=>EZ ops (i::seen) r|false=>false
def kY (f:Op→Bool)(ops:List Oper)(i:Nat):Bool:=match eO ops i with|some o=>f o.op|none=>false
def pT (ops:List Oper)(loads:List Nat):Option Nat→List Nat→List (Nat × Bool)→Bool
 |_,_,[]=>true
 |last,got,(t,chk)::r =>
  (match last with | none=>true | some l=>n7 l (nW ops t))&&(chk || PO loads (nW ops t++got))&&pT ops loads (some t) (nW ops t++got) r
def II (o:Oper):Bool:=match o with|{ op:=.alloc _,guard:=none,dst:=some _,.. }=>true|_=>false
def pB:Op→Bool
 |.select _ _=>false
 |.defer _=>false
 |_=>true
def eM.order (p:eM):List Nat:=p.head++p.allocs++p.tail.map (·.1)
def QV (ops:Array Oper)(p:eM):Bool :=
 let l:=ops.toList;let n:=List.range ops.size
 JG p.order&&n.all (fun i=>n7 i p.order)&&p.order.all (fun i=>Nat.blt i ops.size)&&EZ l [] p.head &&
 n.all (fun i=>(bW l i).all fun j=>Nat.blt j i) &&
 n.all (fun i=>n.all fun j=>Nat.beq i j || (match bU l i,bU l j with | some d,some e=>!Nat.beq d e | _,_=>true)) &&
 (p.head++p.allocs).all (fun i=>n.all fun j=>Nat.beq j i || (match bU l i with | some d=>!n7 d (oF ops j) || n7 i (bW l j) | none=>true)) &&
 p.tail.all (fun t=>p.head.all fun j=>match bU l t.1 with | some d=>!n7 d (oF ops j) || n7 j (bW l t.1) | none=>true) &&
 n.all (fun i=>kY pB l i) &&
 p.allocs.all (fun i=>match eO l i with|some o=>II o|none=>false) &&
 (match p.tail with
  |[]=>p.allocs.isEmpty
  |(t,_)::_=>PO p.allocs (nW l t)&&PO (p.head.filter (kY mF l)) (nW l t)) &&
 pT l (p.head.filter (fun i=>!kY kC l i)) none [] p.tail
structure lH (ops:Array Oper) (p:eM):Prop where
 nodup:p.order.Nodup
 cover:∀ i,i<ops.size→i∈p.order
 K5:∀ i∈p.order,i<ops.size
 headP:EZ ops.toList [] p.head=true
 lin:∀ i,i<ops.size→∀ j∈bW ops.toList i,j<i
 dsts:∀ i j d,i<ops.size→j<ops.size→bU ops.toList i=some d→bU ops.toList j=some d→i=j
 look1:∀ i,i∈p.head∨i∈p.allocs→∀ j,j<ops.size→j≠i→∀ d,bU ops.toList i=some d→d∈oF ops j→i∈bW ops.toList j
 look2:∀ t c,(t,c)∈p.tail→∀ j∈p.head,∀ d,bU ops.toList t=some d→d∈oF ops j→j∈bW ops.toList t
 plain:∀ i,i<ops.size→kY pB ops.toList i=true
 allocs:∀ i∈p.allocs,∃ o,ops[i]? = some o∧II o=true
 noTail:p.tail=[]→p.allocs=[]
 first:∀ t c r,p.tail=(t,c)::r→(∀ i∈p.allocs,i∈nW ops.toList t)∧(∀ i∈p.head,kY mF ops.toList i=true→i∈nW ops.toList t)
 tailP:pT ops.toList (p.head.filter (fun i=>!kY kC ops.toList i)) none [] p.tail=true
theorem oX {a b:Nat}(h:Nat.blt a b=true):a<b:=Nat.le_of_ble_eq_true h
theorem N8 {ops:Array Oper}{p:eM}(h:QV ops p=true):lH ops p:=by
 unfold QV at h;simp only [Bool.and_eq_true] at h;obtain⟨⟨⟨⟨⟨⟨⟨⟨⟨⟨⟨h1,h2⟩,h3⟩,h4⟩,h5⟩,h6⟩,h7⟩,h8⟩,h9⟩,h10⟩,h11⟩,h12⟩:=h;simp only [List.all_eq_true,List.mem_range] at h2 h3 h5 h6 h7 h8 h9 h10;refine⟨LG h1,fun i hi=>dC.1 (h2 i hi),fun i hi=>oX (h3 i hi),h4,fun i hi j hj=>oX (h5 i hi j hj),?_,?_,?_,h9,?_,?_,?_,h12⟩
 ·intro i j d hi hj h1 h2;have:=h6 i hi j hj;rw [h1,h2] at this;simp only [Bool.or_eq_true,Bool.not_eq_true'] at this;rcases this with h|h
  ·exact beq_true h
  ·exact absurd rfl (beq_false h)
 ·intro i hi j hj hne d hd hl;have:=h7 i (by simpa using hi) j hj;rw [hd] at this;simp only [Bool.or_eq_true,Bool.not_eq_true'] at this;rcases this with h|h|h
  ·exact absurd (beq_true h) hne
  ·rw [dC.2 hl] at h;cases h
  ·exact dC.1 h
 ·intro t c ht j hj d hd hl;have:=h8 (t,c) ht j hj;simp only [hd,Bool.or_eq_true,Bool.not_eq_true'] at this;rcases this with h|h
  ·rw [dC.2 hl] at h;cases h
  ·exact dC.1 h
 ·intro i hi;have:=h10 i hi;split at this
  ·rename_i o ho;rw [dO] at ho;exact⟨o,by simpa using ho,this⟩
  ·cases this
 ·intro ht;rw [ht] at h11;simpa using h11
 ·intro t c r ht;rw [ht] at h11;simp only [Bool.and_eq_true] at h11;exact⟨sQ h11.1,fun i hi hk=>sQ h11.2 i (List.mem_filter.2 ⟨hi,hk⟩)⟩
theorem AW {ops:List Oper}:∀ {seen l:List Nat},EZ ops seen l=true→∀ pre i post,l=pre++i::post→∀ j∈bW ops i,j∈seen∨j∈pre
 |seen,[],_,pre,i,post,e,_,_=>by simp at e
 |seen,x::r,h,pre,i,post,e,j,hj=>by
  simp only [EZ] at h;split at h
  case h_2=>cases h
  rename_i hs;cases pre with
  |nil =>
   simp only [List.nil_append,List.cons.injEq] at e;obtain⟨rfl,rfl⟩:=e;exact .inl (sQ hs j hj)
  |cons y pre =>
   simp only [List.cons_append,List.cons.injEq] at e;obtain⟨rfl,rfl⟩:=e;rcases AW h pre i post rfl j hj with h|h
   ·rcases List.mem_cons.1 h with rfl|h
    ·exact .inr (by simp)
    ·exact .inl h
   ·exact .inr (by simp [h])
def nK (A:Ar)(T:cF)(C:VC)(tn:Nat)(ops:List Oper)(hJ:Heap)(l:List Nat):List (Nat × Value)→Nat→(List (Nat × Value)→Nat→Prop)→Prop :=
 @List.rec Nat (fun _=>List (Nat × Value)→Nat→(List (Nat × Value)→Nat→Prop)→Prop) (fun env nx K=>K env nx)
  (fun i _ ih env nx K=>match eO ops i with
  |none=>False
  |some o=>fB A ops env o.guard
   (fun env=>gK A T C hJ nx env o.op fun v nx'=>dZ tn env o.dst v fun env=>ih env nx' K)
   (fun env=>dZ tn env o.dst undef fun env=>ih env nx K)) l
theorem vQ {A:Ar}{T:cF}{C:VC}{tn:Nat}{ops:List Oper}{hJ:Heap}{nx i:Nat}{r:List Nat}{env:List (Nat × Value)}{K:List (Nat × Value)→Nat→Prop}:nK A T C tn ops hJ (i::r) env nx K=match eO ops i with
 |none=>False
 |some o=>fB A ops env o.guard
  (fun env=>gK A T C hJ nx env o.op fun v nx'=>dZ tn env o.dst v fun env=>nK A T C tn ops hJ r env nx' K)
  (fun env=>dZ tn env o.dst undef fun env=>nK A T C tn ops hJ r env nx K):=rfl
def kS (T:cF)(tn:Nat)(ops:List Oper)(l:List Nat):List (Nat × Value)→Heap→Nat→KS→Prop :=
 @List.rec Nat (fun _=>List (Nat × Value)→Heap→Nat→KS→Prop) (fun env h nx K=>K env h nx)
  (fun i _ ih env h nx K=>match eO ops i with
  |some { op:=.alloc t,dst:=some d,.. }=>(match look T t with
   |some ti=>dZ tn env (some d) (.pointer (some ⟨nx,0,none⟩)) fun env=>ih env (cC h nx (.cells true false 1 ti.zv.cells.toList)) (nx+1) K
   |none=>False)
  |_=>False) l
theorem lN {T:cF}{tn:Nat}{ops:List Oper}{i:Nat}{r:List Nat}{env:List (Nat × Value)}{h:Heap}{nx:Nat}{K:KS}:kS T tn ops (i::r) env h nx K=match eO ops i with
 |some { op:=.alloc t,dst:=some d,.. }=>(match look T t with
  |some ti=>dZ tn env (some d) (.pointer (some ⟨nx,0,none⟩)) fun env=>kS T tn ops r env (cC h nx (.cells true false 1 ti.zv.cells.toList)) (nx+1) K
  |none=>False)
 |_=>False:=rfl
def xE (env:List (Nat × Value))(hJ:Heap)(chk:Bool)(op:Op):Bool :=
 match chk with
 |false=>true
 |true=>match op with
  |.store _ x _=>(match cU env x with
   |some (.pointer (some ad))=>(match look hJ ad.block with|none=>true|some _=>false)
   |_=>false)
  |.load _ _=>true
  |.buildSlice _ _ _=>true
  |.call c=>(match c.callee with
   |.builtin .append=>(match j5 env c.args.toList with
    |some [s,_]=>(match s with
     |.slice none 0 0=>true
     |.slice (some ad) _ _=>(match look hJ ad.block with|none=>true|some _=>false)
     |_=>false)
    |_=>false)
   |_=>false)
  |_=>false
def jG (A:Ar)(T:cF)(C:VC)(Y:VY)(tn:Nat)(ops:List Oper)(hJ:Heap)(l:List (Nat × Bool)):List (Nat × Value)→Heap→Nat→KS→Prop :=
 @List.rec (Nat × Bool) (fun _=>List (Nat × Value)→Heap→Nat→KS→Prop) (fun env h nx K=>K env h nx)
  (fun p _ ih env h nx K=>match eO ops p.1 with
  |none=>False
  |some o=>fB A ops env o.guard
   (fun env=>dI (xE env hJ p.2 o.op) (oZ A T C Y env h nx o.op fun v h' nx'=>dZ tn env o.dst v fun env'=>ih env' h' nx' K))
   (fun env=>dZ tn env o.dst undef fun env'=>ih env' h nx K)) l
theorem uK {A:Ar}{T:cF}{C:VC}{Y:VY}{tn:Nat}{ops:List Oper}{hJ:Heap}{i:Nat}{chk:Bool}{r:List (Nat × Bool)}{env:List (Nat × Value)}{h:Heap}{nx:Nat}{K:KS}:jG A T C Y tn ops hJ ((i,chk)::r) env h nx K=match eO ops i with
 |none=>False
 |some o=>fB A ops env o.guard
  (fun env=>dI (xE env hJ chk o.op) (oZ A T C Y env h nx o.op fun v h' nx'=>dZ tn env o.dst v fun env'=>jG A T C Y tn ops hJ r env' h' nx' K))
  (fun env=>dZ tn env o.dst undef fun env'=>jG A T C Y tn ops hJ r env' h nx K):=rfl
def S4 (t:Nat):List Oper→Option Op
 |[]=>none
 |o::r=>match o.dst with
  |some d=>(match Nat.beq d t with|true=>some o.op|false=>S4 t r)
  |none=>S4 t r
def lT (T:cF)(ops:List Oper)(env:List (Nat × Value))(g:Heap):Nat→Operand→Option Value
 |0,s=>cU env s
 |n+1,s=>match s with
  |.tmp t=>(match S4 t ops with
   |some (.move y)=>lT T ops env g n y
   |some (.nilCheck y)=>lT T ops env g n y
   |some (.fieldAddr st y f)=>(match lT T ops env g n y,look T st with
    |some (.pointer (some ⟨k,o,none⟩)),some { kind:=.st fs,.. }=>(match fs[f]? with|some (off,_)=>some (.pointer (some ⟨k,o+off,none⟩))|none=>none)
    |_,_=>none)
   |some (.indexAddr st x y)=>(match lT T ops env g n x,lT T ops env g n y,look T st with
    |some (.slice (some ⟨k,o,none⟩) _ _),some (.int _ i),some { kind:=.sl e,.. }=>(match look T e with|some ei=>some (.pointer (some ⟨k,o+i.toNat*ei.size,none⟩))|none=>none)
    |_,_,_=>none)
   |some (.load _ y)=>(match lT T ops env g n y with
    |some (.pointer (some ⟨k,o,none⟩))=>(match look g k with|some (.cells _ _ _ cs)=>nth cs o|_=>none)
    |_=>none)
   |_=>cU env s)
  |_=>cU env s
def v5 (T:cF)(ops:List Oper)(env:List (Nat × Value))(g:Heap):Nat→Operand→Option Nat
 |0,_=>none
 |n+1,s=>match s with
  |.tmp t=>(match S4 t ops with
   |some (.indexAddr _ x _)=>(match lT T ops env g 12 x with
    |some (.slice (some a) _ _)=>some a.block
    |some (.pointer (some a))=>some a.block
    |_=>none)
   |some (.fieldAddr _ y _)=>v5 T ops env g n y
   |some (.nilCheck y)=>v5 T ops env g n y
   |_=>(match lT T ops env g 12 s with
    |some (.pointer (some a))=>some a.block
    |_=>none))
  |_=>none
def iB (T:cF)(ops:List Oper)(env:List (Nat × Value))(g:Heap):List (Nat × Bool)→Heap→Heap
 |[],h=>h
 |(i,chk)::r,h=>match chk,eO ops i with
  |true,some { op:=.store _ x _,.. }=>(match v5 T ops env g 12 x with
   |some k=>iB T ops env g r (rem h k)
   |none=>iB T ops env g r h)
  |true,some { op:=.call c,.. }=>(match c.callee,c.args.toList with
   |.builtin .append,s::_=>(match lT T ops env g 12 s with
    |some (.slice (some ad) _ _)=>iB T ops env g r (rem h ad.block)
    |_=>iB T ops env g r h)
   |_,_=>iB T ops env g r h)
  |_,_=>iB T ops env g r h
def AU (T:cF)(ops:List Oper)(env:List (Nat × Value))(h:Heap):List Nat→Heap→Heap
 |[],g=>g
 |i::r,g=>match eO ops i with
  |some { op:=.load _ y,.. }=>(match v5 T ops env h 12 y with
   |some k=>(match look g k with
    |some _=>AU T ops env h r g
    |none=>(match look h k with|some o=>AU T ops env h r (cC g k o)|none=>AU T ops env h r g))
   |none=>AU T ops env h r g)
  |_=>AU T ops env h r g
def F0 (T:cF)(ops:List Oper)(env:List (Nat × Value))(p:eM)(h:Heap):Heap :=
 match p.zF with
 |[]=>iB T ops env h p.tail h
 |i::r=>AU T ops env h (i::r) []
def nO (A:Ar)(T:cF)(C:VC)(Y:VY)(tn:Nat)(ops:List Oper)(p:eM)(env:List (Nat × Value))(h:Heap)(nx:Nat)(K:KS):Prop :=
 nK A T C tn ops (F0 T ops env p h) p.head env nx fun env1 nx1 =>
  kS T tn ops p.allocs env1 h nx1 fun env2 h2 nx2 =>
   jG A T C Y tn ops (F0 T ops env p h) p.tail env2 h2 nx2 K
theorem TW {h:Heap}{j k:Nat}{o:aS}(hk:look (rem h j) k=some o):look h k=some o:=by
 rw [dF] at hk;split at hk
 ·cases hk
 ·exact hk
theorem eX {T:cF}{g:Heap}{ops:List Oper}{env:List (Nat × Value)}:∀ {l:List (Nat × Bool)} {h:Heap} {k:Nat} {o:aS},look (iB T ops env g l h) k=some o→look h k=some o
 |[],h,k,o,hk=>hk
 |(i,chk)::r,h,k,o,hk=>by
  unfold iB at hk;split at hk
  ·split at hk
   ·exact TW (eX hk)
   ·exact eX hk
  ·split at hk
   ·split at hk
    ·exact TW (eX hk)
    ·exact eX hk
   ·exact eX hk
  ·exact eX hk
theorem mA {T:cF}{ops:List Oper}{env:List (Nat × Value)}{h:Heap}:∀ {l:List Nat} {g:Heap},(∀ k o,look g k=some o→look h k=some o)→∀ k o,look (AU T ops env h l g) k=some o→look h k=some o
 |[],g,hg,k,o,hk=>hg k o hk
 |i::r,g,hg,k,o,hk=>by
  unfold AU at hk;split at hk
  ·split at hk
   ·split at hk
    ·exact mA hg k o hk
    ·split at hk
     ·rename_i o' ho';refine mA (fun k2 o2 h2=>?_) k o hk;rw [kA] at h2;split at h2
      ·rename_i e;cases h2;rw [e];exact ho'
      ·exact hg k2 o2 h2
     ·exact mA hg k o hk
   ·exact mA hg k o hk
  ·exact mA hg k o hk
theorem XW {T:cF}{ops:List Oper}{env:List (Nat × Value)}{p:eM}{h:Heap}(k:Nat)(o:aS)(hk:look (F0 T ops env p h) k=some o):look h k=some o:=by
 unfold F0 at hk;split at hk
 ·exact eX hk
 ·refine mA (fun k2 o2 h2=>?_) k o hk;cases h2
section
variable {P:Program}{T:cF}{C:VC}{Y:VY}{ops:Array Oper}{p:eM}
theorem vY {o:Oper}(hs:∀ cs b,o.op≠.select cs b){a a':Act}(h:∀ t∈o.looksAt ops,a.tmps[t]? = a'.tmps[t]?) :
  execOp a.eval o=execOp a'.eval o∧Region.wanted o (yielded ops a.tmps)=Region.wanted o (yielded ops a'.tmps):=by
 refine⟨execOp_congr o hs fun x hx=>?_,?_⟩
 ·cases x with
  |tmp t =>
   have:=h t (List.mem_append_left _ (List.mem_filterMap.2 ⟨.tmp t,by simpa using hx,rfl⟩));simp [Act.eval,this]
  |_=>rfl
 ·unfold Region.wanted;cases hg:o.guard with
  |none=>rfl
  |some gw =>
   obtain⟨g,want⟩:=gw;have:yielded ops a.tmps g=yielded ops a'.tmps g:=by
    unfold yielded;cases ht:(ops[g]?).bind (·.dst) with
    |none=>rfl
    |some t =>
     have:=h t (List.mem_append_right _ (by simp [hg,ht]));simp [this]
   simp only [this]
theorem BV (a:Act)(dst:Option Nat)(v:Value)(t:Nat):(a.put dst v).tmps[t]? = if dst=some t∧t<a.tmps.size then some v else a.tmps[t]? := by
 cases dst with
 |none=>simp [Act.put]
 |some d =>
  by_cases h:d=t
  ·subst h;by_cases hl:d<a.tmps.size
   ·rw [if_pos ⟨rfl,hl⟩];simp [Act.put,Array.getElem?_setIfInBounds_self_of_lt hl]
   ·rw [if_neg (fun e=>hl e.2)];simp [Act.put,Array.getElem?_setIfInBounds,hl]
  ·rw [if_neg (fun e=>h (Option.some.inj e.1))];simp only [Act.put];exact Array.getElem?_setIfInBounds_ne h
theorem fJ {a:Act}{dst:Option Nat}{v:Value}{t:Nat}(h:dst≠some t):(a.put dst v).tmps[t]? = a.tmps[t]? := by
 rw [BV,if_neg (fun e=>h e.1)]
theorem pP {a:Act}{v:Value}{t:Nat}(h:t<a.tmps.size):(a.put (some t) v).tmps[t]? = some v:=by
 rw [BV,if_pos ⟨rfl,h⟩]
theorem oT (a:Act)(dst:Option Nat)(v:Value):(a.put dst v).tmps.size=a.tmps.size:=by
 cases dst <;> simp [Act.put]
theorem put_defers (a:Act)(dst:Option Nat)(v:Value):(a.put dst v).defers=a.defers:=by
 cases dst <;> rfl
def iO (ops:Array Oper)(ι:Nat→Loc)(vals:List (Nat × Value))(a:Act):Act:=vals.foldl (fun a q=>a.put (bU ops.toList q.1) (tr ι q.2)) a
theorem qS {ι:Nat→Loc}:∀ (vals:List (Nat × Value)) (a:Act),(iO ops ι vals a).tmps.size=a.tmps.size
 |[],a=>rfl
 |q::r,a=>by
  have:=qS (ι:=ι) r (a.put (bU ops.toList q.1) (tr ι q.2));rw [oT] at this;exact this
theorem tW {ι:Nat→Loc}:∀ (vals:List (Nat × Value)) (a:Act),(iO ops ι vals a).defers=a.defers
 |[],a=>rfl
 |q::r,a=>by
  have:=tW (ι:=ι) r (a.put (bU ops.toList q.1) (tr ι q.2));rw [put_defers] at this;exact this
theorem jF {ι:Nat→Loc}{d:Nat}:∀ (vals:List (Nat × Value)) (a:Act),(∀ q∈vals,bU ops.toList q.1≠some d)→(iO ops ι vals a).tmps[d]? = a.tmps[d]?
 |[],a,_=>rfl
 |q::r,a,h=>by
  have:=jF (ι:=ι) r (a.put (bU ops.toList q.1) (tr ι q.2)) (fun x hx=>h x (by simp [hx]));rw [fJ (h q (by simp))] at this;exact this
theorem rV {ι:Nat→Loc}{d i:Nat}{v:Value}:∀ (vals:List (Nat × Value)) (a:Act),d<a.tmps.size→(i,v)∈vals→bU ops.toList i=some d→(∀ q∈vals,bU ops.toList q.1=some d→q.1=i)→(vals.map (·.1)).Nodup →
  (iO ops ι vals a).tmps[d]? = some (tr ι v)
 |[],a,_,h,_,_,_=>by cases h
 |q::r,a,hd,hm,hi,hu,hn=>by
  simp only [List.map_cons,List.nodup_cons] at hn;rcases List.mem_cons.1 hm with rfl|hm
  ·have:=jF (ops:=ops) (ι:=ι) (d:=d) r (a.put (bU ops.toList i) (tr ι v)) (fun x hx e=>by
    have:=hu x (by simp [hx]) e;exact hn.1 (List.mem_map.2 ⟨x,hx,this⟩))
   show (iO ops ι r (a.put (bU ops.toList i) (tr ι v))).tmps[d]? = _;rw [this,hi,pP hd]
  ·exact rV r (a.put (bU ops.toList q.1) (tr ι q.2)) (by rw [oT];exact hd) hm hi (fun x hx=>hu x (by simp [hx])) hn.2
def Yld (P:Program)(ops:Array Oper)(ι:Nat→Loc)(B nx:Nat)(hJ:Heap)(wS:World)(i:Nat)(v:Value)(a:Act):Prop :=
 ∃ o,ops[i]? = some o∧eG ι nx v∧(∀ c,o.op≠.defer c)∧((Region.wanted o (yielded ops a.tmps)=false∧v=undef) ∨
   (Region.wanted o (yielded ops a.tmps)=true∧∀ w,aO ι B (lG o.op hJ) nx w→(mF o.op=true→fQ wS.heap.size wS w)→aCX P (execOp a.eval o) w (tr ι v)))
theorem I4 {tn:Nat}{env:List (Nat × Value)}{dst:Option Nat}{v:Value}{K:List (Nat × Value)→Prop}(hl:dZ tn env dst v K):∀ d,dst=some d→d<tn:=by
 rintro d rfl;simp only [dZ] at hl;split at hl
 ·rename_i h;exact oX h
 ·exact hl.elim
theorem aO.wide {ι ι':Nat→Loc}{B nx nx':Nat}{h:Heap}{w:World}(H:aO ι B h nx w)(hi:∀ k,k<nx→ι' k=ι k)(hn:nx≤nx'):aO ι' B h nx' w:=by
 refine⟨fun k o hk=>?_,fun k k' o1 o2 h1 h2 hne ha b hb=>?_,fun k o hk=>Nat.lt_of_lt_of_le (H.low k o hk) hn,H.size,fun k o hk=>(H.sc k o hk).mono hn hi⟩
 ·rw [hi _ (H.low k o hk)];exact (H.obj k o hk).names (H.sc k o hk) hi
 ·rw [hi _ (H.low k o1 h1)] at hb;rw [hi _ (H.low k' o2 h2)];exact H.sep k k' o1 o2 h1 h2 hne ha b hb
theorem aO.narrow {ι ι':Nat→Loc}{B nx nx':Nat}{h:Heap}{w wS:World}(H:aO ι' B h nx' w)(HS:aO ι B h nx wS)(hi:∀ k,k<nx→ι' k=ι k):aO ι B h nx w:=by
 have hsc:∀ k o,look h k=some o→SK ι nx o:=HS.sc;refine⟨fun k o hk=>?_,fun k k' o1 o2 h1 h2 hne ha b hb=>?_,fun k o hk=>HS.low k o hk,H.size,hsc⟩
 ·have:=H.obj k o hk;rw [hi _ (HS.low k o hk)] at this;exact this.names ((hsc k o hk).mono (Nat.le_refl _) hi) (fun j hj=>(hi j hj).symm)
 ·rw [← hi _ (HS.low k o1 h1)] at hb;rw [← hi _ (HS.low k' o2 h2)];exact H.sep k k' o1 o2 h1 h2 hne ha b hb
theorem Yld.wide {P:Program}{ops:Array Oper}{ι ι':Nat→Loc}{B nx nx':Nat}{hJ:Heap}{wS:World}{i:Nat}{v:Value}{a:Act}(H:aO ι B hJ nx wS)(hi:∀ k,k<nx→ι' k=ι k)(hn:nx≤nx')
  (hy:Yld P ops ι B nx hJ wS i v a):Yld P ops ι' B nx' hJ wS i v a:=by
 obtain⟨o,h1,h2,h3,h4⟩:=hy;refine⟨o,h1,sG hn hi h2,h3,?_⟩;rcases h4 with h4|⟨h4,h5⟩
 ·exact .inl h4
 ·refine .inr ⟨h4,fun w Hw hb=>?_⟩;rw [HN hi h2];refine h5 w (Hw.narrow (wS:=wS) ?_ hi) hb;unfold lG;cases kC o.op with
  |true=>exact aO.none H.size
  |false=>exact H
theorem NR (hT:cA P T)(hC:bF P C)(hD:dM C)(hp:∀ i,i<ops.size→kY pB ops.toList i=true){tn:Nat}{B:Nat}{hJ:Heap}{wS:World}{K:List (Nat × Value)→Nat→Prop} :
  ∀ (l:List Nat) (env:List (Nat × Value)) (a:Act) (ι:Nat→Loc) (nx:Nat),aO ι B hJ nx wS→nK aG T C tn ops.toList hJ l env nx K→cT ι nx env a→a.tmps.size=tn →
  ∃ vals env1 ι' nx',K env1 nx'∧(∀ k,k<nx→ι' k=ι k)∧nx≤nx'∧vals.map (·.1)=l∧cT ι' nx' env1 (iO ops ι' vals a)∧(∀ q∈vals,∀ d,bU ops.toList q.1=some d→d<tn) ∧
    ∀ pre i v post,vals=pre++(i,v)::post→Yld P ops ι' B nx' hJ wS i v (iO ops ι' pre a)
 |[],env,a,ι,nx,H,hl,he,hs=>⟨[],env,ι,nx,hl,fun _ _=>rfl,Nat.le_refl _,rfl,he,by simp,by simp⟩
 |i::r,env,a,ι,nx,H,hl,he,hs=>by
  simp only [vQ] at hl;split at hl
  ·exact hl.elim
  rename_i o ho;have hdst:bU ops.toList i=o.dst:=(by simp [bU,ho]);have hoi:ops[i]? = some o:=(by rw [dO] at ho;simpa using ho);have hlt:i<ops.size:=(Array.getElem?_eq_some_iff.1 hoi).1;have hdef:∀ c,o.op≠.defer c:=by
   intro c e;have:=hp i hlt;simp [kY,ho,e,pB] at this
  obtain⟨env1,he1,hcase⟩:=tA he hl;have main:∃ v ι1 nx1,(∀ k,k<nx→ι1 k=ι k)∧nx≤nx1∧eG ι1 nx1 v∧Yld P ops ι1 B nx1 hJ wS i v a∧dZ tn env1 o.dst v fun env=>nK aG T C tn ops.toList hJ r env nx1 K:=by
   rcases hcase with ⟨hw,hl⟩|⟨hw,hl⟩
   ·obtain⟨v,nx1,ι1,h1,h2,h3,h4,h5⟩:=VK hT hC hD he1 H hl;refine⟨v,ι1,nx1,h3,h4,h2,⟨o,hoi,h2,hdef,.inr ⟨hw,fun w Hw hb=>h5 w (Hw.narrow (wS:=wS) ?_ h3) hb⟩⟩,h1⟩;unfold lG;cases kC o.op with
    |true=>exact aO.none H.size
    |false=>exact H
   ·exact⟨undef,ι,nx,fun _ _=>rfl,Nat.le_refl _,dD rfl,⟨o,hoi,dD rfl,hdef,.inl ⟨hw,rfl⟩⟩,hl⟩
  obtain⟨v,ι1,nx1,hi1,hn1,hv,hy,hl⟩:=main;have H1:=H.wide hi1 hn1;obtain⟨env2,k1,k2,k3,k4⟩:=nG (he1.names hn1 hi1) hs hl hv;rw [← hdst] at k2 k3;obtain⟨vals,env3,ι',nx',h1,hi',hn',h2,h3,h4,h5⟩:=NR hT hC hD hp r env2 _ ι1 nx1 H1 k1 k2 k3;have etr:tr ι' v=tr ι1 v:=HN hi' hv;have ep:∀ pre,iO ops ι' ((i,v)::pre) a=iO ops ι' pre (a.put (bU ops.toList i) (tr ι1 v)):=fun pre=>by
   show iO ops ι' pre (a.put (bU ops.toList i) (tr ι' v))=_;rw [etr]
  refine⟨(i,v)::vals,env3,ι',nx',h1,fun k hk=>(hi' k (by omega)).trans (hi1 k hk),by omega,by simp [h2],by rw [ep];exact h3,fun q hq d hd=>?_,fun pre j u post e=>?_⟩
  ·rcases List.mem_cons.1 hq with rfl|hq
   ·exact I4 hl d (by rw [← hdst];exact hd)
   ·exact h4 q hq d hd
  ·cases pre with
   |nil =>
    simp only [List.nil_append,List.cons.injEq,Prod.mk.injEq] at e;obtain⟨⟨rfl,rfl⟩,rfl⟩:=e;exact hy.wide H1 hi' hn'
   |cons q pre =>
    simp only [List.cons_append,List.cons.injEq] at e;obtain⟨rfl,rfl⟩:=e;rw [ep];exact h5 pre j u post rfl
structure yP (ops:Array Oper) (p:eM) (ι:Nat→Loc) (vals:List (Nat × Value)) (tn:Nat) (ds:List Deferred) (a0:Act) (L:Nat→Prop) (a a':Act):Prop where
 size:a.tmps.size=tn
 size':a'.tmps.size=tn
 defers:a.defers=ds
 defers':a'.defers=ds
 q1:∀ i v d,(i,v)∈vals→bU ops.toList i=some d→a'.tmps[d]? = some (tr ι v)
 q2:∀ d,(∀ i∈p.head,bU ops.toList i=some d→L i)→a.tmps[d]? = a'.tmps[d]?
 q3:∀ d,(∀ i,i∈p.head∨L i→bU ops.toList i≠some d)→a'.tmps[d]? = a0.tmps[d]?
 q4:∀ i d,i∈p.head→¬ L i→bU ops.toList i=some d→a.tmps[d]? = a0.tmps[d]?
def E4 (L:Nat→Prop)(i:Nat):Nat→Prop:=fun j=>j=i∨L j
variable {ι:Nat→Loc}{vals:List (Nat × Value)}{tn:Nat}{ds:List Deferred}{a0:Act}{L:Nat→Prop}{a a':Act}
theorem lL {i d:Nat}(h:bU ops.toList i=some d):i<ops.size:=by
 unfold bU at h;split at h
 ·rename_i o ho;rw [dO] at ho;have:ops[i]? = some o:=(by simpa using ho);exact (Array.getElem?_eq_some_iff.1 this).1
 ·cases h
theorem yP.head (hp:lH ops p)(I:yP ops p ι vals tn ds a0 L a a')(hv:vals.map (·.1)=p.head)(hd:∀ q∈vals,∀ d,bU ops.toList q.1=some d→d<tn){i:Nat}{v:Value}(hi:(i,v)∈vals) :
  yP ops p ι vals tn ds a0 (E4 L i) (a.put (bU ops.toList i) (tr ι v)) a':=by
 refine⟨by rw [oT];exact I.size,I.size',by rw [put_defers];exact I.defers,I.defers',I.q1,fun d h=>?_,fun d h=>I.q3 d (fun j hj=>h j (hj.imp id .inr)),fun j d hj hn hjd=>?_⟩
 ·by_cases e:bU ops.toList i=some d
  ·rw [e,pP (by rw [I.size];exact hd _ hi d e),I.q1 i v d hi e]
  ·rw [fJ e];refine I.q2 d fun j hj hjd=>?_;rcases h j hj hjd with rfl|h
   ·exact absurd hjd e
   ·exact h
 ·have hij:j≠i:=fun e=>hn (.inl e);rw [fJ (fun e=>hij (hp.dsts j i d (lL hjd) (lL e) hjd e))];exact I.q4 j d hj (fun h=>hn (.inr h)) hjd
theorem yP.other (hp:lH ops p)(I:yP ops p ι vals tn ds a0 L a a')(hv:vals.map (·.1)=p.head){j:Nat}(hj:j∉p.head)(u:Value) :
  yP ops p ι vals tn ds a0 (E4 L j) (a.put (bU ops.toList j) u) (a'.put (bU ops.toList j) u):=by
 have hne:∀ i d,i∈p.head→bU ops.toList i=some d→bU ops.toList j≠some d:=fun i d hi hd e=>hj (by rw [hp.dsts j i d (lL e) (lL hd) e hd];exact hi);have hmem:∀ i v,(i,v)∈vals→i∈p.head:=fun i v h=>(by rw [← hv];exact List.mem_map.2 ⟨_,h,rfl⟩);refine⟨by rw [oT];exact I.size,by rw [oT];exact I.size',by rw [put_defers];exact I.defers,by rw [put_defers];exact I.defers',fun i v d hi hd=>?_,fun d h=>?_,fun d h=>?_,fun i d hi hn hid=>?_⟩
 ·rw [fJ (hne i d (hmem i v hi) hd)];exact I.q1 i v d hi hd
 ·rw [BV,BV,I.size,I.size'];by_cases e:bU ops.toList j=some d∧d<tn
  ·rw [if_pos e,if_pos e]
  ·rw [if_neg e,if_neg e];refine I.q2 d fun i hi hid=>?_;rcases h i hi hid with rfl|h
   ·exact absurd hi hj
   ·exact h
 ·rw [fJ (h j (.inr (.inl rfl)))];exact I.q3 d fun i hi=>h i (hi.imp id .inr)
 ·rw [fJ (hne i d hi hid)];exact I.q4 i d hi (fun h=>hn (.inr h)) hid
theorem fR {i:Nat}:i∈p.order↔i∈p.head∨i∈p.allocs∨i∈p.tail.map (·.1):=by simp [eM.order]
theorem lH.apart (hp:lH ops p){i:Nat}(hi:i∈p.head):i∉p.allocs∧i∉p.tail.map (·.1):=by
 have:=hp.nodup;unfold eM.order at this;rw [List.append_assoc,List.nodup_append] at this;exact⟨fun h=>this.2.2 i hi i (List.mem_append_left _ h) rfl,fun h=>this.2.2 i hi i (List.mem_append_right _ h) rfl⟩
theorem lH.aFB (hp:lH ops p){i:Nat}(hi:i∈p.allocs):i∉p.tail.map (·.1):=by
 have:=hp.nodup;unfold eM.order at this;rw [List.nodup_append] at this;exact fun h=>this.2.2 i (List.mem_append_right _ hi) i h rfl
theorem yP.aJj (hp:lH ops p)(I:yP ops p ι vals tn ds a0 L a a')(hv:vals.map (·.1)=p.head)(hd:∀ q∈vals,∀ d,bU ops.toList q.1=some d→d<tn)(h0:a0.tmps.size=tn)
  (cl:∀ i,L i→∀ j∈bW ops.toList i,L j) (hL:∀ i,L i→i<ops.size) {pre post:List (Nat × Value)} {i:Nat} {v:Value} (e:vals=pre++(i,v)::post) (hn:¬ L i) (hr:∀ j∈bW ops.toList i,L j) :
  ∀ t∈oF ops i,a.tmps[t]? = (iO ops ι pre a0).tmps[t]? := by
 intro t ht;have hih:i∈p.head:=(by rw [← hv,e];simp);have hin:i<ops.size:=hp.K5 i (fR.2 (.inl hih));have hhead:p.head=pre.map (·.1)++i::post.map (·.1):=(by rw [← hv,e];simp);have hnd:(p.head).Nodup:=by
  have:=hp.nodup;unfold eM.order at this;rw [List.append_assoc,List.nodup_append] at this;exact this.1
 have hpre:∀ j∈bW ops.toList i,j∈pre.map (·.1):=fun j hj=>by
  rcases AW hp.headP _ _ _ hhead j hj with h|h
  ·cases h
  ·exact h
 have hni:i∉pre.map (·.1):=fun hm=>by
  rw [hhead,List.nodup_append] at hnd;exact hnd.2.2 i hm i (by simp) rfl
 by_cases hex:∃ j∈p.head,bU ops.toList j=some t
 ·obtain⟨j,hj,hjt⟩:=hex;by_cases hji:j=i
  ·subst hji;rw [I.q4 j t hj hn hjt];rw [jF];intro q hq hqt;have:=hp.dsts _ _ t (lL hqt) (lL hjt) hqt hjt;exact hni (List.mem_map.2 ⟨q,hq,this⟩)
  ·have hjp:=hp.look1 j (.inl hj) i hin (fun e=>hji e.symm) t hjt ht;have hjL:=hr j hjp;obtain⟨q,hq,hqj⟩:=List.mem_map.1 (hpre j hjp);obtain⟨j',u⟩:=q;simp only at hqj;subst hqj;have hqv:(j',u)∈vals:=(by rw [e];exact List.mem_append_left _ hq);rw [I.q2 t (fun j2 hj2 h2=>by rw [hp.dsts j2 j' t (lL h2) (lL hjt) h2 hjt];exact hjL),I.q1 j' u t hqv hjt];rw [rV pre a0 (by rw [h0];exact hd _ hqv t hjt) hq hjt (fun q2 hq2 h2=>hp.dsts _ _ t (lL h2) (lL hjt) h2 hjt) (by
    rw [hhead,List.nodup_append] at hnd;exact hnd.1)]
 ·have hex':∀ j∈p.head,bU ops.toList j≠some t:=fun j hj h=>hex ⟨j,hj,h⟩;rw [I.q2 t (fun j hj h=>absurd h (hex' j hj)),I.q3 t,jF]
  ·intro q hq;exact hex' _ (by rw [hhead];exact List.mem_append_left _ (List.mem_map.2 ⟨q,hq,rfl⟩))
  ·intro j hj;rcases hj with hj|hj
   ·exact hex' j hj
   ·intro hjt;rcases fR.1 (hp.cover j (hL j hj)) with h|h|h
    ·exact hex' j h hjt
    ·have hne:i≠j:=fun e=>(hp.apart hih).1 (e▸h);have:=hpre j (hp.look1 j (.inr h) i hin hne t hjt ht);exact (hp.apart (i:=j) (by rw [hhead];exact List.mem_append_left _ this)).1 h
    ·obtain⟨⟨t',c⟩,htc,rfl⟩:=List.mem_map.1 h;exact hn (cl t' hj i (hp.look2 t' c htc i hih t hjt ht))
theorem yP.aIg (hp:lH ops p)(I:yP ops p ι vals tn ds a0 L a a'){j:Nat}(hj:j∉p.head)(hjn:j<ops.size)(hr:∀ i∈bW ops.toList j,L i) :
  ∀ t∈oF ops j,a.tmps[t]? = a'.tmps[t]? := fun t ht =>
 I.q2 t fun i hi hit=>hr i (hp.look1 i (.inl hi) j hjn (fun e=>hj (e▸hi)) t hit ht)
end
end Go.Aw
end
