/-
  Parts of a proof. No condition.
-/
import Derived.Test.YticajjhjehljpaaGreatQAb
import Derived.OrdersIn
set_option linter.unusedSimpArgs false
set_option linter.unusedVariables false
noncomputable section
namespace Go.Aw
open Go.RowKit
section
variable {P:Program}{T:cQ}{C:VC}{Y:VY}{B:Nat}{w0:World}{ι0:Nat→Loc}{nx0 tn:Nat}{ds:List Deferred}
theorem Inv.step {ι ι':Nat→Loc}{env env':List (Nat × Value)}{h h':Heap}{nx nx':Nat}{a a':Act}{w w':World}(I:Inv B w0 ι0 nx0 tn ds ι env h nx a w)(he:c9 ι' nx' env' a')(H:aQ ι' B h' nx' w')(hb:gF B w w')
  (hi:∀ k,k<nx→ι' k=ι k) (hn:nx≤nx') (hs:a'.tmps.size=tn) (hd:a'.defers=a.defers):Inv B w0 ι0 nx0 tn ds ι' env' h' nx' a' w' :=
 ⟨he,H,I.below.trans hb,fun k hk=>(hi k (Nat.lt_of_lt_of_le hk I.le)).trans (I.old k hk),Nat.le_trans I.le hn,hs,hd.trans I.defers⟩
theorem LP (hT:cL P T)(hC:bC P C)(hY:eO P Y)(r:Option Nat){ops:Array Oper}{Q:Exit→Act→World→Prop}{K:KS}:∀ (l:List Oper) (ι:Nat→Loc) (env:List (Nat × Value)) (h:Heap) (nx:Nat) (a:Act) (w:World),
  yQ aF T C Y tn ops.toList l env h nx K→Inv B w0 ι0 nx0 tn ds ι env h nx a w →
  (∀ ι' env' h' nx' a' w',K env' h' nx'→Inv B w0 ι0 nx0 tn ds ι' env' h' nx' a' w'→Q .normal a' w')→wpListIn (Fr r) 0 P ops Q l a w
 |[],ι,env,h,nx,a,w,hl,I,hQ=>hQ ι env h nx a w hl I
 |o::rest,ι,env,h,nx,a,w,hl,I,hQ=>by
  simp only [KX] at hl;obtain⟨env1,he1,hcase⟩:=vB I.env hl;simp only [wpListIn];rcases hcase with ⟨hw,hl⟩|⟨hw,hl⟩
  ·rw [if_pos hw];refine (SB hT hC hY he1 I.heap hl).upon (CI hl) rfl r _ _ fun v h' nx' ι' w' k1 k2 k3 k4 k5 k6=>?_;obtain⟨env2,k7,k8,k9,k10⟩:=oU (he1.names k6 k5) I.size k1 k2;exact LP hT hC hY r rest ι' env2 h' nx' _ w' k7 (I.step k8 k3 k4 k5 k6 k9 k10) hQ
  rw [hw];refine⟨fun _ _=>trivial,?_⟩;obtain⟨env2,k7,k8,k9,k10⟩:=oU he1 I.size hl (v:=undef) (bU rfl);rw [gU (show gT undef=true from rfl)] at k8 k9 k10;exact LP hT hC hY r rest ι env2 h nx _ w k7 (I.step k8 I.heap (gF.refl _ _) (fun _ _=>rfl) (Nat.le_refl _) k9 k10) hQ
end
def bH.closed:bH→bH
 |.cells _ g sz cs=>.cells false g sz cs
 |.zero=>.zero
 |_=>.cells false false 1 []
def eI:Heap→Heap
 |[]=>[]
 |(k,o)::r=>(k,o.closed)::eI r
theorem jX (h:Heap)(k:Nat):look (eI h) k=(look h k).map bH.closed:=by
 induction h with
 |nil=>rfl
 |cons x r ih =>
  obtain⟨j,o⟩:=x;simp only [eI,aB];split
  ·rfl
  exact ih
def dS (C:VC):Prop:=∀ f args h nx K,C f args h nx K→∃ v h' nx',K v h' nx'∧∀ K':KE,K' v h' nx'→C f args h nx K'
def iA (A:Ar)(T:cQ)(C:VC)(hJ:Heap)(nx:Nat)(env:List (Nat × Value))(op:Op)(K:Value→Nat→Prop):Prop :=
 match op with
 |.load _ _=>jC A T env hJ op (fun v=>K v nx)
 |.lookup t m k ok=>on (cK env m) fun x=>on (cK env k) fun y=>oY A T hJ t x y ok (fun v=>K v nx)
 |.slice t x lo hi mx=>on (cK env x) fun v=>(match kY env lo,kY env hi,kY env mx with
  |some l,some u,some m=>sY A T hJ nx t v l u m (fun v _ nx'=>K v nx')
  |_,_,_=>False)
 |.call c=>(match c.callee with
  |.builtin _=>jC A T env [] op (fun v=>K v nx)
  |.value f=>on (cK env f) fun fv=>(match jL env c.args.toList with
   |some l=>(match fv with
    |.func (.func g) first cap=>(match first.toList,lC cap.toList with
     |[],true=>C g (l++cap.toList) (eI hJ) nx (fun v _ _=>match gT v with|true=>K v nx|false=>False)
     |_,_=>False)
    |_=>False)
   |none=>False)
  |_=>False)
 |_=>jC A T env [] op (fun v=>K v nx)
def lB:Op→Bool
 |.load _ _=>false
 |.lookup _ _ _ _=>false
 |.slice _ _ _ _ _=>false
 |.call c=>(match c.callee with|.builtin _=>true|_=>false)
 |_=>true
def nY:Op→Bool
 |.lookup _ _ _ _=>true
 |.call c=>(match c.callee with|.builtin _=>false|_=>true)
 |_=>false
section
variable {P:Program}{T:cQ}{C:VC}{Y:VY}{ι:Nat→Loc}{B nx:Nat}
theorem aQ.shut {h:Heap}{w:World}(H:aQ ι B h nx w):aQ ι w.heap.size (eI h) nx w:=by
 have key:∀ k o',look (eI h) k=some o'→∃ o,look h k=some o∧o'=o.closed:=fun k o' hk=>by
  rw [jX] at hk;cases hl:look h k with
  |none=>rw [hl] at hk;cases hk
  |some o=>rw [hl] at hk;injection hk with hk;exact⟨o,rfl,hk.symm⟩
 refine⟨fun k o' hk=>?_,fun k k' o o' h1 h2 hne ha=>?_,fun k o' hk=>?_,Nat.le_refl _,fun k o' hk=>?_⟩
 ·obtain⟨o,hk',rfl⟩:=key k o' hk;have ho:=H.obj k o hk';cases hι:ι k with
  |nil p =>
   rw [hι] at ho;cases o with
   |cells wr g sz cs=>exact⟨ho.1,fun h=>ho.2 (h.elim .inl (fun h=>by cases h))⟩
   |zero=>exact ho
   |_=>exact ho.elim
  |lay b off e =>
   have hb:=ho.lt (b:=b) (by rw [hι];rfl);rw [hι] at ho;cases o with
   |cells wr g sz cs =>
    cases wr with
    |false=>exact ho
    |true =>
     obtain⟨_,hg,arr,t,h1,h2,h3⟩:=ho;exact⟨hb,hg,fun i v hv=>by simp [World.cell?,h1,h3 i v hv]⟩
   |zero=>exact ho
   |_=>exact⟨hb,(fun h=>(by cases h)),(fun i v hv=>(by simp at hv))⟩
 ·obtain⟨o1,h1,rfl⟩:=key k o h1;cases o1 <;> cases ha
 ·obtain⟨o,hk',rfl⟩:=key k o' hk;exact H.low k o hk'
 obtain⟨o,hk',rfl⟩:=key k o' hk;have:=H.sc k o hk';cases o with
 |cells wr g sz cs=>exact this
 |zero=>trivial
 |_=>intro v hv;cases hv
def aE5 (P:Program)(m:Sem Next)(w:World)(u:Value):Prop :=
 m.run P w=.ok (.value u) w∨∃ f args,m.run P w=.ok (.enter f args) w∧CallsIn Fence.wide 0 P f args w fun e w'=>e=.returned u∧gF w.heap.size w w'
theorem aQ.none {w:World}(h:B≤w.heap.size):aQ ι B [] nx w :=
 ⟨fun k o hk=>(by cases hk),fun k k' o o' hk=>(by cases hk),fun k o hk=>(by cases hk),h,fun k o hk=>(by cases hk)⟩
def mH (op:Op)(hJ:Heap):Heap:=match lB op with|true=>[]|false=>hJ
theorem aAf (hT:cL P T)(hC:bC P C)(hD:dS C){hJ:Heap}{env:List (Nat × Value)}{a:Act}(he:c9 ι nx env a){w0:World}(H0:aQ ι B hJ nx w0){o:Oper}{K:Value→Nat→Prop}
  (hl:iA aF T C hJ nx env o.op K) :
  ∃ v nx' ι',K v nx'∧eX ι' nx' v∧(∀ k,k<nx→ι' k=ι k)∧nx≤nx'∧∀ w,aQ ι B (mH o.op hJ) nx w→(nY o.op=true→gF w0.heap.size w0 w)→aE5 P (execOp a.eval o) w (tr ι' v):=by
 obtain⟨dst,op,ty,pos,after,guard⟩:=o;simp only at hl;have hpure:∀ K:Value→Nat→Prop,lB op=true→jC aF T env [] op (fun v=>K v nx)→∃ v nx' ι',K v nx'∧eX ι' nx' v∧(∀ k,k<nx→ι' k=ι k)∧nx≤nx'∧∀ w,aQ ι B (mH op hJ) nx w→(nY op=true→gF w0.heap.size w0 w)→aE5 P (execOp a.eval ⟨dst,op,ty,pos,after,guard⟩) w (tr ι' v):=by
  intro K hp hl;obtain⟨v,h1,h2,h3⟩:=HO (P:=P) (h:=[]) (B:=B) (w0:=w0) hT he (o:=⟨dst,op,ty,pos,after,guard⟩) hl (aQ.none H0.size);refine⟨v,nx,ι,h1,h2,fun _ _=>rfl,Nat.le_refl _,fun w H _=>.inl (h3 w ?_)⟩;simpa [mH,hp] using H
 cases op
 case load t x =>
  simp only [iA] at hl;obtain⟨v,h1,h2,h3⟩:=HO (P:=P) hT he (o:=⟨dst,_,ty,pos,after,guard⟩) hl H0;exact⟨v,nx,ι,h1,h2,fun _ _=>rfl,Nat.le_refl _,fun w H _=>.inl (h3 w (by simpa [mH,lB] using H))⟩
 case lookup t m k ok =>
  simp only [iA] at hl;obtain⟨x,hx,hl⟩:=c7 hl;obtain⟨y,hy,hl⟩:=c7 hl;obtain⟨e1,e2⟩:=he.cK hx;obtain⟨e3,e4⟩:=he.cK hy;obtain⟨v,h1,h2,h3⟩:=FF (P:=P) hT hl e2 H0;refine⟨v,nx,ι,h1,h2,fun _ _=>rfl,Nat.le_refl _,fun w H _=>.inl ?_⟩;have:=h3 w (by simpa [mH,lB] using H);rw [← e1,← e3] at this;simp only [execOp,Sem.run_bind,this,Result.andThen_ok,Sem.run_pure]
 case slice t x lo hi mx =>
  simp only [iA] at hl;obtain⟨v,hv,hl⟩:=c7 hl;obtain⟨e3,e4⟩:=he.cK hv;split at hl
  case h_2=>exact hl.elim
  rename_i l u m h1 h2 h3;obtain⟨v',h',nx',ι',k1,k2,k3,k4,k5⟩:=KQ hT hl e4 H0;refine⟨v',nx',ι',k1,k2,k3,k4,fun w H hb=>.inl ?_⟩;obtain⟨k6,k7⟩:=k5 w (by simpa [mH,lB] using H);rw [← lK he h1,← lK he h2,← lK he h3,← e3] at k7;simp only [execOp,Sem.run_bind,k7,Result.andThen_ok,Sem.run_pure]
 case call c =>
  obtain⟨cal,args,ats⟩:=c;simp only [iA] at hl;cases cal with
  |invoke r m=>exact hl.elim
  |builtin b=>exact hpure K rfl hl
  |value f =>
   simp only at hl;obtain⟨fv,hfv,hl⟩:=c7 hl;obtain⟨e1,e2⟩:=he.cK hfv;split at hl
   case h_2=>exact hl.elim
   rename_i l hvs;obtain⟨e3,e4⟩:=lH he hvs;have hargs:args.map a.eval=(l.map (tr ι)).toArray:=by
    apply Array.ext';simpa using e3
   split at hl
   case h_2=>exact hl.elim
   rename_i g first cap;split at hl
   case h_2=>exact hl.elim
   rename_i hfirst hcap;obtain⟨first⟩:=first;simp only at hfirst;subst hfirst;obtain⟨v,h',nx',k1,k2⟩:=hD _ _ _ _ _ hl;split at k1
   case h_2=>exact k1.elim
   rename_i hg;refine⟨v,nx,ι,k1,bU hg,fun _ _=>rfl,Nat.le_refl _,fun w H _=>.inr ?_⟩;have H:aQ ι B hJ nx w:=(by simpa [mH,lB] using H);have hl':=k2 (fun v' _ _=>v'=v) rfl;obtain⟨⟨fn,hfn,hbody,hname⟩,hcalls⟩:=hC g _ _ nx _ hl' ι w.heap.size w H.shut (by
    intro v hv;rcases List.mem_append.1 hv with hv|hv
    ·exact e4 v hv
    obtain⟨p,rfl⟩:=iM hcap v hv;exact e2.2 _ hv)
   have hcapm:cap.map (dY ι)=(cap.toList.map (tr ι)).toArray:=by
    apply Array.ext';simp only [Array.toList_map];apply List.map_congr_left;intro v hv;obtain⟨p,rfl⟩:=iM hcap v hv;rfl
   refine⟨g,((l++cap.toList).map (tr ι)).toArray,?_,?_⟩
   ·obtain⟨bdy,hb'⟩:=Option.isSome_iff_exists.1 hbody;have hname' : fn.name ≠ "runtime.NumGoroutine" := (by simpa using hname);simp [execOp,resolve,e1,tr,dW,bO,lM,Deferred.ofValue,invoke,callFunc,hfn,hname',hb',hargs,hcapm]
   refine CallsIn.mono hcalls fun e w' hret=>?_;cases e with
   |returned u =>
    obtain⟨v',h'',nx'',ι',rfl,k2,k3,k4,k5,k6,rfl⟩:=hret;exact⟨by rw [gU hg,gU hg],k4⟩
   |panicked c=>exact hret.elim
   |outgrown=>exact hret.elim
 all_goals exact hpure K rfl hl
end
structure fB where
 head:List Nat
 allocs:List Nat
 tail:List (Nat × Bool)
 BP:List Nat
def memB (n:Nat):List Nat→Bool
 |[]=>false
 |x::r=>match Nat.beq x n with|true=>true|false=>memB n r
theorem dI {n:Nat}{l:List Nat}:memB n l=true↔n∈l:=by
 induction l with
 |nil=>simp [memB]
 |cons x r ih =>
  simp only [memB];split
  ·rename_i h;simp [(beq_true h).symm]
  rename_i h;have:=beq_false h;simp only [ih,List.mem_cons];exact⟨.inr,fun h=>h.resolve_left (fun e=>this e.symm)⟩
def TA:List Nat→List Nat→Bool
 |[],_=>true
 |x::r,l=>match memB x l with|true=>TA r l|false=>false
theorem uZ {a l:List Nat}(h:TA a l=true):∀ x∈a,x∈l:=by
 induction a with
 |nil=>simp
 |cons x r ih =>
  simp only [TA] at h;split at h
  ·rename_i hx;intro y hy;rcases List.mem_cons.1 hy with rfl|hy
   ·exact dI.1 hx
   exact ih h y hy
  ·cases h
def NV:List Nat→Bool
 |[]=>true
 |x::r=>match memB x r with|true=>false|false=>NV r
theorem QU {l:List Nat}(h:NV l=true):l.Nodup:=by
 induction l with
 |nil=>simp
 |cons x r ih =>
  simp only [NV] at h;split at h
  ·cases h
  rename_i hx;rw [List.nodup_cons];exact⟨fun hm=>(by rw [dI.2 hm] at hx;cases hx),ih h⟩
def gM (o:Oper):List Nat:=o.after.toList.filterMap fun e=>match Region.binds .any e with|true=>some e.on|false=>none
def cD (ops:List Oper)(i:Nat):List Nat:=match eL ops i with|some o=>gM o|none=>[]
def bV (ops:List Oper)(i:Nat):Option Nat:=match eL ops i with|some o=>o.dst|none=>none
def pI (ops:Array Oper)(i:Nat):List Nat:=match eL ops.toList i with|some o=>o.looksAt ops|none=>[]
def clo (ops:List Oper):Nat→List Nat→List Nat
 |0,acc=>acc
 |j+1,acc=>clo ops j (match memB j acc with|true=>cD ops j++acc|false=>acc)
def pF (ops:List Oper)(t:Nat):List Nat:=clo ops t (cD ops t)
theorem YL {ops:List Oper}{L:Nat→Prop}(cl:∀ i,L i→∀ j∈cD ops i,L j):∀ (j:Nat) (acc:List Nat),(∀ x∈acc,L x)→∀ x∈clo ops j acc,L x
 |0,acc,h,x,hx=>h x hx
 |j+1,acc,h,x,hx=>by
  refine YL cl j _ (fun y hy=>?_) x hx;split at hy
  ·rename_i hm;rcases List.mem_append.1 hy with hy|hy
   ·exact cl j (h j (dI.1 hm)) y hy
   exact h y hy
  exact h y hy
theorem nR {ops:List Oper}{L:Nat→Prop}(cl:∀ i,L i→∀ j∈cD ops i,L j){t:Nat}(h:∀ j∈cD ops t,L j):∀ j∈pF ops t,L j:=YL cl t _ h
def FB (ops:List Oper):List Nat→List Nat→Bool
 |_,[]=>true
 |seen,i::r=>match TA (cD ops i) seen with|true=>FB ops (i::seen) r|false=>false
def l9 (f:Op→Bool)(ops:List Oper)(i:Nat):Bool:=match eL ops i with|some o=>f o.op|none=>false
def qR (ops:List Oper)(loads:List Nat):Option Nat→List Nat→List (Nat × Bool)→Bool
 |_,_,[]=>true
 |last,got,(t,chk)::r =>
  (match last with | none=>true | some l=>memB l (pF ops t))&&(chk || TA loads (pF ops t++got))&&qR ops loads (some t) (pF ops t++got) r
def MW (o:Oper):Bool:=match o with|{ op:=.alloc _,guard:=none,dst:=some _,.. }=>true|_=>false
def rK:Op→Bool
 |.select _ _=>false
 |.defer _=>false
 |_=>true
def fB.order (p:fB):List Nat:=p.head++p.allocs++p.tail.map (·.1)
def UC (ops:Array Oper)(p:fB):Bool :=
 let l:=ops.toList;let n:=List.range ops.size
 NV p.order&&n.all (fun i=>memB i p.order)&&p.order.all (fun i=>Nat.blt i ops.size)&&FB l [] p.head &&
 n.all (fun i=>(cD l i).all fun j=>Nat.blt j i) &&
 n.all (fun i=>n.all fun j=>Nat.beq i j || (match bV l i,bV l j with | some d,some e=>!Nat.beq d e | _,_=>true)) &&
 (p.head++p.allocs).all (fun i=>n.all fun j=>Nat.beq j i || (match bV l i with | some d=>!memB d (pI ops j) || memB i (cD l j) | none=>true)) &&
 p.tail.all (fun t=>p.head.all fun j=>match bV l t.1 with | some d=>!memB d (pI ops j) || memB j (cD l t.1) | none=>true) &&
 n.all (fun i=>l9 rK l i) &&
 p.allocs.all (fun i=>match eL l i with|some o=>MW o|none=>false) &&
 (match p.tail with
  |[]=>p.allocs.isEmpty
  |(t,_)::_=>TA p.allocs (pF l t)&&TA (p.head.filter (l9 nY l)) (pF l t)) &&
 qR l (p.head.filter (fun i=>!l9 lB l i)) none [] p.tail
structure mJ (ops:Array Oper) (p:fB):Prop where
 nodup:p.order.Nodup
 cover:∀ i,i<ops.size→i∈p.order
 N6:∀ i∈p.order,i<ops.size
 headP:FB ops.toList [] p.head=true
 lin:∀ i,i<ops.size→∀ j∈cD ops.toList i,j<i
 dsts:∀ i j d,i<ops.size→j<ops.size→bV ops.toList i=some d→bV ops.toList j=some d→i=j
 look1:∀ i,i∈p.head∨i∈p.allocs→∀ j,j<ops.size→j≠i→∀ d,bV ops.toList i=some d→d∈pI ops j→i∈cD ops.toList j
 look2:∀ t c,(t,c)∈p.tail→∀ j∈p.head,∀ d,bV ops.toList t=some d→d∈pI ops j→j∈cD ops.toList t
 plain:∀ i,i<ops.size→l9 rK ops.toList i=true
 allocs:∀ i∈p.allocs,∃ o,ops[i]? = some o∧MW o=true
 noTail:p.tail=[]→p.allocs=[]
 first:∀ t c r,p.tail=(t,c)::r→(∀ i∈p.allocs,i∈pF ops.toList t)∧(∀ i∈p.head,l9 nY ops.toList i=true→i∈pF ops.toList t)
 tailP:qR ops.toList (p.head.filter (fun i=>!l9 lB ops.toList i)) none [] p.tail=true
theorem nX {a b:Nat}(h:Nat.blt a b=true):a<b:=Nat.le_of_ble_eq_true h
theorem RB {ops:Array Oper}{p:fB}(h:UC ops p=true):mJ ops p:=by
 unfold UC at h;simp only [Bool.and_eq_true] at h;obtain⟨⟨⟨⟨⟨⟨⟨⟨⟨⟨⟨h1,h2⟩,h3⟩,h4⟩,h5⟩,h6⟩,h7⟩,h8⟩,h9⟩,h10⟩,h11⟩,h12⟩:=h;simp only [List.all_eq_true,List.mem_range] at h2 h3 h5 h6 h7 h8 h9 h10;refine⟨QU h1,fun i hi=>dI.1 (h2 i hi),fun i hi=>nX (h3 i hi),h4,fun i hi j hj=>nX (h5 i hi j hj),?_,?_,?_,h9,?_,?_,?_,h12⟩
 ·intro i j d hi hj h1 h2;have:=h6 i hi j hj;rw [h1,h2] at this;simp only [Bool.or_eq_true,Bool.not_eq_true'] at this;rcases this with h|h
  ·exact beq_true h
  exact absurd rfl (beq_false h)
 ·intro i hi j hj hne d hd hl;have:=h7 i (by simpa using hi) j hj;rw [hd] at this;simp only [Bool.or_eq_true,Bool.not_eq_true'] at this;rcases this with h|h|h
  ·exact absurd (beq_true h) hne
  ·rw [dI.2 hl] at h;cases h
  exact dI.1 h
 ·intro t c ht j hj d hd hl;have:=h8 (t,c) ht j hj;simp only [hd,Bool.or_eq_true,Bool.not_eq_true'] at this;rcases this with h|h
  ·rw [dI.2 hl] at h;cases h
  exact dI.1 h
 ·intro i hi;have:=h10 i hi;split at this
  ·rename_i o ho;rw [dF] at ho;exact⟨o,by simpa using ho,this⟩
  ·cases this
 ·intro ht;rw [ht] at h11;simpa using h11
 intro t c r ht;rw [ht] at h11;simp only [Bool.and_eq_true] at h11;exact⟨uZ h11.1,fun i hi hk=>uZ h11.2 i (List.mem_filter.2 ⟨hi,hk⟩)⟩
theorem CV {ops:List Oper}:∀ {seen l:List Nat},FB ops seen l=true→∀ pre i post,l=pre++i::post→∀ j∈cD ops i,j∈seen∨j∈pre
 |seen,[],_,pre,i,post,e,_,_=>by simp at e
 |seen,x::r,h,pre,i,post,e,j,hj=>by
  simp only [FB] at h;split at h
  case h_2=>cases h
  rename_i hs;cases pre with
  |nil =>
   simp only [List.nil_append,List.cons.injEq] at e;obtain⟨rfl,rfl⟩:=e;exact .inl (uZ hs j hj)
  |cons y pre =>
   simp only [List.cons_append,List.cons.injEq] at e;obtain⟨rfl,rfl⟩:=e;rcases CV h pre i post rfl j hj with h|h
   ·rcases List.mem_cons.1 h with rfl|h
    ·exact .inr (by simp)
    exact .inl h
   exact .inr (by simp [h])
def oX (A:Ar)(T:cQ)(C:VC)(tn:Nat)(ops:List Oper)(hJ:Heap)(l:List Nat):List (Nat × Value)→Nat→(List (Nat × Value)→Nat→Prop)→Prop :=
 @List.rec Nat (fun _=>List (Nat × Value)→Nat→(List (Nat × Value)→Nat→Prop)→Prop) (fun env nx K=>K env nx)
  (fun i _ ih env nx K=>match eL ops i with
  |none=>False
  |some o=>fC A ops env o.guard
   (fun env=>iA A T C hJ nx env o.op fun v nx'=>dZ tn env o.dst v fun env=>ih env nx' K)
   (fun env=>dZ tn env o.dst undef fun env=>ih env nx K)) l
theorem xF {A:Ar}{T:cQ}{C:VC}{tn:Nat}{ops:List Oper}{hJ:Heap}{nx i:Nat}{r:List Nat}{env:List (Nat × Value)}{K:List (Nat × Value)→Nat→Prop}:oX A T C tn ops hJ (i::r) env nx K=match eL ops i with
 |none=>False
 |some o=>fC A ops env o.guard
  (fun env=>iA A T C hJ nx env o.op fun v nx'=>dZ tn env o.dst v fun env=>oX A T C tn ops hJ r env nx' K)
  (fun env=>dZ tn env o.dst undef fun env=>oX A T C tn ops hJ r env nx K):=rfl
def lO (T:cQ)(tn:Nat)(ops:List Oper)(l:List Nat):List (Nat × Value)→Heap→Nat→KS→Prop :=
 @List.rec Nat (fun _=>List (Nat × Value)→Heap→Nat→KS→Prop) (fun env h nx K=>K env h nx)
  (fun i _ ih env h nx K=>match eL ops i with
  |some { op:=.alloc t,dst:=some d,.. }=>(match look T t with
   |some ti=>dZ tn env (some d) (.pointer (some ⟨nx,0,none⟩)) fun env=>ih env (cU h nx (.cells true false 1 ti.zv.cells.toList)) (nx+1) K
   |none=>False)
  |_=>False) l
theorem mV {T:cQ}{tn:Nat}{ops:List Oper}{i:Nat}{r:List Nat}{env:List (Nat × Value)}{h:Heap}{nx:Nat}{K:KS}:lO T tn ops (i::r) env h nx K=match eL ops i with
 |some { op:=.alloc t,dst:=some d,.. }=>(match look T t with
  |some ti=>dZ tn env (some d) (.pointer (some ⟨nx,0,none⟩)) fun env=>lO T tn ops r env (cU h nx (.cells true false 1 ti.zv.cells.toList)) (nx+1) K
  |none=>False)
 |_=>False:=rfl
def yA (env:List (Nat × Value))(hJ:Heap)(chk:Bool)(op:Op):Bool :=
 match chk with
 |false=>true
 |true=>match op with
  |.store _ x _=>(match cK env x with
   |some (.pointer (some ad))=>(match look hJ ad.block with|none=>true|some _=>false)
   |_=>false)
  |.load _ _=>true
  |.buildSlice _ _ _=>true
  |.call c=>(match c.callee with
   |.builtin .append=>(match jL env c.args.toList with
    |some [s,_]=>(match s with
     |.slice none 0 0=>true
     |.slice (some ad) _ _=>(match look hJ ad.block with|none=>true|some _=>false)
     |_=>false)
    |_=>false)
   |_=>false)
  |_=>false
def kD (A:Ar)(T:cQ)(C:VC)(Y:VY)(tn:Nat)(ops:List Oper)(hJ:Heap)(l:List (Nat × Bool)):List (Nat × Value)→Heap→Nat→KS→Prop :=
 @List.rec (Nat × Bool) (fun _=>List (Nat × Value)→Heap→Nat→KS→Prop) (fun env h nx K=>K env h nx)
  (fun p _ ih env h nx K=>match eL ops p.1 with
  |none=>False
  |some o=>fC A ops env o.guard
   (fun env=>dT (yA env hJ p.2 o.op) (pD A T C Y env h nx o.op fun v h' nx'=>dZ tn env o.dst v fun env'=>ih env' h' nx' K))
   (fun env=>dZ tn env o.dst undef fun env'=>ih env' h nx K)) l
theorem xT {A:Ar}{T:cQ}{C:VC}{Y:VY}{tn:Nat}{ops:List Oper}{hJ:Heap}{i:Nat}{chk:Bool}{r:List (Nat × Bool)}{env:List (Nat × Value)}{h:Heap}{nx:Nat}{K:KS}:kD A T C Y tn ops hJ ((i,chk)::r) env h nx K=match eL ops i with
 |none=>False
 |some o=>fC A ops env o.guard
  (fun env=>dT (yA env hJ chk o.op) (pD A T C Y env h nx o.op fun v h' nx'=>dZ tn env o.dst v fun env'=>kD A T C Y tn ops hJ r env' h' nx' K))
  (fun env=>dZ tn env o.dst undef fun env'=>kD A T C Y tn ops hJ r env' h nx K):=rfl
def UY (t:Nat):List Oper→Option Op
 |[]=>none
 |o::r=>match o.dst with
  |some d=>(match Nat.beq d t with|true=>some o.op|false=>UY t r)
  |none=>UY t r
def m7 (T:cQ)(ops:List Oper)(env:List (Nat × Value))(g:Heap):Nat→Operand→Option Value
 |0,s=>cK env s
 |n+1,s=>match s with
  |.tmp t=>(match UY t ops with
   |some (.move y)=>m7 T ops env g n y
   |some (.nilCheck y)=>m7 T ops env g n y
   |some (.fieldAddr st y f)=>(match m7 T ops env g n y,look T st with
    |some (.pointer (some ⟨k,o,none⟩)),some { kind:=.st fs,.. }=>(match fs[f]? with|some (off,_)=>some (.pointer (some ⟨k,o+off,none⟩))|none=>none)
    |_,_=>none)
   |some (.indexAddr st x y)=>(match m7 T ops env g n x,m7 T ops env g n y,look T st with
    |some (.slice (some ⟨k,o,none⟩) _ _),some (.int _ i),some { kind:=.sl e,.. }=>(match look T e with|some ei=>some (.pointer (some ⟨k,o+i.toNat*ei.size,none⟩))|none=>none)
    |_,_,_=>none)
   |some (.load _ y)=>(match m7 T ops env g n y with
    |some (.pointer (some ⟨k,o,none⟩))=>(match look g k with|some (.cells _ _ _ cs)=>nth cs o|_=>none)
    |_=>none)
   |_=>cK env s)
  |_=>cK env s
def AB (T:cQ)(ops:List Oper)(env:List (Nat × Value))(g:Heap):Nat→Operand→Option Nat
 |0,_=>none
 |n+1,s=>match s with
  |.tmp t=>(match UY t ops with
   |some (.indexAddr _ x _)=>(match m7 T ops env g 12 x with
    |some (.slice (some a) _ _)=>some a.block
    |some (.pointer (some a))=>some a.block
    |_=>none)
   |some (.fieldAddr _ y _)=>AB T ops env g n y
   |some (.nilCheck y)=>AB T ops env g n y
   |_=>(match m7 T ops env g 12 s with
    |some (.pointer (some a))=>some a.block
    |_=>none))
  |_=>none
def iU (T:cQ)(ops:List Oper)(env:List (Nat × Value))(g:Heap):List (Nat × Bool)→Heap→Heap
 |[],h=>h
 |(i,chk)::r,h=>match chk,eL ops i with
  |true,some { op:=.store _ x _,.. }=>(match AB T ops env g 12 x with
   |some k=>iU T ops env g r (rem h k)
   |none=>iU T ops env g r h)
  |true,some { op:=.call c,.. }=>(match c.callee,c.args.toList with
   |.builtin .append,s::_=>(match m7 T ops env g 12 s with
    |some (.slice (some ad) _ _)=>iU T ops env g r (rem h ad.block)
    |_=>iU T ops env g r h)
   |_,_=>iU T ops env g r h)
  |_,_=>iU T ops env g r h
def CA (T:cQ)(ops:List Oper)(env:List (Nat × Value))(h:Heap):List Nat→Heap→Heap
 |[],g=>g
 |i::r,g=>match eL ops i with
  |some { op:=.load _ y,.. }=>(match AB T ops env h 12 y with
   |some k=>(match look g k with
    |some _=>CA T ops env h r g
    |none=>(match look h k with|some o=>CA T ops env h r (cU g k o)|none=>CA T ops env h r g))
   |none=>CA T ops env h r g)
  |_=>CA T ops env h r g
def JH (T:cQ)(ops:List Oper)(env:List (Nat × Value))(p:fB)(h:Heap):Heap :=
 match p.BP with
 |[]=>iU T ops env h p.tail h
 |i::r=>CA T ops env h (i::r) []
def oV (A:Ar)(T:cQ)(C:VC)(Y:VY)(tn:Nat)(ops:List Oper)(p:fB)(env:List (Nat × Value))(h:Heap)(nx:Nat)(K:KS):Prop :=
 oX A T C tn ops (JH T ops env p h) p.head env nx fun env1 nx1 =>
  lO T tn ops p.allocs env1 h nx1 fun env2 h2 nx2 =>
   kD A T C Y tn ops (JH T ops env p h) p.tail env2 h2 nx2 K
theorem VJ {h:Heap}{j k:Nat}{o:bH}(hk:look (rem h j) k=some o):look h k=some o:=by
 rw [dN] at hk;split at hk
 ·cases hk
 exact hk
theorem fG {T:cQ}{g:Heap}{ops:List Oper}{env:List (Nat × Value)}:∀ {l:List (Nat × Bool)} {h:Heap} {k:Nat} {o:bH},look (iU T ops env g l h) k=some o→look h k=some o
 |[],h,k,o,hk=>hk
 |(i,chk)::r,h,k,o,hk=>by
  unfold iU at hk;split at hk
  ·split at hk
   ·exact VJ (fG hk)
   exact fG hk
  ·split at hk
   ·split at hk
    ·exact VJ (fG hk)
    exact fG hk
   exact fG hk
  exact fG hk
theorem nC {T:cQ}{ops:List Oper}{env:List (Nat × Value)}{h:Heap}:∀ {l:List Nat} {g:Heap},(∀ k o,look g k=some o→look h k=some o)→∀ k o,look (CA T ops env h l g) k=some o→look h k=some o
 |[],g,hg,k,o,hk=>hg k o hk
 |i::r,g,hg,k,o,hk=>by
  unfold CA at hk;split at hk
  ·split at hk
   ·split at hk
    ·exact nC hg k o hk
    split at hk
    ·rename_i o' ho';refine nC (fun k2 o2 h2=>?_) k o hk;rw [lF] at h2;split at h2
     ·rename_i e;cases h2;rw [e];exact ho'
     exact hg k2 o2 h2
    exact nC hg k o hk
   exact nC hg k o hk
  exact nC hg k o hk
theorem aBw {T:cQ}{ops:List Oper}{env:List (Nat × Value)}{p:fB}{h:Heap}(k:Nat)(o:bH)(hk:look (JH T ops env p h) k=some o):look h k=some o:=by
 unfold JH at hk;split at hk
 ·exact fG hk
 refine nC (fun k2 o2 h2=>?_) k o hk;cases h2
section
variable {P:Program}{T:cQ}{C:VC}{Y:VY}{ops:Array Oper}{p:fB}
theorem zS {o:Oper}(hs:∀ cs b,o.op≠.select cs b){a a':Act}(h:∀ t∈o.looksAt ops,a.tmps[t]? = a'.tmps[t]?) :
  execOp a.eval o=execOp a'.eval o∧Region.wanted o (yielded ops a.tmps)=Region.wanted o (yielded ops a'.tmps):=by
 refine⟨execOp_congr o hs fun x hx=>?_,?_⟩
 ·cases x with
  |tmp t =>
   have:=h t (List.mem_append_left _ (List.mem_filterMap.2 ⟨.tmp t,by simpa using hx,rfl⟩));simp [Act.eval,this]
  |_=>rfl
 unfold Region.wanted;cases hg:o.guard with
 |none=>rfl
 |some gw =>
  obtain⟨g,want⟩:=gw;have:yielded ops a.tmps g=yielded ops a'.tmps g:=by
   unfold yielded;cases ht:(ops[g]?).bind (·.dst) with
   |none=>rfl
   |some t =>
    have:=h t (List.mem_append_right _ (by simp [hg,ht]));simp [this]
  simp only [this]
theorem D5 (a:Act)(dst:Option Nat)(v:Value)(t:Nat):(a.put dst v).tmps[t]? = if dst=some t∧t<a.tmps.size then some v else a.tmps[t]? := by
 cases dst with
 |none=>simp [Act.put]
 |some d =>
  by_cases h:d=t
  ·subst h;by_cases hl:d<a.tmps.size
   ·rw [if_pos ⟨rfl,hl⟩];simp [Act.put,Array.getElem?_setIfInBounds_self_of_lt hl]
   rw [if_neg (fun e=>hl e.2)];simp [Act.put,Array.getElem?_setIfInBounds,hl]
  rw [if_neg (fun e=>h (Option.some.inj e.1))];simp only [Act.put];exact Array.getElem?_setIfInBounds_ne h
theorem fW {a:Act}{dst:Option Nat}{v:Value}{t:Nat}(h:dst≠some t):(a.put dst v).tmps[t]? = a.tmps[t]? := by
 rw [D5,if_neg (fun e=>h e.1)]
theorem rC {a:Act}{v:Value}{t:Nat}(h:t<a.tmps.size):(a.put (some t) v).tmps[t]? = some v:=by
 rw [D5,if_pos ⟨rfl,h⟩]
theorem qO (a:Act)(dst:Option Nat)(v:Value):(a.put dst v).tmps.size=a.tmps.size:=by
 cases dst <;> simp [Act.put]
theorem put_defers (a:Act)(dst:Option Nat)(v:Value):(a.put dst v).defers=a.defers:=by
 cases dst <;> rfl
def jF (ops:Array Oper)(ι:Nat→Loc)(vals:List (Nat × Value))(a:Act):Act:=vals.foldl (fun a q=>a.put (bV ops.toList q.1) (tr ι q.2)) a
theorem sF {ι:Nat→Loc}:∀ (vals:List (Nat × Value)) (a:Act),(jF ops ι vals a).tmps.size=a.tmps.size
 |[],a=>rfl
 |q::r,a=>by
  have:=sF (ι:=ι) r (a.put (bV ops.toList q.1) (tr ι q.2));rw [qO] at this;exact this
theorem wG {ι:Nat→Loc}:∀ (vals:List (Nat × Value)) (a:Act),(jF ops ι vals a).defers=a.defers
 |[],a=>rfl
 |q::r,a=>by
  have:=wG (ι:=ι) r (a.put (bV ops.toList q.1) (tr ι q.2));rw [put_defers] at this;exact this
theorem j6 {ι:Nat→Loc}{d:Nat}:∀ (vals:List (Nat × Value)) (a:Act),(∀ q∈vals,bV ops.toList q.1≠some d)→(jF ops ι vals a).tmps[d]? = a.tmps[d]?
 |[],a,_=>rfl
 |q::r,a,h=>by
  have:=j6 (ι:=ι) r (a.put (bV ops.toList q.1) (tr ι q.2)) (fun x hx=>h x (by simp [hx]));rw [fW (h q (by simp))] at this;exact this
theorem s8 {ι:Nat→Loc}{d i:Nat}{v:Value}:∀ (vals:List (Nat × Value)) (a:Act),d<a.tmps.size→(i,v)∈vals→bV ops.toList i=some d→(∀ q∈vals,bV ops.toList q.1=some d→q.1=i)→(vals.map (·.1)).Nodup →
  (jF ops ι vals a).tmps[d]? = some (tr ι v)
 |[],a,_,h,_,_,_=>by cases h
 |q::r,a,hd,hm,hi,hu,hn=>by
  simp only [List.map_cons,List.nodup_cons] at hn;rcases List.mem_cons.1 hm with rfl|hm
  ·have:=j6 (ops:=ops) (ι:=ι) (d:=d) r (a.put (bV ops.toList i) (tr ι v)) (fun x hx e=>by
    have:=hu x (by simp [hx]) e;exact hn.1 (List.mem_map.2 ⟨x,hx,this⟩))
   show (jF ops ι r (a.put (bV ops.toList i) (tr ι v))).tmps[d]? = _;rw [this,hi,rC hd]
  exact s8 r (a.put (bV ops.toList q.1) (tr ι q.2)) (by rw [qO];exact hd) hm hi (fun x hx=>hu x (by simp [hx])) hn.2
def Yld (P:Program)(ops:Array Oper)(ι:Nat→Loc)(B nx:Nat)(hJ:Heap)(wS:World)(i:Nat)(v:Value)(a:Act):Prop :=
 ∃ o,ops[i]? = some o∧eX ι nx v∧(∀ c,o.op≠.defer c)∧((Region.wanted o (yielded ops a.tmps)=false∧v=undef) ∨
   (Region.wanted o (yielded ops a.tmps)=true∧∀ w,aQ ι B (mH o.op hJ) nx w→(nY o.op=true→gF wS.heap.size wS w)→aE5 P (execOp a.eval o) w (tr ι v)))
theorem NO {tn:Nat}{env:List (Nat × Value)}{dst:Option Nat}{v:Value}{K:List (Nat × Value)→Prop}(hl:dZ tn env dst v K):∀ d,dst=some d→d<tn:=by
 rintro d rfl;simp only [dZ] at hl;split at hl
 ·rename_i h;exact nX h
 exact hl.elim
theorem aQ.wide {ι ι':Nat→Loc}{B nx nx':Nat}{h:Heap}{w:World}(H:aQ ι B h nx w)(hi:∀ k,k<nx→ι' k=ι k)(hn:nx≤nx'):aQ ι' B h nx' w:=by
 refine⟨fun k o hk=>?_,fun k k' o1 o2 h1 h2 hne ha b hb=>?_,fun k o hk=>Nat.lt_of_lt_of_le (H.low k o hk) hn,H.size,fun k o hk=>(H.sc k o hk).mono hn hi⟩
 ·rw [hi _ (H.low k o hk)];exact (H.obj k o hk).names (H.sc k o hk) hi
 rw [hi _ (H.low k o1 h1)] at hb;rw [hi _ (H.low k' o2 h2)];exact H.sep k k' o1 o2 h1 h2 hne ha b hb
theorem aQ.narrow {ι ι':Nat→Loc}{B nx nx':Nat}{h:Heap}{w wS:World}(H:aQ ι' B h nx' w)(HS:aQ ι B h nx wS)(hi:∀ k,k<nx→ι' k=ι k):aQ ι B h nx w:=by
 have hsc:∀ k o,look h k=some o→XR ι nx o:=HS.sc;refine⟨fun k o hk=>?_,fun k k' o1 o2 h1 h2 hne ha b hb=>?_,fun k o hk=>HS.low k o hk,H.size,hsc⟩
 ·have:=H.obj k o hk;rw [hi _ (HS.low k o hk)] at this;exact this.names ((hsc k o hk).mono (Nat.le_refl _) hi) (fun j hj=>(hi j hj).symm)
 rw [← hi _ (HS.low k o1 h1)] at hb;rw [← hi _ (HS.low k' o2 h2)];exact H.sep k k' o1 o2 h1 h2 hne ha b hb
theorem Yld.wide {P:Program}{ops:Array Oper}{ι ι':Nat→Loc}{B nx nx':Nat}{hJ:Heap}{wS:World}{i:Nat}{v:Value}{a:Act}(H:aQ ι B hJ nx wS)(hi:∀ k,k<nx→ι' k=ι k)(hn:nx≤nx')
  (hy:Yld P ops ι B nx hJ wS i v a):Yld P ops ι' B nx' hJ wS i v a:=by
 obtain⟨o,h1,h2,h3,h4⟩:=hy;refine⟨o,h1,qM hn hi h2,h3,?_⟩;rcases h4 with h4|⟨h4,h5⟩
 ·exact .inl h4
 refine .inr ⟨h4,fun w Hw hb=>?_⟩;rw [GO hi h2];refine h5 w (Hw.narrow (wS:=wS) ?_ hi) hb;unfold mH;cases lB o.op with
 |true=>exact aQ.none H.size
 |false=>exact H
theorem PV (hT:cL P T)(hC:bC P C)(hD:dS C)(hp:∀ i,i<ops.size→l9 rK ops.toList i=true){tn:Nat}{B:Nat}{hJ:Heap}{wS:World}{K:List (Nat × Value)→Nat→Prop} :
  ∀ (l:List Nat) (env:List (Nat × Value)) (a:Act) (ι:Nat→Loc) (nx:Nat),aQ ι B hJ nx wS→oX aF T C tn ops.toList hJ l env nx K→c9 ι nx env a→a.tmps.size=tn →
  ∃ vals env1 ι' nx',K env1 nx'∧(∀ k,k<nx→ι' k=ι k)∧nx≤nx'∧vals.map (·.1)=l∧c9 ι' nx' env1 (jF ops ι' vals a)∧(∀ q∈vals,∀ d,bV ops.toList q.1=some d→d<tn) ∧
    ∀ pre i v post,vals=pre++(i,v)::post→Yld P ops ι' B nx' hJ wS i v (jF ops ι' pre a)
 |[],env,a,ι,nx,H,hl,he,hs=>⟨[],env,ι,nx,hl,fun _ _=>rfl,Nat.le_refl _,rfl,he,by simp,by simp⟩
 |i::r,env,a,ι,nx,H,hl,he,hs=>by
  simp only [xF] at hl;split at hl
  ·exact hl.elim
  rename_i o ho;have hdst:bV ops.toList i=o.dst:=(by simp [bV,ho]);have hoi:ops[i]? = some o:=(by rw [dF] at ho;simpa using ho);have hlt:i<ops.size:=(Array.getElem?_eq_some_iff.1 hoi).1;have hdef:∀ c,o.op≠.defer c:=by
   intro c e;have:=hp i hlt;simp [l9,ho,e,rK] at this
  obtain⟨env1,he1,hcase⟩:=vB he hl;have main:∃ v ι1 nx1,(∀ k,k<nx→ι1 k=ι k)∧nx≤nx1∧eX ι1 nx1 v∧Yld P ops ι1 B nx1 hJ wS i v a∧dZ tn env1 o.dst v fun env=>oX aF T C tn ops.toList hJ r env nx1 K:=by
   rcases hcase with ⟨hw,hl⟩|⟨hw,hl⟩
   ·obtain⟨v,nx1,ι1,h1,h2,h3,h4,h5⟩:=aAf hT hC hD he1 H hl;refine⟨v,ι1,nx1,h3,h4,h2,⟨o,hoi,h2,hdef,.inr ⟨hw,fun w Hw hb=>h5 w (Hw.narrow (wS:=wS) ?_ h3) hb⟩⟩,h1⟩;unfold mH;cases lB o.op with
    |true=>exact aQ.none H.size
    |false=>exact H
   exact⟨undef,ι,nx,fun _ _=>rfl,Nat.le_refl _,bU rfl,⟨o,hoi,bU rfl,hdef,.inl ⟨hw,rfl⟩⟩,hl⟩
  obtain⟨v,ι1,nx1,hi1,hn1,hv,hy,hl⟩:=main;have H1:=H.wide hi1 hn1;obtain⟨env2,k1,k2,k3,k4⟩:=oU (he1.names hn1 hi1) hs hl hv;rw [← hdst] at k2 k3;obtain⟨vals,env3,ι',nx',h1,hi',hn',h2,h3,h4,h5⟩:=PV hT hC hD hp r env2 _ ι1 nx1 H1 k1 k2 k3;have etr:tr ι' v=tr ι1 v:=GO hi' hv;have ep:∀ pre,jF ops ι' ((i,v)::pre) a=jF ops ι' pre (a.put (bV ops.toList i) (tr ι1 v)):=fun pre=>by
   show jF ops ι' pre (a.put (bV ops.toList i) (tr ι' v))=_;rw [etr]
  refine⟨(i,v)::vals,env3,ι',nx',h1,fun k hk=>(hi' k (by omega)).trans (hi1 k hk),by omega,by simp [h2],by rw [ep];exact h3,fun q hq d hd=>?_,fun pre j u post e=>?_⟩
  ·rcases List.mem_cons.1 hq with rfl|hq
   ·exact NO hl d (by rw [← hdst];exact hd)
   exact h4 q hq d hd
  ·cases pre with
   |nil =>
    simp only [List.nil_append,List.cons.injEq,Prod.mk.injEq] at e;obtain⟨⟨rfl,rfl⟩,rfl⟩:=e;exact hy.wide H1 hi' hn'
   |cons q pre =>
    simp only [List.cons_append,List.cons.injEq] at e;obtain⟨rfl,rfl⟩:=e;rw [ep];exact h5 pre j u post rfl
structure A8 (ops:Array Oper) (p:fB) (ι:Nat→Loc) (vals:List (Nat × Value)) (tn:Nat) (ds:List Deferred) (a0:Act) (L:Nat→Prop) (a a':Act):Prop where
 size:a.tmps.size=tn
 size':a'.tmps.size=tn
 defers:a.defers=ds
 defers':a'.defers=ds
 q1:∀ i v d,(i,v)∈vals→bV ops.toList i=some d→a'.tmps[d]? = some (tr ι v)
 q2:∀ d,(∀ i∈p.head,bV ops.toList i=some d→L i)→a.tmps[d]? = a'.tmps[d]?
 q3:∀ d,(∀ i,i∈p.head∨L i→bV ops.toList i≠some d)→a'.tmps[d]? = a0.tmps[d]?
 q4:∀ i d,i∈p.head→¬ L i→bV ops.toList i=some d→a.tmps[d]? = a0.tmps[d]?
def GK (L:Nat→Prop)(i:Nat):Nat→Prop:=fun j=>j=i∨L j
variable {ι:Nat→Loc}{vals:List (Nat × Value)}{tn:Nat}{ds:List Deferred}{a0:Act}{L:Nat→Prop}{a a':Act}
theorem mG {i d:Nat}(h:bV ops.toList i=some d):i<ops.size:=by
 unfold bV at h;split at h
 ·rename_i o ho;rw [dF] at ho;have:ops[i]? = some o:=(by simpa using ho);exact (Array.getElem?_eq_some_iff.1 this).1
 ·cases h
theorem A8.head (hp:mJ ops p)(I:A8 ops p ι vals tn ds a0 L a a')(hv:vals.map (·.1)=p.head)(hd:∀ q∈vals,∀ d,bV ops.toList q.1=some d→d<tn){i:Nat}{v:Value}(hi:(i,v)∈vals) :
  A8 ops p ι vals tn ds a0 (GK L i) (a.put (bV ops.toList i) (tr ι v)) a':=by
 refine⟨by rw [qO];exact I.size,I.size',by rw [put_defers];exact I.defers,I.defers',I.q1,fun d h=>?_,fun d h=>I.q3 d (fun j hj=>h j (hj.imp id .inr)),fun j d hj hn hjd=>?_⟩
 ·by_cases e:bV ops.toList i=some d
  ·rw [e,rC (by rw [I.size];exact hd _ hi d e),I.q1 i v d hi e]
  rw [fW e];refine I.q2 d fun j hj hjd=>?_;rcases h j hj hjd with rfl|h
  ·exact absurd hjd e
  exact h
 have hij:j≠i:=fun e=>hn (.inl e);rw [fW (fun e=>hij (hp.dsts j i d (mG hjd) (mG e) hjd e))];exact I.q4 j d hj (fun h=>hn (.inr h)) hjd
theorem A8.other (hp:mJ ops p)(I:A8 ops p ι vals tn ds a0 L a a')(hv:vals.map (·.1)=p.head){j:Nat}(hj:j∉p.head)(u:Value) :
  A8 ops p ι vals tn ds a0 (GK L j) (a.put (bV ops.toList j) u) (a'.put (bV ops.toList j) u):=by
 have hne:∀ i d,i∈p.head→bV ops.toList i=some d→bV ops.toList j≠some d:=fun i d hi hd e=>hj (by rw [hp.dsts j i d (mG e) (mG hd) e hd];exact hi);have hmem:∀ i v,(i,v)∈vals→i∈p.head:=fun i v h=>(by rw [← hv];exact List.mem_map.2 ⟨_,h,rfl⟩);refine⟨by rw [qO];exact I.size,by rw [qO];exact I.size',by rw [put_defers];exact I.defers,by rw [put_defers];exact I.defers',fun i v d hi hd=>?_,fun d h=>?_,fun d h=>?_,fun i d hi hn hid=>?_⟩
 ·rw [fW (hne i d (hmem i v hi) hd)];exact I.q1 i v d hi hd
 ·rw [D5,D5,I.size,I.size'];by_cases e:bV ops.toList j=some d∧d<tn
  ·rw [if_pos e,if_pos e]
  rw [if_neg e,if_neg e];refine I.q2 d fun i hi hid=>?_;rcases h i hi hid with rfl|h
  ·exact absurd hi hj
  exact h
 ·rw [fW (h j (.inr (.inl rfl)))];exact I.q3 d fun i hi=>h i (hi.imp id .inr)
 rw [fW (hne i d hi hid)];exact I.q4 i d hi (fun h=>hn (.inr h)) hid
theorem gD {i:Nat}:i∈p.order↔i∈p.head∨i∈p.allocs∨i∈p.tail.map (·.1):=by simp [fB.order]
theorem mJ.apart (hp:mJ ops p){i:Nat}(hi:i∈p.head):i∉p.allocs∧i∉p.tail.map (·.1):=by
 have:=hp.nodup;unfold fB.order at this;rw [List.append_assoc,List.nodup_append] at this;exact⟨fun h=>this.2.2 i hi i (List.mem_append_left _ h) rfl,fun h=>this.2.2 i hi i (List.mem_append_right _ h) rfl⟩
theorem mJ.aKc (hp:mJ ops p){i:Nat}(hi:i∈p.allocs):i∉p.tail.map (·.1):=by
 have:=hp.nodup;unfold fB.order at this;rw [List.nodup_append] at this;exact fun h=>this.2.2 i (List.mem_append_right _ hi) i h rfl
theorem A8.aN6 (hp:mJ ops p)(I:A8 ops p ι vals tn ds a0 L a a')(hv:vals.map (·.1)=p.head)(hd:∀ q∈vals,∀ d,bV ops.toList q.1=some d→d<tn)(h0:a0.tmps.size=tn)
  (cl:∀ i,L i→∀ j∈cD ops.toList i,L j) (hL:∀ i,L i→i<ops.size) {pre post:List (Nat × Value)} {i:Nat} {v:Value} (e:vals=pre++(i,v)::post) (hn:¬ L i) (hr:∀ j∈cD ops.toList i,L j) :
  ∀ t∈pI ops i,a.tmps[t]? = (jF ops ι pre a0).tmps[t]? := by
 intro t ht;have hih:i∈p.head:=(by rw [← hv,e];simp);have hin:i<ops.size:=hp.N6 i (gD.2 (.inl hih));have hhead:p.head=pre.map (·.1)++i::post.map (·.1):=(by rw [← hv,e];simp);have hnd:(p.head).Nodup:=by
  have:=hp.nodup;unfold fB.order at this;rw [List.append_assoc,List.nodup_append] at this;exact this.1
 have hpre:∀ j∈cD ops.toList i,j∈pre.map (·.1):=fun j hj=>by
  rcases CV hp.headP _ _ _ hhead j hj with h|h
  ·cases h
  exact h
 have hni:i∉pre.map (·.1):=fun hm=>by
  rw [hhead,List.nodup_append] at hnd;exact hnd.2.2 i hm i (by simp) rfl
 by_cases hex:∃ j∈p.head,bV ops.toList j=some t
 ·obtain⟨j,hj,hjt⟩:=hex;by_cases hji:j=i
  ·subst hji;rw [I.q4 j t hj hn hjt];rw [j6];intro q hq hqt;have:=hp.dsts _ _ t (mG hqt) (mG hjt) hqt hjt;exact hni (List.mem_map.2 ⟨q,hq,this⟩)
  have hjp:=hp.look1 j (.inl hj) i hin (fun e=>hji e.symm) t hjt ht;have hjL:=hr j hjp;obtain⟨q,hq,hqj⟩:=List.mem_map.1 (hpre j hjp);obtain⟨j',u⟩:=q;simp only at hqj;subst hqj;have hqv:(j',u)∈vals:=(by rw [e];exact List.mem_append_left _ hq);rw [I.q2 t (fun j2 hj2 h2=>by rw [hp.dsts j2 j' t (mG h2) (mG hjt) h2 hjt];exact hjL),I.q1 j' u t hqv hjt];rw [s8 pre a0 (by rw [h0];exact hd _ hqv t hjt) hq hjt (fun q2 hq2 h2=>hp.dsts _ _ t (mG h2) (mG hjt) h2 hjt) (by
   rw [hhead,List.nodup_append] at hnd;exact hnd.1)]
 have hex':∀ j∈p.head,bV ops.toList j≠some t:=fun j hj h=>hex ⟨j,hj,h⟩;rw [I.q2 t (fun j hj h=>absurd h (hex' j hj)),I.q3 t,j6]
 ·intro q hq;exact hex' _ (by rw [hhead];exact List.mem_append_left _ (List.mem_map.2 ⟨q,hq,rfl⟩))
 intro j hj;rcases hj with hj|hj
 ·exact hex' j hj
 intro hjt;rcases gD.1 (hp.cover j (hL j hj)) with h|h|h
 ·exact hex' j h hjt
 ·have hne:i≠j:=fun e=>(hp.apart hih).1 (e▸h);have:=hpre j (hp.look1 j (.inr h) i hin hne t hjt ht);exact (hp.apart (i:=j) (by rw [hhead];exact List.mem_append_left _ this)).1 h
 obtain⟨⟨t',c⟩,htc,rfl⟩:=List.mem_map.1 h;exact hn (cl t' hj i (hp.look2 t' c htc i hih t hjt ht))
theorem A8.aKO (hp:mJ ops p)(I:A8 ops p ι vals tn ds a0 L a a'){j:Nat}(hj:j∉p.head)(hjn:j<ops.size)(hr:∀ i∈cD ops.toList j,L i) :
  ∀ t∈pI ops j,a.tmps[t]? = a'.tmps[t]? := fun t ht =>
 I.q2 t fun i hi hit=>hr i (hp.look1 i (.inl hi) j hjn (fun e=>hj (e▸hi)) t hit ht)
end
section
variable {P:Program}{T:cQ}{C:VC}{Y:VY}{ops:Array Oper}{p:fB}
theorem aQ.sub {ι:Nat→Loc}{B nx:Nat}{h h':Heap}{w:World}(H:aQ ι B h nx w)(hs:∀ k o,look h' k=some o→look h k=some o):aQ ι B h' nx w :=
 ⟨fun k o hk=>H.obj k o (hs k o hk),fun k k' o o' h1 h2=>H.sep k k' o o' (hs _ _ h1) (hs _ _ h2),fun k o hk=>H.low k o (hs k o hk),H.size,fun k o hk=>H.sc k o (hs k o hk)⟩
theorem aQ.back {ι ι0:Nat→Loc}{B nx nx0:Nat}{h hJ:Heap}{w wS:World}(H:aQ ι B h nx w)(HS:aQ ι0 B hJ nx0 wS)(hs:∀ k o,look hJ k=some o→look h k=some o)(hi:∀ k,k<nx0→ι k=ι0 k):aQ ι0 B hJ nx0 w:=by
 refine⟨fun k o hk=>?_,HS.sep,HS.low,H.size,HS.sc⟩;have h1:=H.obj k o (hs k o hk);have h2:XR ι nx0 o:=(HS.sc k o hk).mono (Nat.le_refl _) hi;have h3:=h1.names h2 (ι':=ι0) (fun j hj=>(hi j hj).symm)
 rwa [hi k (HS.low k o hk)] at h3
theorem aAc {o:Oper}{a b:Act}{w:World}{u:Value}(hr:aE5 P (execOp b.eval o) w u)(he:execOp a.eval o=execOp b.eval o)(hd:∀ c,o.op≠.defer c)(r:Option Nat)(next:Act→World→Prop)(Q:Exit→Act→World→Prop)
  (hn:∀ w',gF w.heap.size w w'→next (a.put o.dst u) w'):o.wpIn (Fr r) 0 P a w next Q:=by
 refine⟨fun _ _=>trivial,?_⟩;rw [semAt_eq hd,he];rcases hr with h|⟨f,args,h,hc⟩
 ·rw [h];exact hn w (gF.refl _ _)
 rw [h];refine⟨fun hdep=>absurd hdep (by simp [Fr,Fence.wide]),?_⟩;refine CallsIn.mono (F:=Fence.wide) hc fun e w' hret=>?_;obtain⟨rfl,hb⟩:=hret;exact hn w' hb
def XY (T:cQ)(ops:Array Oper)(wS:World)(i b:Nat)(a:Act)(w:World):Prop :=
 wS.heap.size≤b∧∃ o t d ti,eL ops.toList i=some o∧o.op=.alloc t∧o.dst=some d∧look T t=some ti∧w.heap[b]? = some (.cells ti.zv.cells t (0,0))∧a.tmps[d]? = some (.pointer (some ⟨b,0,none⟩))
theorem wI {tn:Nat}{l:List Oper}{K:KS}:∀ {al:List Nat} {env:List (Nat × Value)} {h:Heap} {nx:Nat},lO T tn l al env h nx K →
  ∀ i∈al,∃ o t d ti,eL l i=some o∧o.op=.alloc t∧o.dst=some d∧d<tn∧look T t=some ti
 |[],_,_,_,_,i,hi=>by cases hi
 |j::r,env,h,nx,hl,i,hi=>by
  simp only [mV] at hl;split at hl
  case h_2=>exact hl.elim
  rename_i d t ty pos after gd ho;split at hl
  case h_2=>exact hl.elim
  rename_i ti hti;have hd:=NO hl d rfl;rcases List.mem_cons.1 hi with rfl|hi
  ·exact⟨_,t,d,ti,ho,rfl,rfl,hd,hti⟩
  simp only [dZ] at hl;split at hl
  ·exact wI hl i hi
  exact hl.elim
theorem c9.congr {ι:Nat→Loc}{n:Nat}{env:List (Nat × Value)}{a a':Act}(he:c9 ι n env a)(h:∀ d:Nat,a.tmps[d]? = a'.tmps[d]?):c9 ι n env a':=fun t v hv=>by
 rw [← h t];exact he t v hv
theorem G7 (hT:cL P T){tn B:Nat}{wS w:World}(hB:B≤wS.heap.size){K:KS}{a':Act}{bs:Nat→Nat}:∀ (al:List Nat) (ι:Nat→Loc) (env:List (Nat × Value)) (h:Heap) (nx:Nat) (a:Act),
  lO T tn ops.toList al env h nx K→c9 ι nx env a→a.tmps.size=tn→aQ ι B h nx w→(∀ i∈al,XY T ops wS i (bs i) a' w)→al.Nodup→(∀ i∈al,∀ j∈al,bs i=bs j→i=j) →
  (∀ k o b,look h k=some o→(ι k).D0=some b→∀ i∈al,b≠bs i)→(∀ d,(∀ i∈al,bV ops.toList i≠some d)→a.tmps[d]? = a'.tmps[d]?) →
  ∃ ι' env' h' nx',K env' h' nx'∧c9 ι' nx' env' a'∧aQ ι' B h' nx' w∧(∀ k,k<nx→ι' k=ι k)∧nx≤nx'∧∀ k,k<nx→look h' k=look h k
 |[],ι,env,h,nx,a,hl,he,hs,H,hal,hnd,hinj,hsep,hd=>⟨ι,env,h,nx,hl,he.congr (fun d=>hd d (by simp)),H,fun _ _=>rfl,Nat.le_refl _,fun _ _=>rfl⟩
 |i::r,ι,env,h,nx,a,hl,he,hs,H,hal,hnd,hinj,hsep,hd=>by
  simp only [mV] at hl;split at hl
  case h_2=>exact hl.elim
  rename_i d t ty pos after gd ho;split at hl
  case h_2=>exact hl.elim
  rename_i ti hti;obtain⟨hb,o',t',d',ti',h1,h2,h3,h4,h5,h6⟩:=hal i (by simp);rw [ho] at h1;injection h1 with h1;subst h1;simp only at h2 h3;injection h2 with h2;injection h3 with h3;subst h2;subst h3;rw [hti] at h4;injection h4 with h4;subst h4;have hz:=qE hT hti;have hdi:bV ops.toList i=some d:=(by simp [bV,ho]);have hadd:=H.add (.cells true false 1 ti.zv.cells.toList) (.lay (bs i) 0 0) (by
   refine⟨Nat.le_trans hB hb,by simp,ti.zv.cells,t,h5,by simp,fun j v hv=>?_⟩;rw [Nat.zero_add,← Array.getElem?_toList,hv,nU (hz v (List.mem_of_getElem? hv))]) (fun v hv=>bY (hz v hv)) (by
   intro k o' hk _ b hb' e;have:bs i=b:=(by simpa [Loc.D0] using hb');exact hsep k o' b hk e i (by simp) this.symm)
  have hsc:eX (ins ι nx (.lay (bs i) 0 0)) (nx+1) (.pointer (some ⟨nx,0,none⟩)):=(by simp [eX,kU,gP,oL,aZ,Loc.gR]);obtain⟨env',k1,k2,k3,_⟩:=oU (he.names (ι':=ins ι nx (.lay (bs i) 0 0)) (m:=nx+1) (by omega) (fun k hk=>cG _ _ hk)) hs hl hsc;have htr:tr (ins ι nx (.lay (bs i) 0 0)) (.pointer (some ⟨nx,0,none⟩))=.pointer (some ⟨bs i,0,none⟩):=(by simp [fD,aZ]);rw [htr] at k2 k3;rw [List.nodup_cons] at hnd;obtain⟨ι',env2,h2,nx2,q1,q2,q3,q4,q5,q6⟩:=G7 hT hB r _ env' _ (nx+1) _ k1 k2 k3 hadd (fun j hj=>hal j (by simp [hj])) hnd.2 (fun x hx y hy=>hinj x (by simp [hx]) y (by simp [hy])) (by
   intro k o' b hk hkb j hj e;rw [lF] at hk;by_cases hkn:k=nx
   ·subst hkn;rw [aZ] at hkb;have:bs i=b:=(by simpa [Loc.D0] using hkb);have:=hinj i (by simp) j (by simp [hj]) (this.trans e);exact hnd.1 (this▸hj)
   ·rw [if_neg hkn] at hk;rw [HW _ _ hkn] at hkb;exact hsep k o' b hk hkb j (by simp [hj]) e) (by
   intro d2 h2;by_cases e:d2=d
   ·subst e;rw [rC (by have:=NO hl d2 rfl;omega)];exact h6.symm
   rw [fW (fun e'=>e (Option.some.inj e').symm)];refine hd d2 fun j hj=>?_;rcases List.mem_cons.1 hj with rfl|hj
   ·rw [hdi];exact fun e'=>e (Option.some.inj e').symm
   exact h2 j hj)
  exact⟨ι',env2,h2,nx2,q1,q2,q3,fun k hk=>(q4 k (by omega)).trans (cG _ _ hk),by omega,fun k hk=>(q6 k (by omega)).trans (iV _ _ (by omega))⟩
structure Ctx (P:Program) (T:cQ) (C:VC) (Y:VY) (ops:Array Oper) (p:fB) (B:Nat) (w0:World) (ιb:Nat→Loc) (nxb tn:Nat) (ds:List Deferred) (ι0:Nat→Loc) (nx0:Nat) (h0 hJ:Heap) (a0:Act) (wS:World)
  (vals:List (Nat × Value)) (env1:List (Nat × Value)) (K:KS):Prop where
 tab:cL P T
 calls:bC P C
 yields:eO P Y
 plan:mJ ops p
 old:∀ k,k<nxb→ι0 k=ιb k
 le:nxb≤nx0
 size:a0.tmps.size=tn
 defers:a0.defers=ds
 heap:aQ ι0 B h0 nx0 wS
 below:gF B w0 wS
 sub:∀ k o,look hJ k=some o→look h0 k=some o
 heads:vals.map (·.1)=p.head
 env:c9 ι0 nx0 env1 (jF ops ι0 vals a0)
 dlt:∀ q∈vals,∀ d,bV ops.toList q.1=some d→d<tn
 yld:∀ pre i v post,vals=pre++(i,v)::post→Yld P ops ι0 B nx0 hJ wS i v (jF ops ι0 pre a0)
 rest:lO T tn ops.toList p.allocs env1 h0 nx0 fun env h nx=>kD aF T C Y tn ops.toList hJ p.tail env h nx K
structure IL (T:cQ) (ops:Array Oper) (p:fB) (tn:Nat) (ds:List Deferred) (ι0:Nat→Loc) (a0:Act) (wS:World) (vals:List (Nat × Value)) (L:Nat→Prop) (a:Act) (w:World):Prop where
 noT:∀ t∈p.tail.map (·.1),¬ L t
 below:gF wS.heap.size wS w
 on:∃ (a':Act) (bs:Nat→Nat),A8 ops p ι0 vals tn ds a0 L a a'∧(∀ d,(∀ i∈p.allocs,L i→bV ops.toList i≠some d)→(jF ops ι0 vals a0).tmps[d]? = a'.tmps[d]?) ∧
  (∀ i∈p.allocs,L i→XY T ops wS i (bs i) a' w)∧(∀ i∈p.allocs,∀ j∈p.allocs,L i→L j→bs i=bs j→i=j)
def sS (T:cQ)(C:VC)(Y:VY)(ops:Array Oper)(p:fB)(B:Nat)(w0:World)(ιb:Nat→Loc)(nxb tn:Nat)(ds:List Deferred)(ι0:Nat→Loc)(nx0:Nat)(hJ:Heap)(a0:Act)(vals:List (Nat × Value))(K:KS)(L:Nat→Prop)(a:Act)(w:World):Prop :=
 ∃ done rest a' ι env h nx,p.tail=done++rest∧(∀ t∈done,L t.1)∧(∀ t∈rest,¬ L t.1)∧(∀ i∈p.allocs,L i)∧(∀ i∈p.head,l9 nY ops.toList i=true→L i) ∧
   A8 ops p ι0 vals tn ds a0 L a a'∧Inv B w0 ιb nxb tn ds ι env h nx a' w∧(∀ k,k<nx0→ι k=ι0 k)∧nx0≤nx ∧
   kD aF T C Y tn ops.toList hJ rest env h nx K ∧
   (∃ last got,qR ops.toList (p.head.filter (fun i=>!l9 lB ops.toList i)) last got rest=true∧(∀ x∈got,L x)∧(∀ l,last=some l↔∃ d c,done=d++[(l,c)])) ∧
   ((∀ i∈p.head,l9 lB ops.toList i=false→L i)∨(aQ ι0 B hJ nx0 w∧∀ k o,look hJ k=some o→look h k=some o))
variable {B:Nat}{w0:World}{ιb:Nat→Loc}{nxb tn:Nat}{ds:List Deferred}{ι0:Nat→Loc}{nx0:Nat}{h0 hJ:Heap}{a0:Act}{wS:World}{vals:List (Nat × Value)}{env1:List (Nat × Value)}{K:KS}{L:Nat→Prop}{a:Act}{w:World}
theorem IL.post (X:Ctx P T C Y ops p B w0 ιb nxb tn ds ι0 nx0 h0 hJ a0 wS vals env1 K)(S:IL T ops p tn ds ι0 a0 wS vals L a w)(hall:∀ i∈p.allocs,L i)(hst:∀ i∈p.head,l9 nY ops.toList i=true→L i) :
  sS T C Y ops p B w0 ιb nxb tn ds ι0 nx0 hJ a0 vals K L a w:=by
 obtain⟨a',bs,I,r1,r2,r3⟩:=S.on;have hw:aQ ι0 B h0 nx0 w:=X.heap.ext S.below;have hnd:p.allocs.Nodup:=by
  have:=X.plan.nodup;unfold fB.order at this;rw [List.append_assoc,List.nodup_append,List.nodup_append] at this;exact this.2.1.1
 obtain⟨ι,env,h,nx,k1,k2,k3,k4,k5,k6⟩:=G7 X.tab X.heap.size p.allocs ι0 env1 h0 nx0 (jF ops ι0 vals a0) X.rest X.env (by rw [sF];exact X.size) hw (fun i hi=>r2 i hi (hall i hi)) hnd (fun i hi j hj=>r3 i hi j hj (hall i hi) (hall j hj)) (by
  intro k o b hk hb i hi e;have h1:=(X.heap.obj k o hk).lt hb;have h2:=(r2 i hi (hall i hi)).1;omega) (fun d hd=>r1 d (fun i hi _=>hd i hi))
 refine⟨[],p.tail,a',ι,env,h,nx,rfl,by simp,fun t ht=>S.noT _ (List.mem_map.2 ⟨t,ht,rfl⟩),hall,hst,I,⟨k2,k3,X.below.trans (S.below.mono X.heap.size),fun k hk=>(k4 k (Nat.lt_of_lt_of_le hk X.le)).trans (X.old k hk),Nat.le_trans X.le k5,I.size',I.defers'⟩,k4,k5,k1,⟨none,[],X.plan.tailP,by simp,by simp⟩,.inr ⟨(X.heap.sub X.sub).ext S.below,fun k o hk=>(k6 k (X.heap.low k o (X.sub k o hk))).trans (X.sub k o hk)⟩⟩
theorem ZQ (X:Ctx P T C Y ops p B w0 ιb nxb tn ds ι0 nx0 h0 hJ a0 wS vals env1 K)(cl:∀ i,L i→∀ j∈cD ops.toList i,L j)(hL:∀ i,L i→i<ops.size){i:Nat}(hi:i∈p.head)(hn:¬ L i)(hr:∀ j∈cD ops.toList i,L j)
  (S:IL T ops p tn ds ι0 a0 wS vals L a w∨sS T C Y ops p B w0 ιb nxb tn ds ι0 nx0 hJ a0 vals K L a w) (r:Option Nat) (next:Act→World→Prop) (Q:Exit→Act→World→Prop)
  (hnext:∀ a w,(IL T ops p tn ds ι0 a0 wS vals (GK L i) a w∨sS T C Y ops p B w0 ιb nxb tn ds ι0 nx0 hJ a0 vals K (GK L i) a w)→next a w):wpOpIn (Fr r) 0 P ops Q i next a w:=by
 have hiv:i∈vals.map (·.1):=(by rw [X.heads];exact hi);obtain⟨q,hq,hqi⟩:=List.mem_map.1 hiv;obtain⟨i',v⟩:=q;simp only at hqi;subst hqi;obtain⟨pre,post,hsplit⟩:=List.append_of_mem hq;obtain⟨o,ho,hsc,hdef,hy⟩:=X.yld pre i' v post hsplit;have hdst:bV ops.toList i'=o.dst:=(by simp [bV,dF,ho]);have hlt:=(Array.getElem?_eq_some_iff.1 ho).1;have hget:eL ops.toList i'=some o:=(by rw [dF];simpa using ho);have hsel:∀ cs b,o.op≠.select cs b:=by
  intro cs b e;have:=X.plan.plain i' hlt;simp [l9,hget,e,rK] at this
 obtain⟨a',I⟩:∃ a',A8 ops p ι0 vals tn ds a0 L a a':=by
  rcases S with S|⟨done,rest,a',ι,env,h,nx,_,_,_,_,_,I,_⟩
  ·obtain⟨a',_,I,_⟩:=S.on;exact⟨a',I⟩
  exact⟨a',I⟩
 have hsee:=I.aN6 X.plan X.heads X.dlt X.size cl hL hsplit hn hr;have hlook:pI ops i'=o.looksAt ops:=(by simp [pI,hget]);rw [hlook] at hsee;obtain⟨he,hw⟩:=zS hsel hsee
 -- what is known rZ it
 have hpast:∀ w',gF w.heap.size w w'→next (a.put o.dst (tr ι0 v)) w':=by
  intro w' hb;refine hnext _ _ ?_;rw [← hdst];rcases S with S|S
  ·refine .inl ?_;obtain⟨a',bs,I,r1,r2,r3⟩:=S.on;have hne:∀ j,j∈p.allocs→j≠i':=fun j hj e=>(X.plan.apart hi).1 (e▸hj);refine⟨fun t ht=>?_,S.below.trans (hb.mono S.below.size),a',bs,I.head X.plan X.heads X.dlt hq,fun d hd=>r1 d (fun j hj hjL=>hd j hj (.inr hjL)),fun j hj hjL=>?_,fun j hj k hk hjL hkL=>r3 j hj k hk (hjL.resolve_left (hne j hj)) (hkL.resolve_left (hne k hk))⟩
   ·rintro (rfl|h)
    ·exact (X.plan.apart hi).2 ht
    exact S.noT t ht h
   obtain⟨hb1,o2,t2,d2,ti2,e1,e2,e3,e4,e5,e6⟩:=r2 j hj (hjL.resolve_left (hne j hj));exact⟨hb1,o2,t2,d2,ti2,e1,e2,e3,e4,(hb.block _ (Array.getElem?_eq_some_iff.1 e5).1).trans e5,e6⟩
  refine .inr ?_;obtain⟨done,rest,a',ι,env,h,nx,e1,e2,e3,e4,e5,I,J,e6,e7,e8,⟨last,got,e9,e10,e11⟩,e12⟩:=S;refine⟨done,rest,a',ι,env,h,nx,e1,fun t ht=>.inr (e2 t ht),fun t ht=>?_,fun j hj=>.inr (e4 j hj),fun j hj hk=>.inr (e5 j hj hk),I.head X.plan X.heads X.dlt hq,⟨J.env,J.heap.ext hb,J.below.trans (hb.mono J.heap.size),J.old,J.le,J.size,J.defers⟩,e6,e7,e8,⟨last,got,e9,fun x hx=>.inr (e10 x hx),e11⟩,?_⟩
  ·rintro (rfl|h)
   ·exact (X.plan.apart hi).2 (by rw [e1];exact List.mem_map.2 ⟨t,List.mem_append_right _ ht,rfl⟩)
   exact e3 t ht h
  ·rcases e12 with e12|⟨e12,e13⟩
   ·exact .inl fun j hj hk=>.inr (e12 j hj hk)
   exact .inr ⟨e12.ext hb,e13⟩
 unfold wpOpIn;simp only [ho];rcases hy with ⟨hw',rfl⟩|⟨hw',hrun⟩
 ·rw [hw,hw'];refine⟨fun _ _=>trivial,?_⟩;have:=hpast w (gF.refl _ _)
  rwa [gU (show gT undef=true from rfl)] at this
 rw [hw,hw',if_pos rfl];refine aAc (hrun w ?_ ?_) he hdef r _ Q hpast
 ·cases hk:lB o.op with
  |true=>simp only [mH,hk];exact aQ.none (by
   rcases S with S|⟨done,rest,a',ι,env,h,nx,_,_,_,_,_,_,J,_⟩
   ·exact Nat.le_trans X.heap.size S.below.size
   exact J.heap.size)
  |false =>
   simp only [mH,hk];rcases S with S|⟨done,rest,a',ι,env,h,nx,_,_,_,_,_,_,_,_,_,_,_,e12⟩
   ·exact (X.heap.sub X.sub).ext S.below
   ·rcases e12 with e12|e12
    ·exact absurd (e12 i' hi (by simp [l9,hget,hk])) hn
    exact e12.1
 intro hk;rcases S with S|⟨done,rest,a',ι,env,h,nx,_,_,_,_,e5,_⟩
 ·exact S.below
 exact absurd (e5 i' hi (by simp [l9,hget,hk])) hn
theorem S8 (X:Ctx P T C Y ops p B w0 ιb nxb tn ds ι0 nx0 h0 hJ a0 wS vals env1 K){i:Nat}(hi:i∈p.allocs)(hn:¬ L i)
  (S:IL T ops p tn ds ι0 a0 wS vals L a w) (r:Option Nat) (next:Act→World→Prop) (Q:Exit→Act→World→Prop)
  (hnext:∀ a w,IL T ops p tn ds ι0 a0 wS vals (GK L i) a w→next a w):wpOpIn (Fr r) 0 P ops Q i next a w:=by
 obtain⟨o,t,d,ti,ho,hop,hod,hd,hti⟩:=wI X.rest i hi;obtain⟨o2,ho2,hal⟩:=X.plan.allocs i hi;have hoo:ops[i]? = some o:=(by rw [dF] at ho;simpa using ho);rw [hoo] at ho2;injection ho2 with ho2;subst ho2;have hguard:o.guard=none:=by
  unfold MW at hal;split at hal
  ·rfl
  ·cases hal
 have hdi:bV ops.toList i=some d:=(by simp [bV,ho,hod]);obtain⟨a',bs,I,r1,r2,r3⟩:=S.on;have hnh:i∉p.head:=fun h=>(X.plan.apart h).1 hi;unfold wpOpIn;simp only [hoo];rw [if_pos (by simp [Region.wanted,hguard])];refine⟨fun _ _=>trivial,?_⟩;rw [semAt_eq (fun c e=>by rw [hop] at e;cases e)];have hz:=(X.tab t ti hti).zero w;have hrun:(execOp a.eval o).run P w=.ok (.value (.pointer (some ⟨w.heap.size,0,none⟩))) (w.alloc (.cells ti.zv.cells t)):=by
  simp [execOp,hop,Instr.alloc,hz,newVar,newRow]
 rw [hrun];refine hnext _ _ ?_;have hbl:=dK w (.cells ti.zv.cells t);have hbig:∀ j∈p.allocs,L j→bs j<w.heap.size:=fun j hj hjL=>by
  obtain⟨_,_,_,_,_,_,_,_,_,e5,_⟩:=r2 j hj hjL;exact (Array.getElem?_eq_some_iff.1 e5).1
 refine⟨fun t ht=>?_,S.below.trans (hbl.mono S.below.size),a'.put (some d) (.pointer (some ⟨w.heap.size,0,none⟩)),fun j=>if j=i then w.heap.size else bs j,?_,fun d2 h2=>?_,fun j hj hjL=>?_,fun j hj k hk hjL hkL e=>?_⟩
 ·rintro (rfl|h)
  ·exact X.plan.aKc hi ht
  exact S.noT t ht h
 ·have:=I.other X.plan X.heads hnh (.pointer (some ⟨w.heap.size,0,none⟩));rw [hdi] at this;rw [hod];exact this
 ·by_cases e:d2=d
  ·subst e;exact absurd hdi (h2 i hi (.inl rfl))
  rw [fW (fun e'=>e (Option.some.inj e').symm)];exact r1 d2 fun j hj hjL=>h2 j hj (.inr hjL)
 ·by_cases e:j=i
  ·subst e;simp only [if_true];exact⟨S.below.size,o,t,d,ti,ho,hop,hod,hti,(MapKept.heap_alloc w _).1,rC (by rw [I.size'];exact hd)⟩
  simp only [if_neg e];have hjL:=hjL.resolve_left e;obtain⟨hb1,o2,t2,d2,ti2,e1,e2,e3,e4,e5,e6⟩:=r2 j hj hjL;refine⟨hb1,o2,t2,d2,ti2,e1,e2,e3,e4,(hbl.block _ (hbig j hj hjL)).trans e5,?_⟩;rw [fW (fun e'=>e (X.plan.dsts j i d2 (X.plan.N6 j (gD.2 (.inr (.inl hj)))) (X.plan.N6 i (gD.2 (.inr (.inl hi)))) (by simp [bV,e1,e3]) (hdi.trans e')))];exact e6
 simp only at e;by_cases e1:j=i <;> by_cases e2:k=i
 ·rw [e1,e2]
 ·rw [if_pos e1,if_neg e2] at e;have:=hbig k hk (hkL.resolve_left e2);omega
 ·rw [if_neg e1,if_pos e2] at e;have:=hbig j hj (hjL.resolve_left e1);omega
 rw [if_neg e1,if_neg e2] at e;exact r3 j hj k hk (hjL.resolve_left e1) (hkL.resolve_left e2) e
end
section
variable {P:Program}{T:cQ}{C:VC}{Y:VY}{ops:Array Oper}{p:fB}
theorem PO {h:Heap}{nx:Nat}{t:TypeId}{x v:Value}{K:KE}{hJ:Heap}{ad:Addr}(hx:x=.pointer (some ad))(hn:look hJ ad.block=none)(hs:∀ k o,look hJ k=some o→look h k=some o)
  (hl:oH T h nx t x v K):oH T h nx t x v (fun v h' nx'=>K v h' nx'∧∀ k o,look hJ k=some o→look h' k=some o):=by
 subst hx;unfold oH at *;split at hl
 case h_2=>exact hl.elim
 rename_i k o heq;injection heq with heq;injection heq with heq;subst heq;simp only at hn ⊢;split at hl
 case h_2=>exact hl.elim
 rename_i ti g sz cs ht hk
 try rw [ht,hk]
 try simp only
 split at hl
 case h_2=>exact hl.elim
 rename_i hsz htup
 try rw [hsz,htup]
 try simp only
 obtain⟨hb,hK⟩:=aD.1 hl;refine aJ hb ⟨hK,fun j o' hj=>?_⟩;have hne:j≠k:=fun e=>(by rw [e,hn] at hj;cases hj);rw [kB _ _ hne];exact hs j o' hj
theorem MO {b:Bool}{X Y:Unit→Prop}(h:br b X Y)(hb:b=true):X ():=by subst hb;exact h
theorem GJ {b:Bool}{X Y:Unit→Prop}(h:br b X Y)(hb:b=false):Y ():=by subst hb;exact h
theorem YY {h:Heap}{sz:Nat}{x:Value}{G G':Nat→List Value→Prop}(hG:∀ m l,G m l→G' m l)(hl:I3 h sz x G):I3 h sz x G':=by
 unfold I3 at *;split at hl
 ·exact hG _ _ hl
 ·split at hl
  ·exact aJ (aD.1 hl).1 (hG _ _ (aD.1 hl).2)
  ·split at hl
   ·exact hG _ _ hl
   exact hl.elim
  ·split at hl
   ·exact hG _ _ hl
   exact hl.elim
  exact hl.elim
 exact hl.elim
theorem A0 {h:Heap}{nx:Nat}{t:TypeId}{n:Nat}{l:List (Nat × Value)}{K:KE}{hJ:Heap}(hf:∀ k o,look hJ k=some o→k<nx)(hs:∀ k o,look hJ k=some o→look h k=some o)
  (hl:eJ T h nx t n l K):eJ T h nx t n l (fun v h' nx'=>K v h' nx'∧∀ k o,look hJ k=some o→look h' k=some o):=by
 have key:∀ o',∀ k o,look hJ k=some o→look (cU h nx o') k=some o:=fun o' k o hk=>by
  have:=hf k o hk;rw [iV _ _ (by omega)];exact hs k o hk
 unfold eJ at *;split at hl
 case h_2=>exact hl.elim
 split at hl
 case h_2=>exact hl.elim
 split at hl
 case h_2=>exact hl.elim
 split at hl
 case h_2=>exact hl.elim
 first|exact⟨hl,key _⟩|(simp only [*];exact⟨hl,key _⟩)
theorem K4 {h:Heap}{nx:Nat}{st xt:TypeId}{s x:Value}{K:KE}{hJ:Heap}(hf:∀ k o,look hJ k=some o→k<nx)(hk:∀ ad n c,s=.slice (some ad) n c→look hJ ad.block=none)(hs:∀ k o,look hJ k=some o→look h k=some o)
  (hl:lN aF T h nx st xt s x K):lN aF T h nx st xt s x (fun v h' nx'=>K v h' nx'∧∀ k o,look hJ k=some o→look h' k=some o):=by
 have key:∀ o',∀ k o,look hJ k=some o→look (cU h nx o') k=some o:=fun o' k o hk=>by
  have:=hf k o hk;rw [iV _ _ (by omega)];exact hs k o hk
 have must_k:∀ {b:Bool} {v:Value} {h':Heap} {nx':Nat},(∀ k o,look hJ k=some o→look h' k=some o)→dT b (K v h' nx')→dT b (K v h' nx'∧∀ k o,look hJ k=some o→look h' k=some o):=fun hh hm=>aJ (aD.1 hm).1 ⟨(aD.1 hm).2,hh⟩;unfold lN at *;split at hl
 ·split at hl
  ·split at hl
   ·first|exact must_k (key _) hl|(simp only [*];exact must_k (key _) hl)
   exact hl.elim
  exact hl.elim
 ·split at hl
  ·exact hl.elim
  split at hl
  ·exact hl.elim
  refine YY (fun m src hG=>?_) hl;split at hG
  ·exact aD3 (fun hb=>⟨MO hG hb,hs⟩) (fun hb=>must_k (key _) (GJ hG hb))
  ·rename_i k o n c;have hkk:=hk _ _ _ rfl;simp only at hkk;have hne:∀ j o',look hJ j=some o'→j≠k:=fun j o' hj e=>(by rw [e,hkk] at hj;cases hj);split at hG
   ·split at hG
    ·exact aD3 (fun hb=>⟨MO hG hb,hs⟩) (fun hb=>must_k (key _) (GJ hG hb))
    exact hG.elim
   ·refine aD3 (fun hb=>must_k (fun j o' hj=>?_) (MO hG hb)) (fun hb=>must_k (fun j o' hj=>?_) (GJ hG hb))
    ·rw [kB _ _ (hne j o' hj)];exact hs j o' hj
    have:=hf j o' hj;rw [iV _ _ (by omega),dN,if_neg (hne j o' hj)];exact hs j o' hj
   exact hG.elim
  exact hG.elim
 exact hl.elim
theorem AA {l:List Oper}{loads:List Nat}:∀ {rest:List (Nat × Bool)} {last:Option Nat} {got:List Nat},qR l loads last got rest=true→∀ pre t c i c' post,rest=pre++(t,c)::(i,c')::post→t∈pF l i
 |[],_,_,_,pre,t,c,i,c',post,e=>by simp at e
 |(x,cx)::r,last,got,h,pre,t,c,i,c',post,e=>by
  simp only [qR,Bool.and_eq_true] at h;cases pre with
  |nil =>
   simp only [List.nil_append,List.cons.injEq,Prod.mk.injEq] at e;obtain⟨⟨rfl,rfl⟩,rfl⟩:=e;have h2:=h.2;simp only [qR,Bool.and_eq_true] at h2;exact dI.1 h2.1.1
  |cons q pre =>
   simp only [List.cons_append,List.cons.injEq] at e;obtain⟨rfl,rfl⟩:=e;exact AA h.2 pre t c i c' post rfl
theorem IC {l:List Oper}{loads:List Nat}{rest:List (Nat × Bool)}{last:Option Nat}{got:List Nat}(h:qR l loads last got rest=true){L:Nat→Prop}(hn:∀ t∈rest,¬ L t.1){i:Nat}(hi:i∈rest.map (·.1))(cl:∀ i,L i→∀ j∈cD l i,L j)(hr:∀ j∈cD l i,L j) :
  ∃ c r,rest=(i,c)::r:=by
 obtain⟨q,hq,rfl⟩:=List.mem_map.1 hi;obtain⟨i,c⟩:=q;obtain⟨pre,post,rfl⟩:=List.append_of_mem hq;rcases List.eq_nil_or_concat pre with rfl|⟨pre',⟨t,ct⟩,rfl⟩
 ·exact⟨c,post,rfl⟩
 have:=AA h pre' t ct i c post (by simp);exact absurd (nR cl hr t this) (hn (t,ct) (by simp))
variable {B:Nat}{w0:World}{ιb:Nat→Loc}{nxb tn:Nat}{ds:List Deferred}{ι0:Nat→Loc}{nx0:Nat}{h0 hJ:Heap}{a0:Act}{wS:World}{vals:List (Nat × Value)}{env1:List (Nat × Value)}{K:KS}{L:Nat→Prop}{a:Act}{w:World}
theorem ZC (X:Ctx P T C Y ops p B w0 ιb nxb tn ds ι0 nx0 h0 hJ a0 wS vals env1 K){i:Nat}(hi:i∈p.tail.map (·.1))(hn:¬ L i)(cl:∀ i,L i→∀ j∈cD ops.toList i,L j)(hr:∀ j∈cD ops.toList i,L j)
  (S:sS T C Y ops p B w0 ιb nxb tn ds ι0 nx0 hJ a0 vals K L a w) (r:Option Nat) (next:Act→World→Prop) (Q:Exit→Act→World→Prop)
  (hnext:∀ a w,sS T C Y ops p B w0 ιb nxb tn ds ι0 nx0 hJ a0 vals K (GK L i) a w→next a w):wpOpIn (Fr r) 0 P ops Q i next a w:=by
 obtain⟨done,rest,a',ι,env,h,nx,e1,e2,e3,e4,e5,I,J,e6,e7,e8,⟨last,got,e9,e10,e11⟩,e12⟩:=S;have hir:i∈rest.map (·.1):=by
  rw [e1,List.map_append] at hi;rcases List.mem_append.1 hi with h|h
  ·obtain⟨t,ht,rfl⟩:=List.mem_map.1 h;exact absurd (e2 t ht) hn
  exact h
 obtain⟨chk,rr,rfl⟩:=IC e9 e3 hir cl hr;have hnh:i∉p.head:=fun h=>(X.plan.apart h).2 hi;have hin:i<ops.size:=X.plan.N6 i (gD.2 (.inr (.inr hi)));simp only [xT] at e8;split at e8
 ·exact e8.elim
 rename_i o ho;have hoo:ops[i]? = some o:=(by rw [dF] at ho;simpa using ho);have hdst:bV ops.toList i=o.dst:=(by simp [bV,ho]);have hlook:pI ops i=o.looksAt ops:=(by simp [pI,ho]);have hpl:=X.plan.plain i hin;have hsel:∀ cs b,o.op≠.select cs b:=by
  intro cs b e;simp [l9,ho,e,rK] at hpl
 have hdef:∀ c,o.op≠.defer c:=by
  intro c e;simp [l9,ho,e,rK] at hpl
 have hsee:=I.aKO X.plan hnh hin hr;rw [hlook] at hsee;obtain⟨he,hw⟩:=zS hsel hsee;obtain⟨env1',he1,hcase⟩:=vB J.env e8;have hnodup:∀ t∈rr,t.1≠i:=by
  intro t ht e;have:=X.plan.nodup;unfold fB.order at this;rw [e1,List.map_append,List.nodup_append] at this;have h2:=this.2.1;rw [List.nodup_append] at h2;have:=h2.2.1;simp only [List.map_cons,List.nodup_cons] at this;exact this.1 (List.mem_map.2 ⟨t,ht,e⟩)
 have htail:=e9;simp only [qR,Bool.and_eq_true] at htail;obtain⟨⟨_,hloads⟩,htail⟩:=htail
 -- what is known rZ it
 have hpast:∀ v env2 h' nx' ι' w',kD aF T C Y tn ops.toList hJ rr env2 h' nx' K→c9 ι' nx' env2 (a'.put o.dst (tr ι' v))→aQ ι' B h' nx' w'→gF B w w'→(∀ k,k<nx→ι' k=ι k)→nx≤nx' →
   (chk=true→(∀ k o,look hJ k=some o→look h k=some o)→∀ k o,look hJ k=some o→look h' k=some o)→next (a.put o.dst (tr ι' v)) w':=by
  intro v env2 h' nx' ι' w' k1 k2 k3 k4 k5 k6 k7;refine hnext _ _ ?_;have hI:=I.other X.plan X.heads hnh (tr ι' v);rw [hdst] at hI;refine⟨done++[(i,chk)],rr,a'.put o.dst (tr ι' v),ι',env2,h',nx',by rw [e1];simp,fun t ht=>?_,fun t ht=>?_,fun j hj=>.inr (e4 j hj),fun j hj hk=>.inr (e5 j hj hk),hI,J.step k2 k3 k4 k5 k6 (by rw [qO];exact J.size) (put_defers _ _ _),fun k hk=>(k5 k (Nat.lt_of_lt_of_le hk e7)).trans (e6 k hk),Nat.le_trans e7 k6,k1,⟨some i,pF ops.toList i++got,htail,fun x hx=>?_,fun l=>?_⟩,?_⟩
  ·rcases List.mem_append.1 ht with ht|ht
   ·exact .inr (e2 t ht)
   simp at ht;subst ht;exact .inl rfl
  ·rintro (h|h)
   ·exact hnodup t ht h
   exact e3 t (by simp [ht]) h
  ·rcases List.mem_append.1 hx with hx|hx
   ·exact .inr (nR cl hr x hx)
   exact .inr (e10 x hx)
  ·constructor
   ·intro h;injection h with h;subst h;exact⟨done,chk,rfl⟩
   rintro ⟨d,c,hd⟩;have:=List.append_inj' hd rfl;simp at this;rw [this.2.1]
  ·cases chk with
   |false =>
    refine .inl fun j hj hk=>.inr ?_;simp only [Bool.false_or] at hloads;have:=uZ hloads j (List.mem_filter.2 ⟨hj,by simp [hk]⟩);rcases List.mem_append.1 this with h|h
    ·exact nR cl hr j h
    exact e10 j h
   |true =>
    rcases e12 with e12|⟨e12,e13⟩
    ·exact .inl fun j hj hk=>.inr (e12 j hj hk)
    have hs:=k7 rfl e13;exact .inr ⟨k3.back (X.heap.sub X.sub) hs (fun k hk=>(k5 k (Nat.lt_of_lt_of_le hk e7)).trans (e6 k hk)),hs⟩
 unfold wpOpIn;simp only [hoo];rcases hcase with ⟨hwa,hl⟩|⟨hwa,hl⟩
 ·rw [hw,hwa,if_pos rfl];obtain⟨has,hl1⟩:=aD.1 hl;clear hl
  -- the operation,with what it keeps
  have hl2:pD aF T C Y env1' h nx o.op (fun v h' nx'=>(dZ tn env1' o.dst v fun env'=>kD aF T C Y tn ops.toList hJ rr env' h' nx' K) ∧
    (chk=true→(∀ k o,look hJ k=some o→look h k=some o)→∀ k o,look hJ k=some o→look h' k=some o)):=by
   cases chk with
   |false =>
    have:(fun v h' nx'=>(dZ tn env1' o.dst v fun env'=>kD aF T C Y tn ops.toList hJ rr env' h' nx' K) ∧
      (false=true→(∀ k o,look hJ k=some o→look h k=some o)→∀ k o,look hJ k=some o→look h' k=some o))=(fun v h' nx'=>dZ tn env1' o.dst v fun env'=>kD aF T C Y tn ops.toList hJ rr env' h' nx' K):=by
     funext v h' nx';simp
    rw [this];exact hl1
   |true =>
    unfold yA at has;simp only at has;have hfr:∀ k o,look hJ k=some o→k<nx:=fun k o hk=>Nat.lt_of_lt_of_le ((X.heap.sub X.sub).low k o hk) e7;split at has
    case h_5=>cases has
    case h_3 =>
     rename_i t n ps hop;rw [hop] at hl1 ⊢;simp only [pD] at hl1 ⊢;split at hl1
     case h_2=>exact hl1.elim
     rename_i l hps;by_cases hs:∀ k o,look hJ k=some o→look h k=some o
     ·refine cast ?_ (A0 hfr hs hl1);congr 1;funext v h' nx';exact propext ⟨fun q=>⟨q.1,fun _ _=>q.2⟩,fun q=>⟨q.1,q.2 (by trivial) hs⟩⟩
     refine cast ?_ hl1;congr 1;funext v h' nx';exact propext ⟨fun q=>⟨q,fun _ h=>absurd h hs⟩,fun q=>q.1⟩
    case h_4 =>
     rename_i c hop;obtain⟨cal,cargs,cats⟩:=c;simp only at has;split at has
     case h_2=>cases has
     split at has
     case h_2=>cases has
     rename_i s x' hva;rw [hop] at hl1 ⊢;simp only [pD,hva] at hl1 ⊢;split at hl1
     case h_2=>exact hl1.elim
     rename_i st xt s1 x1 hat hsx;injection hsx with hsx;injection hsx with e1 hsx;injection hsx with e2;subst e1 e2;have hkk:∀ ad n c,s=.slice (some ad) n c→look hJ ad.block=none:=by
      rintro ad n c rfl;simp only at has;split at has
      ·assumption
      ·cases has
     by_cases hs:∀ k o,look hJ k=some o→look h k=some o
     ·refine cast ?_ (K4 hfr hkk hs hl1);congr 1;funext v h' nx';exact propext ⟨fun q=>⟨q.1,fun _ _=>q.2⟩,fun q=>⟨q.1,q.2 (by trivial) hs⟩⟩
     refine cast ?_ hl1;congr 1;funext v h' nx';exact propext ⟨fun q=>⟨q,fun _ h=>absurd h hs⟩,fun q=>q.1⟩
    case h_2 =>
     rename_i t x hop;rw [hop] at hl1 ⊢;simp only [pD] at hl1 ⊢;refine cast ?_ hl1;congr 1;funext v;exact propext ⟨fun q=>⟨q,fun _ h=>h⟩,fun q=>q.1⟩
    rename_i t x y hop;split at has
    case h_2=>cases has
    rename_i ad hx;split at has
    case h_2=>cases has
    rename_i hlk;rw [hop] at hl1 ⊢;simp only [pD] at hl1 ⊢;obtain⟨px,hpx,hl⟩:=c7 hl1;obtain⟨v,hv,hl⟩:=c7 hl;rw [hpx,hv];simp only [on];rw [hpx] at hx;injection hx with hx;by_cases hs:∀ k o,look hJ k=some o→look h k=some o
    ·have:=PO hx hlk hs hl;refine (?_:oH T h nx t px v _);refine cast ?_ this;congr 1;funext v h' nx';exact propext ⟨fun q=>⟨q.1,fun _ _=>q.2⟩,fun q=>⟨q.1,q.2 (by trivial) hs⟩⟩
    refine cast ?_ hl;congr 1;funext v h' nx';exact propext ⟨fun q=>⟨q,fun _ h=>absurd h hs⟩,fun q=>q.1⟩
  refine (SB X.tab X.calls X.yields he1 J.heap hl2).upon hdef he r next Q fun v h' nx' ι' w' k1 k2 k3 k4 k5 k6=>?_;obtain⟨env2,k7,k8,k9,k10⟩:=oU (he1.names k6 k5) J.size k1.1 k2;exact hpast v env2 h' nx' ι' w' k7 k8 k3 k4 k5 k6 k1.2
 rw [hw,hwa];refine⟨fun _ _=>trivial,?_⟩;obtain⟨env2,k7,k8,k9,k10⟩:=oU he1 J.size hl (v:=undef) (bU rfl);have:=hpast undef env2 h nx ι w k7 k8 J.heap (gF.refl _ _) (fun _ _=>rfl) (Nat.le_refl _) (fun _ hs=>hs)
 rwa [gU (show gT undef=true from rfl)] at this
end
section
variable {P:Program}{T:cQ}{C:VC}{Y:VY}{ops:Array Oper}{p:fB}
variable {B:Nat}{w0:World}{ιb:Nat→Loc}{nxb tn:Nat}{ds:List Deferred}{ι0:Nat→Loc}{nx0:Nat}{h0 hJ:Heap}{a0:Act}{wS:World}{vals:List (Nat × Value)}{env1:List (Nat × Value)}{K:KS}
def xE (listed:Array Bool)(i:Nat):Prop:=listed.getD i false=true
theorem xE.set {listed:Array Bool}{i:Nat}(hi:i<listed.size):xE (listed.setIfInBounds i true)=GK (xE listed) i:=by
 funext j;unfold xE GK;apply propext;by_cases h:j=i
 ·subst h;simp [hi]
 rw [getD_set_ne false (fun e=>h e.symm)];simp [h]
theorem nF {listed:Array Bool}(hs:listed.size=ops.size){i:Nat}:i∈Region.ready .any ops listed↔i<ops.size∧¬ xE listed i∧∀ j∈cD ops.toList i,xE listed j:=by
 rw [mem_ready];constructor
 ·rintro ⟨h1,o,ho,h2⟩;have hlt:=(Array.getElem?_eq_some_iff.1 ho).1;refine⟨hlt,?_,fun j hj=>?_⟩
  ·unfold xE;have hl:i<listed.size:=(by omega);simp [hl] at h1 ⊢;exact h1
  have:eL ops.toList i=some o:=(by rw [dF];simpa using ho);simp only [cD,this,gM,List.mem_filterMap] at hj;obtain⟨e,he,hj⟩:=hj;split at hj
  ·rename_i hb;injection hj with hj;subst hj;exact h2 e (by simpa using he) hb
  ·cases hj
 rintro ⟨hlt,h1,h2⟩;refine⟨?_,ops[i],by simp [hlt],fun e he hb=>?_⟩
 ·have hl:i<listed.size:=(by omega);unfold xE at h1;simp [hl] at h1 ⊢;exact h1
 refine h2 e.on ?_;have:eL ops.toList i=some ops[i]:=(by rw [dF];simp [hlt]);simp only [cD,this,gM,List.mem_filterMap];exact⟨e,by simpa using he,by rw [hb]⟩
def left (n:Nat)(listed:Array Bool):Nat:=((List.range n).filter fun i=>!listed.getD i false).length
theorem y5 {n:Nat}{listed:Array Bool}{i:Nat}(hi:i<n)(hs:listed.size=n)(hn:¬ xE listed i):left n (listed.setIfInBounds i true)<left n listed:=by
 unfold left;have:(List.range n).filter (fun j=>!(listed.setIfInBounds i true).getD j false)=((List.range n).filter fun j=>!listed.getD j false).filter (fun j=>decide (j≠i)):=by
  rw [List.filter_filter];apply List.filter_congr;intro j hj;by_cases h:j=i
  ·subst h;have hl:j<listed.size:=(by omega);simp [hl]
  rw [getD_set_ne false (fun e=>h e.symm)];simp [h]
 rw [this];refine Nat.lt_of_le_of_ne (List.length_filter_le _ _) fun e=>?_;have:=List.length_filter_eq_length_iff.1 e i (List.mem_filter.2 ⟨by simpa using hi,by unfold xE at hn;simpa using hn⟩);simp at this
theorem ND (hp:mJ ops p){listed:Array Bool}(hs:listed.size=ops.size)(h:Region.ready .any ops listed=[]):∀ i,i<ops.size→xE listed i:=by
 intro i
 induction i using Nat.strongRecOn with
 |_ i ih =>
  intro hi;refine Classical.byContradiction fun hn=>?_;have:i∈Region.ready .any ops listed:=(nF hs).2 ⟨hi,hn,fun j hj=>ih j (hp.lin i hi j hj) (by have:=hp.lin i hi j hj;omega)⟩;rw [h] at this;cases this
theorem Q9 (X:Ctx P T C Y ops p B w0 ιb nxb tn ds ι0 nx0 h0 hJ a0 wS vals env1 K){L:Nat→Prop}{a:Act}{w:World}(hall:∀ i,i<ops.size→L i)
  (S:IL T ops p tn ds ι0 a0 wS vals L a w∨sS T C Y ops p B w0 ιb nxb tn ds ι0 nx0 hJ a0 vals K L a w):∃ ι env h nx,K env h nx∧Inv B w0 ιb nxb tn ds ι env h nx a w:=by
 have hin:∀ i∈p.order,L i:=fun i hi=>hall i (X.plan.N6 i hi);have S:sS T C Y ops p B w0 ιb nxb tn ds ι0 nx0 hJ a0 vals K L a w:=by
  rcases S with S|S
  ·exact S.post X (fun i hi=>hin i (gD.2 (.inr (.inl hi)))) (fun i hi _=>hin i (gD.2 (.inl hi)))
  exact S
 obtain⟨done,rest,a',ι,env,h,nx,e1,e2,e3,e4,e5,I,J,e6,e7,e8,_,_⟩:=S;cases rest with
 |cons t r=>exact absurd (hin t.1 (gD.2 (.inr (.inr (List.mem_map.2 ⟨t,by rw [e1];simp,rfl⟩))))) (e3 t (by simp))
 |nil =>
  exact⟨ι,env,h,nx,e8,J.env.congr (fun d=>(I.q2 d fun i hi _=>hin i (gD.2 (.inl hi))).symm),J.heap,J.below,J.old,J.le,I.size,I.defers⟩
theorem UQ (X:Ctx P T C Y ops p B w0 ιb nxb tn ds ι0 nx0 h0 hJ a0 wS vals env1 K)(r:Option Nat){Q:Exit→Act→World→Prop}
  (hQ:∀ ι env h nx a w,K env h nx→Inv B w0 ιb nxb tn ds ι env h nx a w→Q .normal a w):∀ (fuel:Nat) (listed:Array Bool) (a:Act) (w:World),listed.size=ops.size→left ops.size listed≤fuel →
  (∀ i,xE listed i→∀ j∈cD ops.toList i,xE listed j) →
  (IL T ops p tn ds ι0 a0 wS vals (xE listed) a w∨sS T C Y ops p B w0 ιb nxb tn ds ι0 nx0 hJ a0 vals K (xE listed) a w)→wpAnyIn (Fr r) 0 P .any ops Q fuel listed a w:=by
 have fin:∀ (listed:Array Bool) (a:Act) (w:World),listed.size=ops.size→Region.ready .any ops listed=[] →
   (IL T ops p tn ds ι0 a0 wS vals (xE listed) a w∨sS T C Y ops p B w0 ιb nxb tn ds ι0 nx0 hJ a0 vals K (xE listed) a w)→Q .normal a w:=by
  intro listed a w hs hr S;obtain⟨ι,env,h,nx,h1,h2⟩:=Q9 X (ND X.plan hs hr) S;exact hQ ι env h nx a w h1 h2
 intro fuel
 induction fuel with
 |zero =>
  intro listed a w hs hl cl S;have hr:Region.ready .any ops listed=[]:=by
   refine List.eq_nil_iff_forall_not_mem.2 fun i hi=>?_;obtain⟨h1,h2,_⟩:=(nF hs).1 hi;have:=y5 h1 hs h2;omega
  exact⟨hr,fin listed a w hs hr S⟩
 |succ fuel ih =>
  intro listed a w hs hl cl S;refine⟨fun hr=>fin listed a w hs hr S,fun i hi=>?_⟩;obtain⟨h1,h2,h3⟩:=(nF hs).1 hi;have hL:∀ i,xE listed i→i<ops.size:=by
   intro j hj;unfold xE at hj;by_cases h:j<listed.size
   ·omega
   simp [h] at hj
  have next:∀ a w,(IL T ops p tn ds ι0 a0 wS vals (GK (xE listed) i) a w∨sS T C Y ops p B w0 ιb nxb tn ds ι0 nx0 hJ a0 vals K (GK (xE listed) i) a w) →
    wpAnyIn (Fr r) 0 P .any ops Q fuel (listed.setIfInBounds i true) a w:=by
   intro a w S';have hset:=xE.set (listed:=listed) (i:=i) (by omega);refine ih _ a w (by simp [hs]) (by have:=y5 h1 hs h2;omega) ?_ (by rw [hset];exact S');rw [hset];rintro j (rfl|hj) k hk
   ·exact .inr (h3 k hk)
   exact .inr (cl j hj k hk)
  rcases gD.1 (X.plan.cover i h1) with h|h|h
  ·exact ZQ X cl hL h h2 h3 S r _ Q next
  ·rcases S with S|S
   ·exact S8 X h h2 S r _ Q fun a w s=>next a w (.inl s)
   obtain⟨_,_,_,_,_,_,_,_,_,_,e4,_⟩:=S;exact absurd (e4 i h) h2
  have S:sS T C Y ops p B w0 ιb nxb tn ds ι0 nx0 hJ a0 vals K (xE listed) a w:=by
   rcases S with S|S
   ·have hfirst:=IC X.plan.tailP (L:=xE listed) (fun t ht=>S.noT _ (List.mem_map.2 ⟨t,ht,rfl⟩)) h cl h3;obtain⟨c,rr,hrr⟩:=hfirst;obtain⟨f1,f2⟩:=X.plan.first i c rr hrr;exact S.post X (fun j hj=>nR cl h3 j (f1 j hj)) (fun j hj hk=>nR cl h3 j (f2 j hj hk))
   exact S
  exact ZC X h h2 cl h3 S r _ Q fun a w s=>next a w (.inr s)
theorem S6 (hT:cL P T)(hC:bC P C)(hY:eO P Y)(hD:dS C)(hm:P.follows .mixedOrders=true)(hp:mJ ops p){ι:Nat→Loc}{env:List (Nat × Value)}{h:Heap}{nx:Nat}{a:Act}{w:World}(I:Inv B w0 ιb nxb tn ds ι env h nx a w)
  (hl:oV aF T C Y tn ops.toList p env h nx K) (r:Option Nat) {id:Nat} {Q:Exit→Act→World→Prop} (hQ:∀ ι env h nx a w,K env h nx→Inv B w0 ιb nxb tn ds ι env h nx a w→Q .normal a w) :
  (Code.region id ops true).wpIn (Fr r) 0 P Q a w:=by
 refine wpIn_region_any hm ?_;unfold oV at hl;have H:=I.heap.drawn (w.drawn+1);have hb:gF B w { w with drawn:=w.drawn+1 }:=⟨rfl,rfl,rfl,Nat.le_refl _,fun _ _=>rfl,Nat.le_succ _⟩;have hsub:∀ k o,look (JH T ops.toList env p h) k=some o→look h k=some o:=fun k o hk=>aBw k o hk;obtain⟨vals,env1,ι,nx,k1,hi,hn,k2,k3,k4,k5⟩:=PV hT hC hD hp.plain p.head env a ι nx (H.sub hsub) hl I.env I.size;have X:Ctx P T C Y ops p B w0 ιb nxb tn ds ι nx h (JH T ops.toList env p h) a { w with drawn:=w.drawn+1 } vals env1 K :=
  ⟨hT,hC,hY,hp,fun k hk=>(hi k (Nat.lt_of_lt_of_le hk I.le)).trans (I.old k hk),Nat.le_trans I.le hn,I.size,I.defers,H.wide hi hn,I.below.trans hb,hsub,k2,k3,k4,k5,k1⟩
 have hno:∀ i,¬ xE (Array.replicate ops.size false) i:=by
  intro i;unfold xE;by_cases h:i<ops.size <;> simp [h]
 refine UQ X r hQ ops.size _ a _ (by simp) ?_ (fun i hi=>absurd hi (hno i)) (.inl ?_)
 ·unfold left;exact Nat.le_trans (List.length_filter_le _ _) (by simp)
 refine⟨fun t _=>hno t,gF.refl _ _,jF ops ι vals a,fun _=>0,?_,fun d _=>rfl,fun i _ hi=>absurd hi (hno i),fun i _ j _ hi=>absurd hi (hno i)⟩;have hmem:∀ i v,(i,v)∈vals→i∈p.head:=fun i v h=>(by rw [← k2];exact List.mem_map.2 ⟨_,h,rfl⟩);have hnd:(vals.map (·.1)).Nodup:=by
  have:=hp.nodup;unfold fB.order at this;rw [List.append_assoc,List.nodup_append] at this;rw [k2];exact this.1
 refine⟨I.size,by rw [sF];exact I.size,I.defers,by rw [wG];exact I.defers,fun i v d hi hd=>?_,fun d hd=>?_,fun d hd=>?_,fun i d _ _ _=>rfl⟩
 ·exact s8 vals a (by rw [I.size];exact k4 _ hi d hd) hi hd (fun q hq h2=>hp.dsts _ _ d (mG h2) (mG hd) h2 hd) hnd
 ·rw [j6];intro q hq hqd;exact hno q.1 (hd q.1 (hmem q.1 q.2 hq) hqd)
 rw [j6];intro q hq;exact hd q.1 (.inl (hmem q.1 q.2 hq))
end
def vG {α:Type}(E:(α→Prop)→Prop):Prop:=∀ K,E K→∃ x,K x∧∀ K':α→Prop,K' x→E K'
def fE (E:KE→Prop):Prop:=∀ K:KE,E K→∃ v h nx,K v h nx∧∀ K':KE,K' v h nx→E K'
def lL (E:KS→Prop):Prop:=∀ K:KS,E K→∃ e h nx,K e h nx∧∀ K':KS,K' e h nx→E K'
theorem aIe {b:Bool}{A B:Unit→Prop}:br b A B↔((b=true∧A ())∨(b=false∧B ())):=by
 cases b <;> simp [br]
variable {A:Ar}{T:cQ}{h:Heap}{nx:Nat}
theorem jG {α:Type}{x:Option Value}{F:Value→(α→Prop)→Prop}(hF:∀ v,vG (F v)):vG (fun K=>on x (fun v=>F v K)):=by
 intro K hl;cases x with
 |none=>exact hl.elim
 |some v=>exact hF v K hl
theorem jA {x:Option Value}{F:Value→KE→Prop}(hF:∀ v,fE (F v)):fE (fun K=>on x (fun v=>F v K)):=by
 intro K hl;cases x with
 |none=>exact hl.elim
 |some v=>exact hF v K hl
theorem uM {x:Option Value}:vG (on x):=by
 intro K hl;cases x with
 |none=>exact hl.elim
 |some v=>exact⟨v,hl,fun K' h=>h⟩
theorem KR {t:TypeId}{x:Value}:vG (sR T h t x):=by
 intro K hl;unfold sR at *
 repeat' (split at hl)
 all_goals first|(exact hl.elim)|(exact⟨_,hl,fun K' h=>h⟩)|(exact⟨_,_,_,hl,fun K' h=>h⟩)|(obtain⟨hb,hl⟩:=aD.1 hl;exact⟨_,hl,fun K' h=>aJ hb h⟩)|(obtain⟨hb,hl⟩:=aD.1 hl;exact⟨_,_,_,hl,fun K' h=>aJ hb h⟩)
theorem GR {t:TypeId}{x:Value}{f:Nat}:vG (gY T t x f):=by
 intro K hl;unfold gY at *
 repeat' (split at hl)
 all_goals first|(exact hl.elim)|(exact⟨_,hl,fun K' h=>h⟩)|(exact⟨_,_,_,hl,fun K' h=>h⟩)|(obtain⟨hb,hl⟩:=aD.1 hl;exact⟨_,hl,fun K' h=>aJ hb h⟩)|(obtain⟨hb,hl⟩:=aD.1 hl;exact⟨_,_,_,hl,fun K' h=>aJ hb h⟩)
theorem RH {α:Type}{b:Bool}{E:(α→Prop)→Prop}(h:vG E):vG (fun K=>dT b (E K)):=by
 intro K hl;obtain⟨hb,hl⟩:=aD.1 hl;obtain⟨x,h1,h2⟩:=h K hl;exact⟨x,h1,fun K' hk=>aJ hb (h2 K' hk)⟩
theorem fP {b:Bool}{E:KE→Prop}(h:fE E):fE (fun K=>dT b (E K)):=by
 intro K hl;obtain⟨hb,hl⟩:=aD.1 hl;obtain⟨x,y,z,h1,h2⟩:=h K hl;exact⟨x,y,z,h1,fun K' hk=>aJ hb (h2 K' hk)⟩
theorem zH {α:Type}{x:α}:vG (fun K:α→Prop=>K x):=fun K hl=>⟨x,hl,fun K' h=>h⟩
theorem cO {v:Value}{h:Heap}{nx:Nat}:fE (fun K=>K v h nx):=fun K hl=>⟨v,h,nx,hl,fun K' h=>h⟩
theorem aA4 {α:Type}:vG (fun _:α→Prop=>False):=fun K hl=>hl.elim
theorem fH:fE (fun _=>False):=fun K hl=>hl.elim
theorem aK1 {α:Type}{b:Bool}{E F:(α→Prop)→Prop}(hE:vG E)(hF:vG F):vG (fun K=>br b (fun _=>E K) (fun _=>F K)):=by
 intro K hl;cases b
 ·exact hF K hl
 exact hE K hl
theorem y6 {b:Bool}{E F:KE→Prop}(hE:fE E)(hF:fE F):fE (fun K=>br b (fun _=>E K) (fun _=>F K)):=by
 intro K hl;cases b
 ·exact hF K hl
 exact hE K hl
theorem G6 {t:TypeId}{x i:Value}:vG (iR A T t x i):=by
 intro K hl;unfold iR at *
 repeat' (split at hl)
 all_goals first|(exact hl.elim)|(exact⟨_,hl,fun K' h=>h⟩)|(exact⟨_,_,_,hl,fun K' h=>h⟩)|(obtain⟨hb,hl⟩:=aD.1 hl;exact⟨_,hl,fun K' h=>aJ hb h⟩)|(obtain⟨hb,hl⟩:=aD.1 hl;exact⟨_,_,_,hl,fun K' h=>aJ hb h⟩)
theorem aCg {op:BinOp}{k:IntKind}{a b:Int}:vG (Y0 A op k a b):=by
 intro K hl;unfold Y0 at *
 repeat' (split at hl)
 all_goals first|(exact hl.elim)|(exact⟨_,hl,fun K' h=>h⟩)|(exact⟨_,_,_,hl,fun K' h=>h⟩)|(obtain⟨hb,hl⟩:=aD.1 hl;exact⟨_,hl,fun K' h=>aJ hb h⟩)|(obtain⟨hb,hl⟩:=aD.1 hl;exact⟨_,_,_,hl,fun K' h=>aJ hb h⟩)
theorem J6 {t:TypeId}{cs:List Value}{o:Nat}:vG (CN T t cs o):=by
 intro K hl;unfold CN at *
 repeat' (split at hl)
 all_goals first|(exact hl.elim)|(exact⟨_,hl,fun K' h=>h⟩)|(exact⟨_,_,_,hl,fun K' h=>h⟩)|(obtain⟨hb,hl⟩:=aD.1 hl;exact⟨_,hl,fun K' h=>aJ hb h⟩)|(obtain⟨hb,hl⟩:=aD.1 hl;exact⟨_,_,_,hl,fun K' h=>aJ hb h⟩)
theorem UB {t:TypeId}{x:Value}{f:Nat}:vG (sW T t x f):=by
 intro K hl;unfold sW at *
 repeat' (split at hl)
 all_goals first|(exact J6 K hl)|(exact hl.elim)|(exact⟨_,hl,fun K' h=>h⟩)|(exact⟨_,_,_,hl,fun K' h=>h⟩)|(obtain⟨hb,hl⟩:=aD.1 hl;exact⟨_,hl,fun K' h=>aJ hb h⟩)|(obtain⟨hb,hl⟩:=aD.1 hl;exact⟨_,_,_,hl,fun K' h=>aJ hb h⟩)
theorem UM {t:TypeId}{x i:Value}:vG (sT A T t x i):=by
 intro K hl;unfold sT at *
 repeat' (split at hl)
 all_goals first|(exact RH J6 K hl)|(exact hl.elim)|(exact⟨_,hl,fun K' h=>h⟩)|(exact⟨_,_,_,hl,fun K' h=>h⟩)|(obtain⟨hb,hl⟩:=aD.1 hl;exact⟨_,hl,fun K' h=>aJ hb h⟩)|(obtain⟨hb,hl⟩:=aD.1 hl;exact⟨_,_,_,hl,fun K' h=>aJ hb h⟩)
theorem aB9 {op:BinOp}{t:TypeId}{x y:Value}:vG (RX A T op t x y):=by
 intro K hl;unfold RX at *
 repeat' (split at hl)
 all_goals first|(exact hl.elim)|(exact⟨_,hl,fun K' h=>h⟩)|(exact⟨_,_,_,hl,fun K' h=>h⟩)|(obtain⟨hb,hl⟩:=aD.1 hl;exact⟨_,hl,fun K' h=>aJ hb h⟩)|(obtain⟨hb,hl⟩:=aD.1 hl;exact⟨_,_,_,hl,fun K' h=>aJ hb h⟩)|(exact aCg K hl)
theorem aGv {op:UnOp}{x:Value}:vG (vun A op x):=by
 intro K hl;unfold vun at *
 repeat' (split at hl)
 all_goals first|(exact hl.elim)|(exact⟨_,hl,fun K' h=>h⟩)|(exact⟨_,_,_,hl,fun K' h=>h⟩)|(obtain⟨hb,hl⟩:=aD.1 hl;exact⟨_,hl,fun K' h=>aJ hb h⟩)|(obtain⟨hb,hl⟩:=aD.1 hl;exact⟨_,_,_,hl,fun K' h=>aJ hb h⟩)
theorem TQ {t:TypeId}{ps:List (Nat × Value)}:vG (xB T t ps):=by
 intro K hl;unfold xB at *
 repeat' (split at hl)
 all_goals first|(exact hl.elim)|(exact⟨_,hl,fun K' h=>h⟩)|(exact⟨_,_,_,hl,fun K' h=>h⟩)|(obtain⟨hb,hl⟩:=aD.1 hl;exact⟨_,hl,fun K' h=>aJ hb h⟩)|(obtain⟨hb,hl⟩:=aD.1 hl;exact⟨_,_,_,hl,fun K' h=>aJ hb h⟩)
theorem MC {b:Builtin}{ts:Array TypeId}{vs:List Value}:vG (nM A T b ts vs):=by
 intro K hl;unfold nM at *
 repeat' (split at hl)
 all_goals first|(exact hl.elim)|(exact⟨_,hl,fun K' h=>h⟩)|(exact⟨_,_,_,hl,fun K' h=>h⟩)|(obtain⟨hb,hl⟩:=aD.1 hl;exact⟨_,hl,fun K' h=>aJ hb h⟩)|(obtain⟨hb,hl⟩:=aD.1 hl;exact⟨_,_,_,hl,fun K' h=>aJ hb h⟩)|(exact uM K hl)
theorem aCB {op:BinOp}{t:TypeId}{x:Value}:vG (R7 T h op t x):=by
 intro K hl;unfold R7 at *
 repeat' (split at hl)
 all_goals first|(exact hl.elim)|(exact⟨_,hl,fun K' h=>h⟩)
theorem JY {env:List (Nat × Value)}{op:Op}:vG (jC A T env h op):=by
 show vG (fun K=>jC A T env h op K);cases op <;> simp only [jC]
 case move x=>exact uM
 case assign x=>exact uM
 case pick c a b =>
  refine jG fun u=>?_;intro K hl;split at hl
  ·exact aK1 uM uM K hl
  exact hl.elim
 case nilCheck x =>
  refine jG fun u=>?_;intro K hl;split at hl
  all_goals first|(exact hl.elim)|(exact⟨_,hl,fun K' h=>h⟩)
 case load t x=>exact jG fun u=>KR
 case fieldAddr s x f=>exact jG fun u=>GR
 case field s x f=>exact jG fun u=>UB
 case indexAddr t x i=>exact jG fun u=>jG fun j=>G6
 case index t x i=>exact jG fun u=>jG fun j=>UM
 case binOp op t x y yt =>
  refine jG fun u=>jG fun v=>?_;intro K hl;split at hl
  ·exact aCB K hl
  exact aB9 K hl
 case unOp op t x=>exact jG fun u=>aGv
 case convert s d x =>
  refine jG fun u=>?_;intro K hl;split at hl
  ·exact RH zH K hl
  exact hl.elim
 case makeFunc fn first cap =>
  intro K hl
  repeat' (split at hl)
  all_goals first|(exact hl.elim)|(exact⟨_,hl,fun K' h=>h⟩)
 case extract x i =>
  refine jG fun u=>?_;intro K hl;split at hl
  ·exact uM K hl
  exact hl.elim
 case build t ps =>
  intro K hl;split at hl
  ·exact TQ K hl
  exact hl.elim
 case call c =>
  intro K hl;split at hl
  ·split at hl
   ·exact MC K hl
   exact hl.elim
  exact hl.elim
 all_goals exact aA4
theorem UW {E:(Value→Prop)→Prop}(hE:vG E):fE (fun K=>E (fun v=>K v h nx)):=by
 intro K hl;obtain⟨v,h1,h2⟩:=hE _ hl;exact⟨v,h,nx,h1,fun K' hk=>h2 _ hk⟩
theorem UR {t:TypeId}{x v:Value}:fE (oH T h nx t x v):=by
 intro K hl;unfold oH at *
 repeat' (split at hl)
 all_goals first|(exact hl.elim)|(exact⟨_,hl,fun K' h=>h⟩)|(exact⟨_,_,_,hl,fun K' h=>h⟩)|(obtain⟨hb,hl⟩:=aD.1 hl;exact⟨_,hl,fun K' h=>aJ hb h⟩)|(obtain⟨hb,hl⟩:=aD.1 hl;exact⟨_,_,_,hl,fun K' h=>aJ hb h⟩)
theorem TT {t:TypeId}:fE (xL T h nx t):=by
 intro K hl;unfold xL at *
 repeat' (split at hl)
 all_goals first|(exact hl.elim)|(exact⟨_,hl,fun K' h=>h⟩)|(exact⟨_,_,_,hl,fun K' h=>h⟩)|(obtain⟨hb,hl⟩:=aD.1 hl;exact⟨_,hl,fun K' h=>aJ hb h⟩)|(obtain⟨hb,hl⟩:=aD.1 hl;exact⟨_,_,_,hl,fun K' h=>aJ hb h⟩)
theorem aDr {v:Value}:fE (RS h nx v):=by
 intro K hl;unfold RS at *
 repeat' (split at hl)
 all_goals first|(exact hl.elim)|(exact⟨_,hl,fun K' h=>h⟩)|(exact⟨_,_,_,hl,fun K' h=>h⟩)|(obtain⟨hb,hl⟩:=aD.1 hl;exact⟨_,hl,fun K' h=>aJ hb h⟩)|(obtain⟨hb,hl⟩:=aD.1 hl;exact⟨_,_,_,hl,fun K' h=>aJ hb h⟩)
theorem DJ {t:TypeId}{n:Nat}{ps:List (Nat × Value)}:fE (eJ T h nx t n ps):=by
 intro K hl;unfold eJ at *
 repeat' (split at hl)
 all_goals first|(exact hl.elim)|(exact⟨_,hl,fun K' h=>h⟩)|(exact⟨_,_,_,hl,fun K' h=>h⟩)|(obtain⟨hb,hl⟩:=aD.1 hl;exact⟨_,hl,fun K' h=>aJ hb h⟩)|(obtain⟨hb,hl⟩:=aD.1 hl;exact⟨_,_,_,hl,fun K' h=>aJ hb h⟩)
theorem S3 {t:TypeId}{x:Value}:fE (wW T h nx t x):=by
 intro K hl;unfold wW at *
 repeat' (split at hl)
 all_goals first|(exact hl.elim)|(exact⟨_,hl,fun K' h=>h⟩)|(exact⟨_,_,_,hl,fun K' h=>h⟩)|(obtain⟨hb,hl⟩:=aD.1 hl;exact⟨_,hl,fun K' h=>aJ hb h⟩)|(obtain⟨hb,hl⟩:=aD.1 hl;exact⟨_,_,_,hl,fun K' h=>aJ hb h⟩)
theorem EN {t:TypeId}{x k v:Value}:fE (jY A T h nx t x k v):=by
 intro K hl;unfold jY at *
 repeat' (split at hl)
 all_goals first|(exact hl.elim)|(exact⟨_,hl,fun K' h=>h⟩)|(exact⟨_,_,_,hl,fun K' h=>h⟩)|(obtain⟨hb,hl⟩:=aD.1 hl;exact⟨_,hl,fun K' h=>aJ hb h⟩)|(obtain⟨hb,hl⟩:=aD.1 hl;exact⟨_,_,_,hl,fun K' h=>aJ hb h⟩)
theorem B7 {t:TypeId}{x k:Value}{ok:Bool}:vG (oY A T h t x k ok):=by
 intro K hl;unfold oY at *
 repeat' (split at hl)
 all_goals first|(exact hl.elim)|(exact⟨_,hl,fun K' h=>h⟩)|(exact⟨_,_,_,hl,fun K' h=>h⟩)|(obtain⟨hb,hl⟩:=aD.1 hl;exact⟨_,hl,fun K' h=>aJ hb h⟩)|(obtain⟨hb,hl⟩:=aD.1 hl;exact⟨_,_,_,hl,fun K' h=>aJ hb h⟩)
theorem aCN {n c:Nat}{hi:Option Value}{G:Nat→KE→Prop}(hG:∀ m,fE (G m)):fE (fun K=>vhi A n c hi fun m=>G m K):=by
 intro K hl;unfold vhi at *;split at hl
 ·exact hG _ K hl
 ·exact fP (hG _) K hl
 exact hl.elim
theorem FX {t:TypeId}{x:Value}{lo hi mx:Option Value}:fE (sY A T h nx t x lo hi mx):=by
 intro K hl;unfold sY at *;split at hl
 case h_2=>exact hl.elim
 split at hl
 ·exact hl.elim
 split at hl
 ·split at hl
  ·exact cO K hl
  exact hl.elim
 ·refine aCN (fun m=>?_) K hl;intro K hl;split at hl
  ·exact cO K hl
  ·refine fP ?_ K hl;intro K hl;split at hl
   ·exact y6 cO cO K hl
   exact hl.elim
  exact hl.elim
 ·split at hl
  ·exact cO K hl
  exact hl.elim
 ·split at hl
  ·exact fP cO K hl
  ·exact fP cO K hl
  exact hl.elim
 exact hl.elim
theorem ZZ {sz:Nat}{x:Value}{G:Nat→List Value→KE→Prop}(hG:∀ m l,fE (G m l)):fE (fun K=>I3 h sz x fun m l=>G m l K):=by
 intro K hl;unfold I3 at *;split at hl
 ·exact hG _ _ K hl
 ·split at hl
  ·exact fP (hG _ _) K hl
  ·split at hl
   ·exact hG _ _ K hl
   exact hl.elim
  ·split at hl
   ·exact hG _ _ K hl
   exact hl.elim
  exact hl.elim
 exact hl.elim
theorem FA {t:TypeId}{l c:Value}:fE (jZ A T h nx t l c):=by
 intro K hl;unfold jZ at *;split at hl
 case h_2=>exact hl.elim
 split at hl
 case h_2=>exact hl.elim
 exact fP cO K hl
theorem RA {st xt:TypeId}{s x:Value}:fE (lN A T h nx st xt s x):=by
 intro K hl;unfold lN at *;split at hl
 case h_3=>exact hl.elim
 case h_1 =>
  split at hl
  case h_2=>exact hl.elim
  split at hl
  case h_2=>exact hl.elim
  exact fP cO K hl
 split at hl
 ·exact hl.elim
 split at hl
 ·exact hl.elim
 refine ZZ (fun m l=>?_) K hl;intro K hl;split at hl
 ·exact y6 cO (fP cO) K hl
 ·split at hl
  ·split at hl
   ·exact y6 cO (fP cO) K hl
   exact hl.elim
  ·exact y6 (fP cO) (fP cO) K hl
  exact hl.elim
 exact hl.elim
end Go.Aw
end
