/-
  Parts of a proof. No condition.
-/
import Derived.Test.YtmkcjbpekejgdaaGreatQAh
import Derived.Test.YtmkcjbpekejgdaaGreatQAi
import Derived.RangeFuncLeaves
set_option linter.unusedSimpArgs false
set_option linter.unusedVariables false
noncomputable section
namespace Go.Aw
open Go.RowKit
def vstep (A:Ar)(T:Tab)(C:VC)(Y:VY)(tn:Nat)(ops:List Oper)(o:Oper)(e:List (Nat × Value))(h:Heap)(nx:Nat)(K:KS):Prop :=
 vguard A ops e o.guard (fun e=>vop A T C Y e h nx o.op fun v h' nx'=>vput tn e o.dst v fun e'=>K e' h' nx') (fun e=>vput tn e o.dst undef fun e'=>K e' h nx)
def allM (l:List Nat):List Nat→Bool
 |[]=>true
 |j::r=>match memB j l with|true=>allM l r|false=>false
theorem allM_iff {l m:List Nat}:allM l m=true↔∀ j∈m,j∈l:=by
 induction m with
 |nil=>simp [allM]
 |cons x r ih =>
  simp only [allM]
  split
  ·rename_i h
   rw [ih]
   constructor
   ·intro h2 j hj
    rcases List.mem_cons.1 hj with rfl|hj
    ·exact memB_iff.1 h
    ·exact h2 j hj
   ·exact fun h2 j hj=>h2 j (.tail _ hj)
  ·rename_i h
   constructor
   ·intro h2;cases h2
   ·intro h2
    rw [memB_iff.2 (h2 x (.head _))] at h
    cases h
def readyL (all:List Oper)(done:List Nat):List Oper→Nat→List Nat
 |[],_=>[]
 |o::r,i=>match memB i done with
  |true=>readyL all done r (i+1)
  |false=>(match allM done (predsOf o) with|true=>i::readyL all done r (i+1)|false=>readyL all done r (i+1))
theorem readyL_mem {all:List Oper}{done:List Nat}:∀ {l:List Oper} {i k:Nat},k∈readyL all done l i↔∃ j o,k=i+j∧getL l j=some o∧k∉done∧∀ x∈predsOf o,x∈done:=by
 intro l
 induction l with
 |nil =>
  intro i k
  constructor
  ·intro h;cases h
  ·rintro ⟨j,o,_,h,_⟩
   rw [getL_eq] at h
   simp at h
 |cons p r ih =>
  intro i k
  have shift:(∃ j o,k=i+1+j∧getL r j=some o∧k∉done∧∀ x∈predsOf o,x∈done)→∃ j o,k=i+j∧getL (p::r) j=some o∧k∉done∧∀ x∈predsOf o,x∈done:=by
   rintro ⟨j,o,h1,h2,h3⟩
   refine⟨j+1,o,by omega,?_,h3⟩
   rw [getL_eq] at h2 ⊢
   simpa using h2
  have back:(∃ j o,k=i+j∧getL (p::r) j=some o∧k∉done∧∀ x∈predsOf o,x∈done)→(k=i∧i∉done∧∀ x∈predsOf p,x∈done)∨∃ j o,k=i+1+j∧getL r j=some o∧k∉done∧∀ x∈predsOf o,x∈done:=by
   rintro ⟨j,o,h1,h2,h3⟩
   cases j with
   |zero =>
    rw [getL_eq] at h2
    simp at h2
    subst h2
    exact .inl ⟨by omega,by rw [show i=k by omega];exact h3.1,h3.2⟩
   |succ j =>
    refine .inr ⟨j,o,by omega,?_,h3⟩
    rw [getL_eq] at h2 ⊢
    simpa using h2
  simp only [readyL]
  split
  ·rename_i hm
   rw [ih]
   refine⟨shift,fun h=>?_⟩
   rcases back h with ⟨_,hn,_⟩|h
   ·exact absurd (memB_iff.1 hm) hn
   ·exact h
  ·rename_i hm
   have hn:i∉done:=fun h=>by rw [memB_iff.2 h] at hm;cases hm
   split
   ·rename_i ha
    rw [List.mem_cons,ih]
    constructor
    ·rintro (rfl|h)
     ·exact⟨0,p,rfl,by rw [getL_eq];rfl,hn,allM_iff.1 ha⟩
     ·exact shift h
    ·intro h
     rcases back h with ⟨h,_⟩|h
     ·exact .inl h
     ·exact .inr h
   ·rename_i ha
    rw [ih]
    refine⟨shift,fun h=>?_⟩
    rcases back h with ⟨_,_,h⟩|h
    ·rw [allM_iff.2 h] at ha;cases ha
    ·exact h
def vall (F:Nat→Prop):List Nat→Prop
 |[]=>True
 |[i]=>F i
 |i::r=>F i∧vall F r
theorem vall_iff {F:Nat→Prop}:∀ {l:List Nat},vall F l↔∀ i∈l,F i
 |[]=>by simp [vall]
 |[i]=>by simp [vall]
 |i::j::r=>by
  rw [show vall F (i::j::r)=(F i∧vall F (j::r)) from rfl,vall_iff]
  simp
def vany (A:Ar)(T:Tab)(C:VC)(Y:VY)(tn:Nat)(ops:List Oper)(K:KS):Nat→List Nat→KS
 |0,_=>K
 |n+1,done=>fun e h nx=>match readyL ops done ops 0 with
  |[]=>K e h nx
  |i::r=>vall (fun j=>match getL ops j with|some o=>vstep A T C Y tn ops o e h nx (vany A T C Y tn ops K n (j::done))|none=>False) (i::r)
section
variable {P:Program}{T:Tab}{C:VC}{Y:VY}{ops:Array Oper}
variable {B:Nat}{w0:World}{ιb:Nat→Loc}{nxb tn:Nat}{ds:List Deferred}{K:KS}
theorem vstep_ok (hT:TabOK P T)(hC:CallsOK P C)(hY:YieldsOK P Y)(r:Option Nat){Q:Exit→Act→World→Prop}{i:Nat}{o:Oper}(ho:getL ops.toList i=some o){ι:Nat→Loc}{e:List (Nat × Value)}{h:Heap}{nx:Nat}{a:Act}{w:World}
  (hl:vstep std T C Y tn ops.toList o e h nx K) (I:Inv B w0 ιb nxb tn ds ι e h nx a w) {next:Act→World→Prop}
  (hQ:∀ ι e h nx a w,K e h nx→Inv B w0 ιb nxb tn ds ι e h nx a w→next a w):wpOpIn (Fr r) 0 P ops Q i next a w:=by
 have hoo:ops[i]? = some o:=by rw [getL_eq] at ho;simpa using ho
 unfold wpOpIn
 simp only [hoo]
 unfold vstep at hl
 obtain⟨env1,he1,hcase⟩:=vguard_ok I.env hl
 rcases hcase with ⟨hw,hl⟩|⟨hw,hl⟩
 ·rw [if_pos hw]
  refine (vop_ok hT hC hY he1 I.heap hl).upon (vop_nodefer hl) rfl r _ _ fun v h' nx' ι' w' k1 k2 k3 k4 k5 k6=>?_
  obtain⟨env2,k7,k8,k9,k10⟩:=vput_ok (he1.names k6 k5) I.size k1 k2
  exact hQ ι' env2 h' nx' _ w' k7 (I.step k8 k3 k4 k5 k6 k9 k10)
 ·rw [hw]
  refine⟨fun _ _=>trivial,?_⟩
  obtain⟨env2,k7,k8,k9,k10⟩:=vput_ok he1 I.size hl (v:=undef) (scT_g rfl)
  rw [tr_g (show gT undef=true from rfl)] at k8 k9 k10
  exact hQ ι env2 h nx _ w k7 (I.step k8 I.heap (Bel.refl _ _) (fun _ _=>rfl) (Nat.le_refl _) k9 k10)
theorem ready_same {listed:Array Bool}(hs:listed.size=ops.size){done:List Nat}(hd:∀ i,Lst listed i↔i∈done){i:Nat}:i∈Region.ready .any ops listed↔i∈readyL ops.toList done ops.toList 0:=by
 rw [ready_iff hs,readyL_mem]
 constructor
 ·rintro ⟨h1,h2,h3⟩
  have ho:getL ops.toList i=some ops[i]:=by rw [getL_eq];simp [h1]
  refine⟨i,ops[i],by omega,ho,fun h=>h2 ((hd i).2 h),fun x hx=>(hd x).1 (h3 x ?_)⟩
  unfold predsAt
  rw [ho]
  exact hx
 ·rintro ⟨j,o,h1,h2,h3,h4⟩
  have hij:i=j:=by omega
  subst hij
  have hlt:i<ops.size:=by
   rw [getL_eq] at h2
   have:=(List.getElem?_eq_some_iff.1 h2).1
   simpa using this
  refine⟨hlt,fun h=>h3 ((hd i).1 h),fun x hx=>(hd x).2 (h4 x ?_)⟩
  unfold predsAt at hx
  rw [h2] at hx
  exact hx
theorem vany_ok (hT:TabOK P T)(hC:CallsOK P C)(hY:YieldsOK P Y)(r:Option Nat){Q:Exit→Act→World→Prop}
  (hQ:∀ ι e h nx a w,K e h nx→Inv B w0 ιb nxb tn ds ι e h nx a w→Q .normal a w):∀ (n:Nat) (listed:Array Bool) (done:List Nat) (ι:Nat→Loc) (e:List (Nat × Value)) (h:Heap) (nx:Nat) (a:Act) (w:World),
  listed.size=ops.size→(∀ i,Lst listed i↔i∈done)→left ops.size listed≤n→vany std T C Y tn ops.toList K n done e h nx→Inv B w0 ιb nxb tn ds ι e h nx a w→wpAnyIn (Fr r) 0 P .any ops Q n listed a w:=by
 intro n
 induction n with
 |zero =>
  intro listed done ι e h nx a w hs hd hl hv I
  refine⟨?_,hQ ι e h nx a w hv I⟩
  refine List.eq_nil_iff_forall_not_mem.2 fun i hi=>?_
  obtain⟨h1,h2,_⟩:=(ready_iff hs).1 hi
  have:=left_set h1 hs h2
  omega
 |succ n ih =>
  intro listed done ι e h nx a w hs hd hl hv I
  simp only [vany] at hv
  split at hv
  ·rename_i hr
   have hno:∀ i,i∉Region.ready .any ops listed:=fun i hi=>by
    have:=(ready_same hs hd).1 hi
    rw [hr] at this
    cases this
   exact⟨fun _=>hQ ι e h nx a w hv I,fun i hi=>absurd hi (hno i)⟩
  ·rename_i i0 r0 hr
   rw [vall_iff] at hv
   refine⟨fun hn=>?_,fun i hi=>?_⟩
   ·exfalso
    have:i0∈Region.ready .any ops listed:=(ready_same hs hd).2 (by rw [hr];exact .head _)
    rw [hn] at this
    cases this
   ·obtain⟨h1,h2,_⟩:=(ready_iff hs).1 hi
    have hv':=hv i (by rw [← hr];exact (ready_same hs hd).1 hi)
    split at hv'
    case h_2=>exact hv'.elim
    rename_i o ho
    refine vstep_ok hT hC hY r ho hv' I fun ι e h nx a w hk J=>?_
    have hset:=Lst.set (listed:=listed) (i:=i) (by omega)
    refine ih _ (i::done) ι e h nx a w (by simp [hs]) (fun j=>?_) (by have:=left_set h1 hs h2;omega) hk J
    rw [hset]
    unfold adds
    rw [hd j,List.mem_cons]
theorem vanyR_ok (hT:TabOK P T)(hC:CallsOK P C)(hY:YieldsOK P Y)(hm:P.follows .mixedOrders=true){ι:Nat→Loc}{env:List (Nat × Value)}{h:Heap}{nx:Nat}{a:Act}{w:World}(I:Inv B w0 ιb nxb tn ds ι env h nx a w)
  (hl:vany std T C Y tn ops.toList K ops.size [] env h nx) (r:Option Nat) {id:Nat} {Q:Exit→Act→World→Prop} (hQ:∀ ι env h nx a w,K env h nx→Inv B w0 ιb nxb tn ds ι env h nx a w→Q .normal a w) :
  (Code.region id ops true).wpIn (Fr r) 0 P Q a w:=by
 refine wpIn_region_any hm ?_
 have H:=I.heap.drawn (w.drawn+1)
 have hb:Bel B w { w with drawn:=w.drawn+1 }:=⟨rfl,rfl,rfl,Nat.le_refl _,fun _ _=>rfl,Nat.le_succ _⟩
 have hno:∀ i,¬ Lst (Array.replicate ops.size false) i:=by
  intro i
  unfold Lst
  by_cases h:i<ops.size <;> simp [h]
 refine vany_ok hT hC hY r hQ ops.size _ [] ι env h nx a _ (by simp) (fun i=>⟨fun h=>absurd h (hno i),fun h=>by cases h⟩) ?_ hl ⟨I.env,H,I.below.trans hb,I.old,I.le,I.size,I.defers⟩
 unfold left
 exact Nat.le_trans (List.length_filter_le _ _) (by simp)
end
end Go.Aw
end

noncomputable section
namespace Go.Aw
open Go.RowKit
def viter (F:KS→KS)(n:Nat):KS:=@Nat.rec (fun _=>KS) (fun _ _ _=>False) (fun _ ih e h nx=>F ih e h nx) n
inductive LM where
 |fuel (n:Nat)
 |inv (b:Nat)
def LM.low:LM→Nat→Prop
 |.fuel _,_=>True
 |.inv b,n=>n≤b
def Into (b:Nat)(I:KS):KS:=fun e h nx=>∃ e0 h0 n0 ρ,I e0 h0 n0∧RenOK b ρ e0 h0 n0 e h nx
def vloop (M:LM)(F:KS→KS):KS:=fun e h nx =>
 match M with
 |.fuel n=>viter F n e h nx
 |.inv b=>∃ I:Nat→KS,(∃ n,Into b (I n) e h nx)∧∀ n e h nx,I n e h nx→F (fun e h nx=>∃ m,m<n∧Into b (I m) e h nx) e h nx
def vfirst (A:Ar)(T:Tab)(C:VC)(Y:VY)(tn:Nat)(ops:List Oper)(K:KS):Nat→List Nat→KS
 |0,_=>K
 |n+1,done=>fun e h nx=>match readyL ops done ops 0 with
  |[]=>K e h nx
  |j::_=>(match getL ops j with|some o=>vstep A T C Y tn ops o e h nx (vfirst A T C Y tn ops K n (j::done))|none=>False)
theorem det_vstep {A:Ar}{T:Tab}{C:VC}{Y:VY}(hC:DetC C)(hY:DetC Y){tn:Nat}{ops:List Oper}{o:Oper}{e:List (Nat × Value)}{h:Heap}{nx:Nat}:DetS (vstep A T C Y tn ops o e h nx):=by
 show DetS (fun K=>vstep A T C Y tn ops o e h nx K)
 unfold vstep
 exact detS_guard (F:=fun e K=>vop A T C Y e h nx o.op fun v h' nx'=>vput tn e o.dst v fun e'=>K e' h' nx') (G:=fun e K=>vput tn e o.dst undef fun e'=>K e' h nx)
  (fun e=>detS_bind (F:=fun v h' nx' K=>vput tn e o.dst v fun e'=>K e' h' nx') (det_vop hC hY) fun v h' nx'=>detS_put (F:=fun e' K=>K e' h' nx') fun e'=>detS_pure)
  (fun e=>detS_put (F:=fun e' K=>K e' h nx) fun e'=>detS_pure)
theorem det_vfirst {A:Ar}{T:Tab}{C:VC}{Y:VY}(hC:DetC C)(hY:DetC Y){tn:Nat}{ops:List Oper}:∀ n done e h nx,DetS (fun K=>vfirst A T C Y tn ops K n done e h nx)
 |0,_,e,h,nx=>detS_pure
 |n+1,done,e,h,nx=>by
  intro K hl
  simp only [vfirst] at hl ⊢
  split at hl
  ·exact⟨e,h,nx,hl,fun K' q=>q⟩
  ·split at hl
   case h_2=>exact hl.elim
   rename_i o ho
   obtain⟨e1,h1,n1,q1,q2⟩:=det_vstep hC hY _ hl
   obtain⟨e2,h2,n2,q3,q4⟩:=det_vfirst hC hY n _ e1 h1 n1 K q1
   exact⟨e2,h2,n2,q3,fun K' q=>q2 _ (q4 K' q)⟩
def vregA (A:Ar)(T:Tab)(C:VC)(Y:VY)(tn:Nat)(M:LM)(ops:Array Oper):List (Nat × Value)→Heap→Nat→KS→Prop:=fun e h nx K =>
 match M with
 |.fuel _=>vfirst A T C Y tn ops.toList (fun _ _ _=>∃ e0 h0 n0,vany A T C Y tn ops.toList (Into nx fun e' h' n'=>e'=e0∧h'=h0∧n'=n0) ops.size [] e h nx∧K e0 h0 n0) ops.size [] e h nx
 |.inv b=>∃ I:KS,vany A T C Y tn ops.toList (fun e h nx=>I e h nx∨Into b I e h nx) ops.size [] e h nx∧∀ e h nx,I e h nx→K e h nx
def vregS (A:Ar)(T:Tab)(C:VC)(Y:VY)(tn:Nat)(M:LM)(ops:List Oper)(e:List (Nat × Value))(h:Heap)(nx:Nat)(K:KS):Prop :=
 match hasNext ops with
 |false=>vops A T C Y tn ops ops e h nx K
 |true=>(match M with
  |.fuel _=>False
  |.inv _=>vopsN A T C Y tn ops ops e h nx K)
theorem det_vregS {A:Ar}{T:Tab}{C:VC}{Y:VY}(hC:DetC C)(hY:DetC Y){tn:Nat}{n:Nat}{ops:List Oper}{e:List (Nat × Value)}{h:Heap}{nx:Nat}:DetS (vregS A T C Y tn (.fuel n) ops e h nx):=by
 intro K hl
 unfold vregS at *
 split at hl
 ·exact det_vops hC hY _ _ _ _ K hl
 ·exact hl.elim
abbrev VR:=Operand→Array Tmp→Code→Code→KS→(Nat→KS)→KS→KS
def vcode (A:Ar)(T:Tab)(C:VC)(Y:VY)(tn:Nat)(PL:Nat→Option Plan)(M:LM)(R:VR)(c:Code):KS→(Nat→KS)→KS→KS :=
 @Code.rec (fun _=>KS→(Nat→KS)→KS→KS) (fun kn _ _=>kn)
  (fun id ops draw kn _ _ e h nx=>match draw with
   |false=>vregS A T C Y tn M ops.toList e h nx kn
   |true=>(match PL id with|some p=>vregion A T C Y tn ops.toList p e h nx kn|none=>vregA A T C Y tn M ops e h nx kn))
  (fun _ _ iha ihb kn kx kr=>iha (ihb kn kx kr) kx kr)
  (fun c _ _ iht ihf kn kx kr e h nx=>match opv e c with
   |some (.bool b)=>br b (fun _=>iht kn kx kr e h nx) (fun _=>ihf kn kx kr e h nx)
   |_=>False)
  (fun id _ ih kn kx kr=>ih kn (fun j=>match Nat.beq j id with|true=>kn|false=>kx j) kr)
  (fun _ ih _ kx kr=>vloop M (fun k=>ih k kx kr))
  (fun g ps as bd _ _ kn kx kr=>R g ps as bd kn kx kr)
  (fun id _ kx _=>kx id)
  (fun _ ih kn kx kr=>ih kn kx kr)
  (fun _ kn _ _=>kn)
  (fun _ _ _ _ _ _ _=>False)
  (fun _ _ kr=>kr)
  (fun _ _ _ _ _ _ _=>False) c
section
variable {A:Ar}{T:Tab}{C:VC}{Y:VY}{tn:Nat}{PL:Nat→Option Plan}{M:LM}{R:VR}{kn kr:KS}{kx:Nat→KS}{e:List (Nat × Value)}{h:Heap}{nx:Nat}
theorem vcode_region {id:Nat}{ops:Array Oper}{draw:Bool}:vcode A T C Y tn PL M R (.region id ops draw) kn kx kr e h nx=match draw with
 |false=>vregS A T C Y tn M ops.toList e h nx kn
 |true=>(match PL id with|some p=>vregion A T C Y tn ops.toList p e h nx kn|none=>vregA A T C Y tn M ops e h nx kn):=rfl
theorem vcode_cond {c:Operand}{t f:Code}:vcode A T C Y tn PL M R (.cond c t f) kn kx kr e h nx=match opv e c with
 |some (.bool b)=>br b (fun _=>vcode A T C Y tn PL M R t kn kx kr e h nx) (fun _=>vcode A T C Y tn PL M R f kn kx kr e h nx)
 |_=>False:=rfl
theorem vcode_block {id:Nat}{b:Code}:vcode A T C Y tn PL M R (.block id b) kn kx kr e h nx=vcode A T C Y tn PL M R b kn (fun j=>match Nat.beq j id with|true=>kn|false=>kx j) kr e h nx:=rfl
theorem vcode_loop {b:Code}:vcode A T C Y tn PL M R (.loop b) kn kx kr e h nx=vloop M (fun k=>vcode A T C Y tn PL M R b k kx kr) e h nx:=rfl
end
def plansOK (PL:Nat→Option Plan):Code→Bool
 |.region id ops true=>(match PL id with|some p=>planOK ops p|none=>true)
 |.seq a b=>plansOK PL a&&plansOK PL b
 |.cond _ a b=>plansOK PL a&&plansOK PL b
 |.block _ b=>plansOK PL b
 |.loop b=>plansOK PL b
 |.scope b=>plansOK PL b
 |_=>true
def markOf (b:Nat):Deferred:={ target:=.collected b,args:=#[] }
def Marks (B0 B:Nat)(w:World)(ds:List Deferred):Prop:=∃ bs:List Nat,ds=bs.map markOf∧bs.Nodup∧∀ b∈bs,B0≤b∧b<B∧w.heap[b]? = some (.deferred (some []))
def CInv (B0:Nat)(w0:World)(ι0:Nat→Loc)(nx0 tn:Nat)(ι:Nat→Loc)(env:List (Nat × Value))(h:Heap)(nx:Nat)(a:Act)(w:World):Prop :=
 ∃ B w1 ι1 nx1 ds,B0≤B∧Bel B0 w0 w1∧(∀ k,k<nx0→ι1 k=ι0 k)∧nx0≤nx1∧Marks B0 B w1 ds∧Inv B w1 ι1 nx1 tn ds ι env h nx a w
section
variable {P:Program}{T:Tab}{C:VC}{Y:VY}{B0:Nat}{w0:World}{ι0:Nat→Loc}{nx0 tn:Nat}{PL:Nat→Option Plan}{M:LM}{R:VR}
structure Ends (B0:Nat) (w0:World) (ι0:Nat→Loc) (nx0 tn:Nat) (kn:KS) (kx:Nat→KS) (kr:KS) (Q:Exit→Act→World→Prop):Prop where
 n:∀ ι e h nx a w,kn e h nx→CInv B0 w0 ι0 nx0 tn ι e h nx a w→Q .normal a w
 x:∀ id ι e h nx a w,kx id e h nx→CInv B0 w0 ι0 nx0 tn ι e h nx a w→Q (.exit id) a w
 r:∀ ι e h nx a w,kr e h nx→CInv B0 w0 ι0 nx0 tn ι e h nx a w→Q .ret a w
def RangeOK (P:Program)(r:Option Nat)(tn:Nat)(R:VR):Prop:=∀ g ps as bd kn kx kr e h nx,R g ps as bd kn kx kr e h nx→∀ B0 w0 ι0 nx0 Q,Ends B0 w0 ι0 nx0 tn kn kx kr Q→∀ ι a w,CInv B0 w0 ι0 nx0 tn ι e h nx a w →
 (Code.rangeFunc g ps as bd).wpIn (Fr r) 0 P Q a w
theorem stepR_scope {b:Frame}{a:Act}{k:List Item}{cs:List Frame}{w:World}{c:Code}:step P (lone (b.atR a (.code (.scope c)::k)) cs w)=.next (lone (b.atR a (.code c::.inScope c::k)) cs w) :=
 step_lone_go (by simp [stepG,stepG.exec,Frame.atR])
theorem stepR_inScope {b:Frame}{a:Act}{k:List Item}{cs:List Frame}{w:World}{c:Code}:step P (lone (b.atR a (.inScope c::k)) cs w)=.next (lone (b.atR a k) cs w) :=
 step_lone_go (by simp [stepG,stepG.exec,Frame.atR])
theorem wpIn_scope_straight {F:Fence}{n:Nat}{c:Code}{Q:Exit→Act→World→Prop}{a:Act}{w:World}(h:c.wpIn F n P (fun e a w=>(∀ l,e≠.goto l)∧Q e a w) a w):(Code.scope c).wpIn F n P Q a w:=by
 intro b k cs hro hb hr
 have h0:(lone (b.atR a (.code (.scope c)::k)) cs w).fenced P F:=fenced_calm hb hr rfl
 obtain⟨e,a₁,w₁,⟨hg,hq⟩,harr⟩:=h b (.inScope c::k) cs hro hb hr
 cases e with
 |normal=>exact⟨.normal,a₁,w₁,hq,.head h0 stepR_scope (StepsIn.trans harr (.one (fenced_calm hb hr rfl) stepR_inScope))⟩
 |exit id =>
  have hx:exitTo id (.inScope c::k)=exitTo id k:=by simp [exitTo]
  exact⟨.exit id,a₁,w₁,hq,fun k' hk=>.head h0 stepR_scope (harr.1 k' (by rw [hx];exact hk)),
   fun hr' hk=>let ⟨k₁,h1,h2⟩:=harr.2 hr' (by rw [hx];exact hk);⟨k₁,h1,.head h0 stepR_scope h2⟩⟩
 |goto l=>exact absurd rfl (hg l)
 |ret=>exact⟨_,a₁,w₁,hq,.of_steps (.one h0 stepR_scope) harr⟩
 |panic ch=>exact⟨_,a₁,w₁,hq,.of_steps (.one h0 stepR_scope) harr⟩
 |outgrown=>exact⟨_,a₁,w₁,hq,.of_steps (.one h0 stepR_scope) harr⟩
theorem CInv.into {ι:Nat→Loc}{e:List (Nat × Value)}{h:Heap}{nx:Nat}{a:Act}{w:World}{b:Nat}{I:KS}(J:CInv B0 w0 ι0 nx0 tn ι e h nx a w)(hb:nx0≤b)(hi:Into b I e h nx):∃ ι' e' h' nx',I e' h' nx'∧CInv B0 w0 ι0 nx0 tn ι' e' h' nx' a w:=by
 obtain⟨e',h',nx',ρ,hI,r⟩:=hi
 obtain⟨B,w1,ι1,nx1,ds,h1,h2,h3,h4,h5,J⟩:=J
 refine⟨fun k=>ι (ρ k),e',h',nx',hI,B,w1,ι0,nx0,ds,h1,h2,fun _ _=>rfl,Nat.le_refl _,h5,r.envOK J.env,r.relH J.heap,J.below,fun k hk=>?_,Nat.le_trans hb r.le,J.size,J.defers⟩
 rw [r.fix k (Nat.lt_of_lt_of_le hk hb)]
 exact (J.old k (Nat.lt_of_lt_of_le hk h4)).trans (h3 k hk)
theorem least {p:Nat→Prop}(h:∃ n,p n):∃ m,p m∧∀ k,p k→m≤k:=by
 obtain⟨n,hn⟩:=h
 induction n using Nat.strongRecOn with
 |_ n ih =>
  by_cases hk:∃ k,p k∧k<n
  ·obtain⟨k,h1,h2⟩:=hk
   exact ih k h2 h1
  ·exact⟨n,hn,fun k h1=>Nat.le_of_not_lt fun h2=>hk ⟨k,h1,h2⟩⟩
theorem wpIn_loop_ks {r:Option Nat}{c:Code}{Q:Exit→Act→World→Prop}{a:Act}{w:World}{I:Nat→Act→World→Prop}{n:Nat}(h₀:I n a w)
  (round:∀ n a w,I n a w→c.wpIn (Fr r) 0 P (Exit.then (fun a' w'=>∃ m,m<n∧I m a' w') Q) a w):(Code.loop c).wpIn (Fr r) 0 P Q a w:=by
 classical
 refine wpIn_loop (fun a w=>∃ n,I n a w) (fun a w=>if h:∃ n,I n a w then Classical.choose (least h) else 0) ⟨n,h₀⟩ fun a w h=>?_
 have hs:=Classical.choose_spec (least h)
 refine Code.wpIn_mono (fun e a' w' hq=>?_) (round _ a w hs.1)
 cases e <;> try exact hq
 obtain⟨m,hm,hI⟩:=hq
 refine⟨⟨m,hI⟩,?_⟩
 have h':∃ n,I n a' w':=⟨m,hI⟩
 simp only [dif_pos h',dif_pos h]
 exact Nat.lt_of_le_of_lt ((Classical.choose_spec (least h')).2 m hI) hm
end
end Go.Aw
end

noncomputable section
namespace Go.Aw
open Go.RowKit
section
variable {P:Program}{T:Tab}{C:VC}{Y:VY}{tn:Nat}{PL:Nat→Option Plan}{M:LM}{R:VR}
def RMono (R:VR):Prop:=∀ g ps as bd (kn kn':KS) (kx kx':Nat→KS) (kr kr':KS) e h nx,(∀ e h nx,kn e h nx→kn' e h nx)→(∀ id e h nx,kx id e h nx→kx' id e h nx)→(∀ e h nx,kr e h nx→kr' e h nx)→R g ps as bd kn kx kr e h nx→R g ps as bd kn' kx' kr' e h nx
theorem vregS_ok (hT:TabOK P T)(hC:CallsOK P C)(hY:YieldsOK P Y)(r:Option Nat){B:Nat}{w1:World}{ι1:Nat→Loc}{nx1:Nat}{ds:List Deferred}{ops:Array Oper}{Q:Exit→Act→World→Prop}{K:KS}{ι:Nat→Loc}{e:List (Nat × Value)}{h:Heap}{nx:Nat}{a:Act}{w:World}
  (hl:vregS std T C Y tn M ops.toList e h nx K) (J:Inv B w1 ι1 nx1 tn ds ι e h nx a w) (hQ:∀ ι' env' h' nx' a' w',K env' h' nx'→Inv B w1 ι1 nx1 tn ds ι' env' h' nx' a' w'→Q .normal a' w'):wpListIn (Fr r) 0 P ops Q ops.toList a w:=by
 unfold vregS at hl
 split at hl
 ·exact vops_ok hT hC hY r ops.toList ι e h nx a w hl J hQ
 ·split at hl
  ·exact hl.elim
  ·exact vopsN_ok hT hC hY r ops.toList ι e h nx a w hl J hQ
theorem vcode_ok (hT:TabOK P T)(hC:CallsOK P C)(hY:YieldsOK P Y)(hD:DetC C)(hDY:DetC Y)(hm:P.follows .mixedOrders=true)(r:Option Nat)(hR:RangeOK P r tn R)(hRm:RMono R) :
  ∀ (c:Code),plansOK PL c=true→∀ (kn:KS) (kx:Nat→KS) (kr:KS) e h nx,vcode std T C Y tn PL M R c kn kx kr e h nx→∀ B0 w0 ι0 nx0 Q,M.low nx0→Ends B0 w0 ι0 nx0 tn kn kx kr Q→∀ ι a w,CInv B0 w0 ι0 nx0 tn ι e h nx a w →
    c.wpIn (Fr r) 0 P Q a w:=by
 intro c
 induction c with
 |skip=>exact fun _ kn kx kr e h nx hl B0 w0 ι0 nx0 Q hM E ι a w I=>wpIn_skip (E.n ι e h nx a w hl I)
 |region id ops draw =>
  intro hp kn kx kr e h nx hl B0 w0 ι0 nx0 Q hM E ι a w I
  obtain⟨B,w1,ι1,nx1,ds,h1,h2,h3,h4,h5,J⟩:=I
  simp only [vcode_region,vcode_cond,vcode_loop] at hl
  cases draw with
  |false =>
   refine wpIn_region_list (vregS_ok hT hC hY r hl J fun ι' e' h' nx' a' w' hk J'=>?_)
   exact E.n ι' e' h' nx' a' w' hk ⟨B,w1,ι1,nx1,ds,h1,h2,h3,h4,h5,J'⟩
  |true =>
   simp only [plansOK] at hp
   simp only at hl
   cases hpl:PL id with
   |none =>
    rw [hpl] at hl
    simp only [vregA] at hl
    cases M with
    |fuel n =>
     obtain⟨ea,ha,na,⟨e0,h0,n0,hi,hK⟩,hr⟩:=det_vfirst hD hDY _ _ _ _ _ _ hl
     refine vanyR_ok hT hC hY hm J hi r fun ι' e' h' nx' a' w' hk J'=>?_
     obtain⟨ι2,e2,h2',nx2,⟨rfl,rfl,rfl⟩,k2⟩:=CInv.into ⟨B,w1,ι1,nx1,ds,h1,h2,h3,h4,h5,J'⟩ (Nat.le_trans h4 J.le) hk
     exact E.n ι2 _ _ _ a' w' hK k2
    |inv b =>
     obtain⟨I,hi,hI⟩:=hl
     refine vanyR_ok hT hC hY hm J hi r fun ι' e' h' nx' a' w' hk J'=>?_
     rcases hk with hk|hk
     ·exact E.n ι' e' h' nx' a' w' (hI _ _ _ hk) ⟨B,w1,ι1,nx1,ds,h1,h2,h3,h4,h5,J'⟩
     obtain⟨ι2,e2,h2',nx2,k1,k2⟩:=CInv.into ⟨B,w1,ι1,nx1,ds,h1,h2,h3,h4,h5,J'⟩ hM hk
     exact E.n ι2 e2 h2' nx2 a' w' (hI _ _ _ k1) k2
   |some p =>
    rw [hpl] at hl hp
    exact vregion_ok hT hC hY hD hm (planOK_spec hp) J hl r fun ι' e' h' nx' a' w' hk J'=>E.n ι' e' h' nx' a' w' hk ⟨B,w1,ι1,nx1,ds,h1,h2,h3,h4,h5,J'⟩
 |seq a b iha ihb =>
  intro hp kn kx kr e h nx hl B0 w0 ι0 nx0 Q hM E ι ac w I
  simp only [plansOK,Bool.and_eq_true] at hp
  refine wpIn_seq (iha hp.1 _ kx kr e h nx hl B0 w0 ι0 nx0 _ hM ⟨fun ι e h nx a w hk I=>?_,fun id ι e h nx a w hk I=>?_,fun ι e h nx a w hk I=>?_⟩ ι ac w I)
  ·exact ihb hp.2 kn kx kr e h nx hk B0 w0 ι0 nx0 Q hM E ι a w I
  ·exact E.x id ι e h nx a w hk I
  ·exact E.r ι e h nx a w hk I
 |cond c t f iht ihf =>
  intro hp kn kx kr e h nx hl B0 w0 ι0 nx0 Q hM E ι a w I
  simp only [plansOK,Bool.and_eq_true] at hp
  simp only [vcode_region,vcode_cond,vcode_loop] at hl
  split at hl
  case h_2=>exact hl.elim
  rename_i b hb
  have hc:a.eval c=.bool b:=by
   obtain⟨B,w1,ι1,nx1,ds,h1,h2,h3,h4,h5,J⟩:=I
   rw [(J.env.opv hb).1,tr_bool]
  rcases br_cases hl with ⟨rfl,hl⟩|⟨rfl,hl⟩
  ·exact wpIn_cond_true hc (iht hp.1 kn kx kr e h nx hl B0 w0 ι0 nx0 Q hM E ι a w I)
  ·exact wpIn_cond_false hc (ihf hp.2 kn kx kr e h nx hl B0 w0 ι0 nx0 Q hM E ι a w I)
 |block id b ih =>
  intro hp kn kx kr e h nx hl B0 w0 ι0 nx0 Q hM E ι a w I
  refine wpIn_block (ih hp _ _ kr e h nx hl B0 w0 ι0 nx0 (Exit.inBlock id Q) hM ⟨E.n,fun j ι e h nx a w hk I=>?_,E.r⟩ ι a w I)
  cases hb:Nat.beq j id with
  |true =>
   rw [hb] at hk
   simp only [Exit.inBlock,if_pos (beq_true hb)]
   exact E.n ι e h nx a w hk I
  |false =>
   rw [hb] at hk
   simp only [Exit.inBlock,if_neg (beq_false hb)]
   exact E.x j ι e h nx a w hk I
 |loop b ih =>
  intro hp kn kx kr e h nx hl B0 w0 ι0 nx0 Q hM E ι a w I
  simp only [vcode_region,vcode_cond,vcode_loop] at hl
  cases M with
  |fuel n0 =>
   refine wpIn_loop_ks (I:=fun n a w=>∃ ι e h nx,viter (fun k=>vcode std T C Y tn PL (.fuel n0) R b k kx kr) n e h nx∧CInv B0 w0 ι0 nx0 tn ι e h nx a w) (n:=n0) ⟨ι,e,h,nx,hl,I⟩ fun m a w hi=>?_
   obtain⟨ι,e,h,nx,h1,I⟩:=hi
   cases m with
   |zero=>exact h1.elim
   |succ m =>
    refine ih hp (viter (fun k=>vcode std T C Y tn PL (.fuel n0) R b k kx kr) m) kx kr e h nx h1 B0 w0 ι0 nx0 (Exit.then (fun a' w'=>∃ m',m'<m+1∧∃ ι e h nx,viter (fun k=>vcode std T C Y tn PL (.fuel n0) R b k kx kr) m' e h nx∧CInv B0 w0 ι0 nx0 tn ι e h nx a' w') Q) hM ⟨fun ι e h nx a w hk I=>?_,fun id ι e h nx a w hk I=>E.x id ι e h nx a w hk I,fun ι e h nx a w hk I=>E.r ι e h nx a w hk I⟩ ι a w I
    exact⟨m,Nat.lt_succ_self m,ι,e,h,nx,hk,I⟩
  |inv bs =>
   obtain⟨J,⟨n,h0⟩,hJ⟩:=hl
   obtain⟨ι',e',h',nx',h0',I'⟩:=I.into hM h0
   refine wpIn_loop_ks (I:=fun n a w=>∃ ι e h nx,J n e h nx∧CInv B0 w0 ι0 nx0 tn ι e h nx a w) (n:=n) ⟨ι',e',h',nx',h0',I'⟩ fun n a w hi=>?_
   obtain⟨ι,e,h,nx,h1,I⟩:=hi
   refine ih hp _ kx kr e h nx (hJ n e h nx h1) B0 w0 ι0 nx0 (Exit.then (fun a' w'=>∃ m,m<n∧∃ ι e h nx,J m e h nx∧CInv B0 w0 ι0 nx0 tn ι e h nx a' w') Q) hM ⟨fun ι e h nx a w hk I=>?_,fun id ι e h nx a w hk I=>E.x id ι e h nx a w hk I,fun ι e h nx a w hk I=>E.r ι e h nx a w hk I⟩ ι a w I
   obtain⟨m,hm,hk⟩:=hk
   obtain⟨ι',e',h',nx',hk',I'⟩:=I.into hM hk
   exact⟨m,hm,ι',e',h',nx',hk',I'⟩
 |rangeFunc g ps as bd _ _=>exact fun _ kn kx kr e h nx hl B0 w0 ι0 nx0 Q hM E ι a w I=>hR g ps as bd kn kx kr e h nx hl B0 w0 ι0 nx0 Q E ι a w I
 |exit id=>exact fun _ kn kx kr e h nx hl B0 w0 ι0 nx0 Q hM E ι a w I=>wpIn_exit (E.x id ι e h nx a w hl I)
 |ret=>exact fun _ kn kx kr e h nx hl B0 w0 ι0 nx0 Q hM E ι a w I=>wpIn_ret (E.r ι e h nx a w hl I)
 |label l=>exact fun _ kn kx kr e h nx hl B0 w0 ι0 nx0 Q hM E ι a w I=>wpIn_label (E.n ι e h nx a w hl I)
 |scope b ih =>
  intro hp kn kx kr e h nx hl B0 w0 ι0 nx0 Q hM E ι a w I
  refine wpIn_scope_straight (ih hp kn kx kr e h nx hl B0 w0 ι0 nx0 _ hM ⟨fun ι e h nx a w hk I=>⟨fun l he=>(by cases he),E.n ι e h nx a w hk I⟩,fun id ι e h nx a w hk I=>⟨fun l he=>(by cases he),E.x id ι e h nx a w hk I⟩,fun ι e h nx a w hk I=>⟨fun l he=>(by cases he),E.r ι e h nx a w hk I⟩⟩ ι a w I)
 |goto l=>exact fun _ _ _ _ _ _ _ hl=>hl.elim
 |refuse s=>exact fun _ _ _ _ _ _ _ hl=>hl.elim
end
end Go.Aw
end

noncomputable section
namespace Go.Aw
open Go.RowKit
def vresults (T:Tab)(e:List (Nat × Value))(h:Heap)(l:List ResultVar):(List Value→Prop)→Prop :=
 @List.rec ResultVar (fun _=>(List Value→Prop)→Prop) (fun K=>K [])
  (fun x _ ih K=>match x with
   |.tmp t=>on (look e t) fun v=>ih fun l=>K (v::l)
   |.cell a t=>on (look e a) fun p=>vload T h t p fun v=>ih fun l=>K (v::l)) l
theorem vresults_tmp {T:Tab}{e:List (Nat × Value)}{h:Heap}{t:Nat}{r:List ResultVar}{K:List Value→Prop}:vresults T e h (.tmp t::r) K=on (look e t) fun v=>vresults T e h r fun l=>K (v::l):=rfl
theorem vresults_cell {T:Tab}{e:List (Nat × Value)}{h:Heap}{a:Nat}{t:TypeId}{r:List ResultVar}{K:List Value→Prop}:vresults T e h (.cell a t::r) K=on (look e a) fun p=>vload T h t p fun v=>vresults T e h r fun l=>K (v::l):=rfl
def noTup:List Value→Bool
 |[]=>true
 |.tuple _::_=>false
 |_::r=>noTup r
def vend (T:Tab)(fn:Func)(K:KE):KS:=fun e h nx=>vresults T e h fn.results.toList fun l =>
 match l with
 |[v]=>K v h nx
 |l=>match noTup l with|true=>K (.tuple l.toArray) h nx|false=>False
def resOne (tmps:Array Value):ResultVar→Sem Value
 |.tmp t=>pure (tmps.getD t undef)
 |.cell b t=>do loadVar t (← asAddr (tmps.getD b undef))
theorem results_eq (fn:Func)(tmps:Array Value):results fn tmps=(do let vs ← fn.results.mapM (resOne tmps);pure (if h:vs.size=1 then vs[0] else .tuple vs)):=by
 unfold results
 congr 1
section
variable {P:Program}{T:Tab}
theorem vresults_ok (hT:TabOK P T){ι:Nat→Loc}{B nx:Nat}{e:List (Nat × Value)}{h:Heap}{a:Act}(he:EnvOK ι nx e a){w:World}(H:RelH ι B h nx w):∀ (l:List ResultVar) (K:List Value→Prop),vresults T e h l K →
  ∃ vs,K vs∧vs.length=l.length∧(∀ v∈vs,scT ι nx v)∧∀ w',RelH ι B h nx w'→(l.mapM (resOne a.tmps)).run P w'=.ok (vs.map (tr ι)) w'
 |[],K,hl=>⟨[],hl,rfl,by simp,fun w' _=>by simp⟩
 |.tmp t::r,K,hl=>by
  simp only [vresults_tmp,vresults_cell] at hl
  obtain⟨v,hv,hl⟩:=on_ok hl
  obtain⟨vs,h1,h2,h3,h4⟩:=vresults_ok hT he H r _ hl
  obtain⟨e1,e2⟩:=he t v hv
  refine⟨v::vs,h1,by simp [h2],fun u hu=>?_,fun w' H'=>?_⟩
  ·rcases List.mem_cons.1 hu with rfl|hu
   ·exact e2
   ·exact h3 u hu
  ·have:=h4 w' H'
   have h6:(resOne a.tmps (.tmp t)).run P w'=.ok (tr ι v) w':=by simp [resOne,e1]
   simp only [List.mapM_cons,Sem.run_bind,Sem.run_pure,Result.andThen_ok,this,h6,List.map_cons]
 |.cell b t::r,K,hl=>by
  simp only [vresults_tmp,vresults_cell] at hl
  obtain⟨p,hp,hl⟩:=on_ok hl
  obtain⟨v,hk,hv,hrun⟩:=vload_ok (P:=P) hT hl H
  obtain⟨vs,h1,h2,h3,h4⟩:=vresults_ok hT he H r _ hk
  obtain⟨e1,e2⟩:=he b p hp
  refine⟨v::vs,h1,by simp [h2],fun u hu=>?_,fun w' H'=>?_⟩
  ·rcases List.mem_cons.1 hu with rfl|hu
   ·exact scT_of_A hv
   ·exact h3 u hu
  ·have:=h4 w' H'
   have e3:a.tmps.getD b undef=tr ι p:=by simp [e1]
   have h5:=hrun w' H'
   have hptr:∃ ad,tr ι p=.pointer (some ad):=by
    unfold vload at hl
    split at hl
    ·rename_i k o
     simp only [tr_pointer]
     split at hl
     ·rename_i ti wr g sz cs ht hlk
      have hsc:k<nx∧(ι k).isAt=true:=e2
      cases hι:ι k with
      |nil q=>rw [hι] at hsc;cases hsc.2
      |lay b o e=>exact⟨_,rfl⟩
     ·exact hl.elim
    ·exact hl.elim
   obtain⟨ad,had⟩:=hptr
   rw [had] at h5
   simp only [Instr.loadAt,Instr.sureAddr,Sem.run_bind,Sem.run_pure,Result.andThen_ok] at h5
   have h6:(resOne a.tmps (.cell b t)).run P w'=.ok (tr ι v) w':=by
    simp only [resOne,e3,had,asAddr,Sem.run_bind,Sem.run_pure,Result.andThen_ok,h5]
   simp only [List.mapM_cons,Sem.run_bind,Sem.run_pure,Result.andThen_ok,h6,this,List.map_cons]
theorem vend_ok (hT:TabOK P T){fn:Func}{K:KE}{ι:Nat→Loc}{B nx:Nat}{e:List (Nat × Value)}{h:Heap}{a:Act}(he:EnvOK ι nx e a){w:World}(H:RelH ι B h nx w)(hl:vend T fn K e h nx) :
  ∃ v,K v h nx∧scT ι nx v∧∀ w',RelH ι B h nx w'→(results fn a.tmps).run P w'=.ok (tr ι v) w':=by
 unfold vend at hl
 obtain⟨vs,h1,h2,h3,h4⟩:=vresults_ok hT he H _ _ hl
 have hres:∀ w',RelH ι B h nx w'→(results fn a.tmps).run P w'=.ok (if h:(vs.map (tr ι)).toArray.size=1 then (vs.map (tr ι)).toArray[0] else .tuple (vs.map (tr ι)).toArray) w':=by
  intro w' H'
  have:=h4 w' H'
  rw [results_eq,Array.mapM_eq_mapM_toList]
  simp only [Sem.run_bind,Sem.run_map,this,Result.andThen_ok,Sem.run_pure]
 split at h1
 ·rename_i v
  exact⟨v,h1,h3 v (by simp),fun w' H'=>by rw [hres w' H'];simp⟩
 ·rename_i hne
  split at h1
  case h_2=>exact h1.elim
  rename_i hnt
  have hA:∀ v∈vs,scA ι nx v:=by
   clear h4 hres hne h2 hl h1
   induction vs with
   |nil=>simp
   |cons x r ih =>
    intro v hv
    have hx:(∀ c,x≠.tuple c)∧noTup r=true:=by
     cases x <;> first|exact⟨fun c e=>(by cases e),hnt⟩|(simp [noTup] at hnt)
    rcases List.mem_cons.1 hv with rfl|hv
    ·exact scA_of_T hx.1 (h3 v (by simp))
    ·exact ih (fun u hu=>h3 u (by simp [hu])) hx.2 v hv
  refine⟨_,h1,fun v hv=>hA v (by simpa using hv),fun w' H'=>?_⟩
  rw [hres w' H']
  have hlen:vs.length≠1:=by
   intro e
   obtain⟨v,rfl⟩:=List.length_eq_one_iff.1 e
   exact hne v rfl
  rw [dif_neg (by simpa using hlen)]
  simp only [tr]
  congr 2
  apply Array.ext'
  simp only [List.map_toArray]
  apply List.map_congr_left
  intro v hv
  exact tr_of_A (hA v hv)
end
end Go.Aw
end

noncomputable section
namespace Go.Aw
open Go.RowKit
def afterLoop (h:Heap)(nx:Nat):Heap:=shutH (rem (rem h (nx+1)) nx)
def vrange (C:VC)(f tn:Nat):VR:=fun g ps as bd kn kx kr e h nx =>
 on (opv e g) fun gv=>match gv with
  |.func (.func q) first cap=>(match first.toList,capPtr cap.toList with
   |[],true=>C q (.func (.yield (nx+1)) #[] #[]::cap.toList)
    (hput (hput h nx .deferred) (nx+1) (.loop { state:=.ready,pending:=none,fn:=f,env:=e,tn:=tn,params:=ps.toList,assign:=as,body:=bd,defers:=nx })) (nx+2) fun _ h' nx' =>
    (match look h' (nx+1),look h' nx with
    |some (.loop l),some .deferred=>(match l.state,l.pending with
     |.busy,_=>False
     |_,none=>kn e (afterLoop h' nx) nx'
     |_,some (.exit id)=>kx id e (afterLoop h' nx) nx'
     |_,some .ret=>kr e (afterLoop h' nx) nx'
     |_,_=>False)
    |_,_=>False)
   |_,_=>False)
  |_=>False
def noRange:VR:=fun _ _ _ _ _ _ _ _ _ _=>False
def zipPut (tn:Nat):List (Nat × Value)→List Nat→List Value→Option (List (Nat × Value))
 |e,[],[]=>some e
 |e,t::ts,v::vs=>match Nat.blt t tn with|true=>zipPut tn (put e t v) ts vs|false=>none
 |_,_,_=>none
def vfin (q:Nat)(K:KE)(j:Option Code):KS:=fun _ h nx =>
 match look h q with
 |some (.loop l)=>K (.bool j.isNone) (upd h q (.loop { l with state:=if j.isNone then .ready else .done,pending:=j })) nx
 |_=>False
def vround (A:Ar)(T:Tab)(C:VC)(Y:VY)(PL:Nat→Nat→Option Plan)(M:LM):VY:=fun q args h nx K =>
 match look h q with
 |some (.loop l)=>(match zipPut l.tn l.env l.params args,plansOK (PL l.fn) l.assign&&plansOK (PL l.fn) l.body with
  |some e0,true=>vcode A T C Y l.tn (PL l.fn) M noRange l.assign (fun e1 h1 nx1 =>
   match look h1 q with
   |some (.loop l1)=>(match l1.state with
    |.ready=>vcode A T C Y l.tn (PL l.fn) M noRange l.body (vfin q K none) (fun id=>vfin q K (some (.exit id))) (vfin q K (some .ret)) e1 (upd h1 q (.loop { l1 with state:=.busy })) nx1
    |_=>False)
   |_=>False) (fun _ _ _ _=>False) (fun _ _ _=>False) e0 h nx
  |_,_=>False)
 |_=>False
def initEnv:Nat→List Value→List (Nat × Value)
 |_,[]=>[]
 |i,v::r=>(i,v)::initEnv (i+1) r
def prune (n:Nat):Heap→Heap
 |[]=>[]
 |(k,o)::r=>match Nat.blt k n with|true=>(k,o)::prune n r|false=>prune n r
structure Cfg where
 A:Ar
 T:Tab
 FT:Nat→Option Func
 PL:Nat→Nat→Option Plan
 PR:Nat→Bool
 X:Nat→Option (List Value→Heap→Nat→KE→Prop)
 M:Nat
def vbody (c:Cfg)(M:Option Nat)(C:VC)(Y:VY):VC:=fun f args h nx K =>
 match c.X f with
 |some x=>x args h nx K
 |none=>match c.FT f with
  |none=>False
  |some fn=>(match fn.body,Nat.ble args.length fn.ntmps with
   |some b,true =>
    let fin:KS:=vend c.T fn fun v h' nx'=>K v h' nx'
    vcode c.A c.T C Y fn.ntmps (c.PL f) (match M with|some n=>.fuel n|none=>.inv nx) (vrange C f fn.ntmps) b fin (fun _ _ _ _=>False) fin (initEnv 0 args) h nx
   |_,_=>False)
def app:Heap→Heap→Heap
 |[],l=>l
 |x::r,l=>x::app r l
theorem look_app (h l:Heap)(k:Nat):look (app h l) k=match look h k with|some o=>some o|none=>look l k:=by
 induction h with
 |nil=>rfl
 |cons x r ih =>
  obtain⟨j,o⟩:=x
  simp only [app,look_cons]
  cases Nat.beq j k with
  |true=>rfl
  |false=>exact ih
def newOwn (n:Nat)(g:Heap):Heap→Heap
 |[]=>[]
 |(k,o)::r=>match Nat.ble n k,look g k with
  |true,some (.cells true _ _ _)=>(k,o)::newOwn n g r
  |true,some (.map _)=>(k,o)::newOwn n g r
  |_,_=>newOwn n g r
def frK (h:Heap)(nx:Nat)(K:KE):KE:=fun v h' nx'=>match gT v with
 |true=>K v h nx
 |false=>K v (app (newOwn nx h' h') h) nx'
def frC (PR:Nat→Bool)(C:VC):VC:=fun f args h nx K=>match PR f with
 |true=>C f args (shutH h) nx (frK h nx K)
 |false=>C f args h nx K
def vcall (c:Cfg):Nat→Bool→VC
 |0,_=>fun _ _ _ _ _=>False
 |d+1,false=>frC c.PR (vbody c (some c.M) (vcall c d false) (vcall c d true))
 |d+1,true=>vround c.A c.T (vcall c d false) (vcall c d true) c.PL (.fuel c.M)
section
variable {P:Program}{T:Tab}
theorem RelH.down {ι:Nat→Loc}{B B0 nx:Nat}{h:Heap}{w:World}(H:RelH ι B h nx w)(hB:B0≤B):RelH ι B0 h nx w:=by
 refine⟨fun k o hk=>?_,H.sep,H.low,Nat.le_trans hB H.size,H.sc⟩
 have ho:=H.obj k o hk
 cases hι:ι k with
 |nil p=>rw [hι] at ho;cases o <;> first|exact ho|exact ho.elim
 |lay b off e =>
  rw [hι] at ho
  cases o with
  |cells wr g sz cs =>
   cases wr with
   |true=>exact⟨Nat.le_trans hB ho.1,ho.2⟩
   |false=>exact ho
  |map es=>exact⟨Nat.le_trans hB ho.1,ho.2⟩
  |loop l=>exact⟨Nat.le_trans hB ho.1,ho.2⟩
  |deferred=>exact⟨Nat.le_trans hB ho.1,ho.2⟩
  |zero=>exact ho
  |iter m s t q=>exact⟨Nat.le_trans hB ho.1,ho.2⟩
theorem RelH.taken {ι:Nat→Loc}{B nx:Nat}{h:Heap}{w:World}(H:RelH ι B h nx w){b:Nat}(hb:b<B){ds:Option (List Deferred)}(hd:w.heap[b]? = some (.deferred ds))(o:Obj) :
  RelH ι B h nx { w with heap:=w.heap.setIfInBounds b o }:=by
 have hother:∀ c,c≠b→(w.heap.setIfInBounds b o)[c]? = w.heap[c]? := fun c hc=>by rw [Array.getElem?_setIfInBounds_ne (fun e=>hc e.symm)]
 refine⟨fun k q hk=>?_,H.sep,H.low,by simpa using H.size,H.sc⟩
 have hq:=H.obj k q hk
 by_cases hkb:(ι k).blk=some b
 ·-- only what is read,and that is empty
  cases hι:ι k with
  |nil p=>rw [hι] at hkb;cases hkb
  |lay c off e =>
   have hcb:c=b:=by rw [hι] at hkb;simpa [Loc.blk] using hkb
   subst hcb
   rw [hι] at hq
   cases q with
   |cells wr g sz cs =>
    cases wr with
    |true=>have:=hq.1;omega
    |false =>
     refine⟨by simpa using hq.1,hq.2.1,fun i v hv=>?_⟩
     have:=hq.2.2 i v hv
     simp [World.cell?,hd] at this
   |map es=>have:=hq.1;omega
   |loop l=>have:=hq.1;omega
   |deferred=>have:=hq.1;omega
   |zero=>exact hq.elim
   |iter m s t q=>have:=hq.1;omega
 ·exact hq.keep (fun c hc=>hother c (fun e=>hkb (e▸hc))) (by simp)
theorem leaves_marks {ι:Nat→Loc}{B B0 nx:Nat}{h:Heap}{fn:Func}{tmps:Array Value}{Rr:Ending→World→Prop}:∀ (bs:List Nat) (w:World),bs.Nodup→(∀ b∈bs,B0≤b∧b<B∧w.heap[b]? = some (.deferred (some [])))→RelH ι B h nx w →
  (∀ w',RelH ι B h nx w'→Bel B0 w w'→∃ u,(results fn tmps).run P w'=.ok u w'∧Rr (.returned u) w')→LeavesInM Fence.wide 0 P fn tmps Rr (bs.map markOf) .returning w
 |[],w,_,_,H,hR=>hR w H (Bel.refl _ _)
 |b::bs,w,hn,hb,H,hR=>by
  rw [List.nodup_cons] at hn
  obtain⟨h1,h2,h3⟩:=hb b (by simp)
  have hlt:=(Array.getElem?_eq_some_iff.1 h3).1
  have hbel:Bel B0 w { w with heap:=w.heap.setIfInBounds b (.deferred none) }:=⟨rfl,rfl,rfl,by simp,fun c hc=>by
   simp [Array.getElem?_setIfInBounds_ne (show b≠c by omega)],Nat.le_refl _⟩
  refine⟨by simp,.inl ⟨b,{ w with heap:=w.heap.setIfInBounds b (.deferred none) },rfl,?_,?_⟩⟩
  ·simp [Instr.takeDeferred,getObj,setObj,Sem.run,h3]
  ·refine leaves_marks bs _ hn.2 (fun c hc=>?_) (H.taken h2 h3 _) (fun w' H' hb'=>hR w' H' (hbel.trans hb'))
   obtain⟨k1,k2,k3⟩:=hb c (by simp [hc])
   have hne:b≠c:=fun e=>hn.1 (e▸hc)
   exact⟨k1,k2,by simp [Array.getElem?_setIfInBounds_ne hne,k3]⟩
end
end Go.Aw
end

noncomputable section
namespace Go.Aw
open Go.RowKit
section
variable {P:Program}{T:Tab}{C:VC}{Y:VY}
theorem initEnv_look:∀ (l:List Value) (i t:Nat) (v:Value),look (initEnv i l) t=some v→i≤t∧l[t - i]? = some v
 |[],i,t,v,h=>by cases h
 |x::r,i,t,v,h=>by
  simp only [initEnv,look_cons] at h
  split at h
  ·rename_i hb
   have:=beq_true hb
   subst this
   injection h with h
   subst h
   exact⟨Nat.le_refl _,by simp⟩
  ·obtain⟨h1,h2⟩:=initEnv_look r (i+1) t v h
   refine⟨by omega,?_⟩
   rw [show t - i=(t - (i+1))+1 by omega]
   simpa using h2
theorem initEnv_ok {ι:Nat→Loc}{n:Nat}{args:List Value}(hs:∀ v∈args,scT ι n v){k:Nat}{ds:List Deferred}:EnvOK ι n (initEnv 0 args) { tmps:=(args.map (tr ι)).toArray++Array.replicate k undef,defers:=ds }:=by
 intro t v h
 obtain⟨_,h2⟩:=initEnv_look args 0 t v h
 rw [Nat.sub_zero] at h2
 have hlt:=(List.getElem?_eq_some_iff.1 h2).1
 refine⟨?_,hs v (List.mem_of_getElem? h2)⟩
 rw [Array.getElem?_append_left (by simpa using hlt)]
 simp [h2]
theorem body_ok (hT:TabOK P T)(hC:CallsOK P C)(hY:YieldsOK P Y)(hD:DetC C)(hDY:DetC Y)(hm:P.follows .mixedOrders=true){f:FuncId}{fn:Func}{b:Code}(hf:P.funcs[f]? = some fn)(hb:fn.body=some b){nx:Nat}{PL:Nat→Option Plan}(hp:plansOK PL b=true)
  {M:LM} (hM:M.low nx) {R:VR} (hR:RangeOK P none fn.ntmps R) (hRm:RMono R) {args:List Value} (ha:args.length≤fn.ntmps) {h:Heap} {K K':KE} (hK:∀ v h' nx',K' v h' nx'→∃ h'',K v h'' nx'∧∀ k o,look h'' k=some o→look h' k=some o)
  (hl:vcode std T C Y fn.ntmps PL M R b (vend T fn K') (fun _ _ _ _=>False) (vend T fn K') (initEnv 0 args) h nx) {ι:Nat→Loc} {B:Nat} {w:World} (H:RelH ι B h nx w) (hs:∀ v∈args,scT ι nx v) :
  CallsIn Fence.wide 0 P f (args.map (tr ι)).toArray w (Ret B w ι nx K):=by
 refine callsIn_of_wp_marks hf hb trivial ?_ rfl
 have hend:∀ ι' e h' nx' a w',vend T fn K' e h' nx'→CInv B w ι nx fn.ntmps ι' e h' nx' a w'→LeavesInM Fence.wide 0 P fn a.tmps (Ret B w ι nx K) a.defers .returning w':=by
  intro ι' e h' nx' a w' hv I
  obtain⟨B1,w1,ι1,nx1,ds,h1,h2,h3,h4,⟨bs,rfl,hnd,hbs⟩,J⟩:=I
  rw [J.defers]
  obtain⟨v,k1,k2,k3⟩:=vend_ok hT J.env J.heap hv
  obtain⟨h'',k4,k5⟩:=hK v h' nx' k1
  refine leaves_marks (B:=B1) (B0:=B) bs w' hnd (fun x hx=>?_) J.heap (fun w2 H2 hb2=>⟨_,k3 w2 H2,v,h'',nx',ι',k4,k2,(H2.down h1).sub k5,?_,fun k hk=>(J.old k (Nat.lt_of_lt_of_le hk h4)).trans (h3 k hk),Nat.le_trans h4 J.le,rfl⟩)
  ·obtain⟨q1,q2,q3⟩:=hbs x hx
   exact⟨q1,q2,by rw [J.below.block x q2];exact q3⟩
  ·exact (h2.trans (J.below.mono h1)).trans hb2
 refine vcode_ok hT hC hY hD hDY hm none hR hRm b hp _ _ _ _ h nx hl B w ι nx _ hM ⟨?_,?_,?_⟩ ι _ w ?_
 ·exact fun ι' e h' nx' a w' hv I=>hend ι' e h' nx' a w' hv I
 ·exact fun id ι' e h' nx' a w' hv I=>hv.elim
 ·exact fun ι' e h' nx' a w' hv I=>hend ι' e h' nx' a w' hv I
 ·refine⟨B,w,ι,nx,[],Nat.le_refl _,Bel.refl _ _,fun _ _=>rfl,Nat.le_refl _,⟨[],rfl,by simp,by simp⟩,initEnv_ok hs,H,Bel.refl _ _,fun _ _=>rfl,Nat.le_refl _,?_,rfl⟩
  simp
  omega
end
end Go.Aw
end
