/-
  Parts of a proof. No condition.
-/
import Derived.Test.YthgjfhncomhofaaGreatQAc
import Derived.RangeFuncLeaves
set_option linter.unusedSimpArgs false
set_option linter.unusedVariables false
noncomputable section
namespace Go.Aw
open Go.RowKit
section
variable {P:Program}{T:dN}{C:VC}{Y:VY}{ops:Array Oper}{p:gQ}
variable {B:Nat}{w0:World}{ιb:Nat->Loc}{nxb tn:Nat}{ds:List Deferred}{ι0:Nat->Loc}{nx0:Nat}{h0 hJ:Heap}{a0:Act}{wS:World}{vals:List (Nat × Value)}{env1:List (Nat × Value)}{K:KS}
def AX (listed:Array Bool)(i:Nat):Prop:=listed.getD i false=true
theorem AX.set {listed:Array Bool}{i:Nat}(hi:i<listed.size):AX (listed.setIfInBounds i true)=LI (AX listed) i:=by
 funext j;unfold AX LI;apply propext;by_cases h:j=i
 ·subst h;simp[hi]
 rw[getD_set_ne false (fun e=>h e.symm)];simp[h]
theorem pX {listed:Array Bool}(hs:listed.size=ops.size){i:Nat}:i∈Region.ready .any ops listed↔i<ops.size/\¬ AX listed i/\∀ j∈dC ops.toList i,AX listed j:=by
 rw[mem_ready];constructor
 ·rintro⟨h1,o,ho,h2⟩;have hlt:=(Array.getElem?_eq_some_iff.1 ho).1;refine⟨hlt,?_,fun j hj=>?_⟩
  ·unfold AX;have hl:i<listed.size:=aa;simp[hl]at h1 ⊢;exact h1
  have:hH ops.toList i=some o:=(by rw[fO];simpa using ho);simp only[dC,this,oB,List.mem_filterMap]at hj;obtain⟨e,he,hj⟩:=hj;split at hj
  ·rename_i hb;injection hj with hj;subst hj;exact h2 e (by simpa using he) hb
  ·cases hj
 rintro⟨hlt,h1,h2⟩;refine⟨?_,ops[i],by simp[hlt],fun e he hb=>?_⟩
 ·have hl:i<listed.size:=aa;unfold AX at h1;simp[hl]at h1 ⊢;exact h1
 refine h2 e.on ?_;have:hH ops.toList i=some ops[i]:=(by rw[fO];simp[hlt]);simp only[dC,this,oB,List.mem_filterMap];exact⟨e,by simpa using he,by rw[hb]⟩
def left (n:Nat)(listed:Array Bool):Nat:=((List.range n).filter fun i=>!listed.getD i false).length
theorem EC {n:Nat}{listed:Array Bool}{i:Nat}(hi:i<n)(hs:listed.size=n)(hn:¬ AX listed i):left n (listed.setIfInBounds i true)<left n listed:=by
 unfold left;have:(List.range n).filter (fun j=>!(listed.setIfInBounds i true).getD j false)=((List.range n).filter fun j=>!listed.getD j false).filter (fun j=>decide (j≠i)):=by
  rw[List.filter_filter];apply List.filter_congr;intro j hj;by_cases h:j=i
  ·subst h;have hl:j<listed.size:=aa;simp[hl]
  rw[getD_set_ne false (fun e=>h e.symm)];simp[h]
 rw[this];refine Nat.lt_of_le_of_ne (List.length_filter_le _ _) fun e=>?_;have:=List.length_filter_eq_length_iff.1 e i (List.mem_filter.2 ⟨by simpa using hi,by unfold AX at hn;simpa using hn⟩);simp at this
theorem R5 (hp:oV ops p){listed:Array Bool}(hs:listed.size=ops.size)(h:Region.ready .any ops listed=[]):∀ i,i<ops.size->AX listed i:=by
 intro i
 induction i using Nat.strongRecOn with
 |_ i ih =>
  intro hi;refine Classical.byContradiction fun hn=>?_;have:i∈Region.ready .any ops listed:=(pX hs).2 ⟨hi,hn,fun j hj=>ih j (hp.lin i hi j hj) (by have:=hp.lin i hi j hj;omega)⟩;rw[h]at this;cases this
theorem VI (X:Ctx P T C Y ops p B w0 ιb nxb tn ds ι0 nx0 h0 hJ a0 wS vals env1 K){L:Nat->Prop}{a:Act}{w:World}(hall:∀ i,i<ops.size->L i)
  (S:NJ T ops p tn ds ι0 a0 wS vals L a w\/yK T C Y ops p B w0 ιb nxb tn ds ι0 nx0 hJ a0 vals K L a w):∃ ι env h nx,K env h nx/\Inv B w0 ιb nxb tn ds ι env h nx a w:=by
 have hin:∀ i∈p.order,L i:=fun i hi=>hall i (X.plan.SQ i hi);have S:yK T C Y ops p B w0 ιb nxb tn ds ι0 nx0 hJ a0 vals K L a w:=by
  rcases S with S|S
  ·exact S.post X (fun i hi=>hin i (jQ.2 (.inr (.inl hi)))) (fun i hi _=>hin i (jQ.2 (.inl hi)))
  exact S
 obtain⟨done,rest,a',ι,env,h,nx,e1,e2,e3,e4,e5,I,J,e6,e7,e8,_,_⟩:=S;cases rest with
 |cons t r=>exact absurd (hin t.1 (jQ.2 (.inr (.inr (List.mem_map.2 ⟨t,by rw[e1];simp,rfl⟩))))) (e3 t (by simp))
 |nil =>
  exact⟨ι,env,h,nx,e8,J.env.congr (fun d=>(I.q2 d fun i hi _=>hin i (jQ.2 (.inl hi))).symm),J.heap,J.below,J.old,J.le,I.size,I.defers⟩
theorem X1 (X:Ctx P T C Y ops p B w0 ιb nxb tn ds ι0 nx0 h0 hJ a0 wS vals env1 K)(r:Option Nat){Q:Exit->Act->World->Prop}
  (hQ:∀ ι env h nx a w,K env h nx->Inv B w0 ιb nxb tn ds ι env h nx a w->Q .normal a w):∀(fuel:Nat) (listed:Array Bool) (a:Act) (w:World),listed.size=ops.size->left ops.size listed<=fuel ->
  (∀ i,AX listed i->∀ j∈dC ops.toList i,AX listed j) ->
  (NJ T ops p tn ds ι0 a0 wS vals (AX listed) a w\/yK T C Y ops p B w0 ιb nxb tn ds ι0 nx0 hJ a0 vals K (AX listed) a w)->wpAnyIn (Fr r) 0 P .any ops Q fuel listed a w:=by
 have fin:∀(listed:Array Bool) (a:Act) (w:World),listed.size=ops.size->Region.ready .any ops listed=[] ->
   (NJ T ops p tn ds ι0 a0 wS vals (AX listed) a w\/yK T C Y ops p B w0 ιb nxb tn ds ι0 nx0 hJ a0 vals K (AX listed) a w)->Q .normal a w:=by
  intro listed a w hs hr S;obtain⟨ι,env,h,nx,h1,h2⟩:=VI X (R5 X.plan hs hr) S;exact hQ ι env h nx a w h1 h2
 intro fuel
 induction fuel with
 |zero =>
  intro listed a w hs hl cl S;have hr:Region.ready .any ops listed=[]:=by
   refine List.eq_nil_iff_forall_not_mem.2 fun i hi=>?_;obtain⟨h1,h2,_⟩:=(pX hs).1 hi;have:=EC h1 hs h2;omega
  exact⟨hr,fin listed a w hs hr S⟩
 |succ fuel ih =>
  intro listed a w hs hl cl S;refine⟨fun hr=>fin listed a w hs hr S,fun i hi=>?_⟩;obtain⟨h1,h2,h3⟩:=(pX hs).1 hi;have hL:∀ i,AX listed i->i<ops.size:=by
   intro j hj;unfold AX at hj;by_cases h:j<listed.size
   ·omega
   simp[h]at hj
  have next:∀ a w,(NJ T ops p tn ds ι0 a0 wS vals (LI (AX listed) i) a w\/yK T C Y ops p B w0 ιb nxb tn ds ι0 nx0 hJ a0 vals K (LI (AX listed) i) a w) ->
    wpAnyIn (Fr r) 0 P .any ops Q fuel (listed.setIfInBounds i true) a w:=by
   intro a w S';have hset:=AX.set (listed:=listed) (i:=i) aa;refine ih _ a w (by simp[hs]) (by have:=EC h1 hs h2;omega) ?_ (by rw[hset];exact S');rw[hset];rintro j (rfl|hj) k hk
   ·exact .inr (h3 k hk)
   exact .inr (cl j hj k hk)
  rcases jQ.1 (X.plan.cover i h1)with h|h|h
  ·exact aD9 X cl hL h h2 h3 S r _ Q next
  ·rcases S with S|S
   ·exact YV X h h2 S r _ Q fun a w s=>next a w (.inl s)
   obtain⟨_,_,_,_,_,_,_,_,_,_,e4,_⟩:=S;exact absurd (e4 i h) h2
  have S:yK T C Y ops p B w0 ιb nxb tn ds ι0 nx0 hJ a0 vals K (AX listed) a w:=by
   rcases S with S|S
   ·have hfirst:=K3 X.plan.tailP (L:=AX listed) (fun t ht=>S.noT _ (List.mem_map.2 ⟨t,ht,rfl⟩)) h cl h3;obtain⟨c,rr,hrr⟩:=hfirst;obtain⟨f1,f2⟩:=X.plan.first i c rr hrr;exact S.post X (fun j hj=>qC cl h3 j (f1 j hj)) (fun j hj hk=>qC cl h3 j (f2 j hj hk))
   exact S
  exact aCo X h h2 cl h3 S r _ Q fun a w s=>next a w (.inr s)
theorem W3 (hT:dJ P T)(hC:bN P C)(hY:fZ P Y)(hD:fG C)(hm:P.follows .mixedOrders=true)(hp:oV ops p){ι:Nat->Loc}{env:List (Nat × Value)}{h:Heap}{nx:Nat}{a:Act}{w:World}(I:Inv B w0 ιb nxb tn ds ι env h nx a w)
  (hl:r9 aF T C Y tn ops.toList p env h nx K) (r:Option Nat) {id:Nat} {Q:Exit->Act->World->Prop} (hQ:∀ ι env h nx a w,K env h nx->Inv B w0 ιb nxb tn ds ι env h nx a w->Q .normal a w) :
  (Code.region id ops true).wpIn (Fr r) 0 P Q a w:=by
 refine wpIn_region_any hm ?_;unfold r9 at hl;have H:=I.heap.drawn (w.drawn+1);have hb:jO B w { w with drawn:=w.drawn+1 }:=⟨rfl,rfl,rfl,ah _,fun _ _=>rfl,Nat.le_succ _⟩;have hsub:∀ k o,aw (N1 T ops.toList env p h) k=some o->aw h k=some o:=fun k o hk=>aEw k o hk;obtain⟨vals,env1,ι,nx,k1,hi,hn,k2,k3,k4,k5⟩:=S3 hT hC hD hp.plain p.head env a ι nx (H.sub hsub) hl I.env I.size;have X:Ctx P T C Y ops p B w0 ιb nxb tn ds ι nx h (N1 T ops.toList env p h) a { w with drawn:=w.drawn+1 } vals env1 K :=
  ⟨hT,hC,hY,hp,fun k hk=>(hi k (Nat.lt_of_lt_of_le hk I.le)).trans (I.old k hk),Nat.le_trans I.le hn,I.size,I.defers,H.wide hi hn,I.below.trans hb,hsub,k2,k3,k4,k5,k1⟩
 have hno:∀ i,¬ AX (Array.replicate ops.size false) i:=by
  intro i;unfold AX;by_cases h:i<ops.size <;> simp[h]
 refine X1 X r hQ ops.size _ a _ (by simp) ?_ (fun i hi=>absurd hi (hno i)) (.inl ?_)
 ·unfold left;exact Nat.le_trans (List.length_filter_le _ _) (by simp)
 refine⟨fun t _=>hno t,jO.refl _ _,kY ops ι vals a,fun _=>0,?_,fun d _=>rfl,fun i _ hi=>absurd hi (hno i),fun i _ j _ hi=>absurd hi (hno i)⟩;have hmem:∀ i v,(i,v)∈vals->i∈p.head:=fun i v h=>(by rw[<- k2];exact List.mem_map.2 ⟨_,h,rfl⟩);have hnd:(vals.map (·.1)).Nodup:=by
  have:=hp.nodup;unfold gQ.order at this;rw[List.append_assoc,List.nodup_append]at this;rw[k2];exact this.1
 refine⟨I.size,by rw[wU];exact I.size,I.defers,by rw[AP];exact I.defers,fun i v d hi hd=>?_,fun d hd=>?_,fun d hd=>?_,fun i d _ _ _=>rfl⟩
 ·exact xV vals a (by rw[I.size];exact k4 _ hi d hd) hi hd (fun q hq h2=>hp.dsts _ _ d (oW h2) (oW hd) h2 hd) hnd
 ·rw[mG];intro q hq hqd;exact hno q.1 (hd q.1 (hmem q.1 q.2 hq) hqd)
 rw[mG];intro q hq;exact hd q.1 (.inl (hmem q.1 q.2 hq))
end
def zO {α:Type}(E:(α->Prop)->Prop):Prop:=∀ K,E K->∃ x,K x/\∀ K':α->Prop,K' x->E K'
def gN (E:KE->Prop):Prop:=∀ K:KE,E K->∃ v h nx,K v h nx/\∀ K':KE,K' v h nx->E K'
def nV (E:KS->Prop):Prop:=∀ K:KS,E K->∃ e h nx,K e h nx/\∀ K':KS,K' e h nx->E K'
theorem aN6 {b:Bool}{A B:Unit->Prop}:br b A B↔((b=true/\A ())\/(b=false/\B ())):=by
 cases b <;> simp[br]
variable {A:Ar}{T:dN}{h:Heap}{nx:Nat}
theorem kV {α:Type}{x:Option Value}{F:Value->(α->Prop)->Prop}(hF:∀ v,zO (F v)):zO (fun K=>on x (fun v=>F v K)):=by
 intro K hl;cases x with
 |none=>exact hl.elim
 |some v=>exact hF v K hl
theorem kK {x:Option Value}{F:Value->KE->Prop}(hF:∀ v,gN (F v)):gN (fun K=>on x (fun v=>F v K)):=by
 intro K hl;cases x with
 |none=>exact hl.elim
 |some v=>exact hF v K hl
theorem y9 {x:Option Value}:zO (on x):=by
 intro K hl;cases x with
 |none=>exact hl.elim
 |some v=>exact⟨v,hl,fun K' h=>h⟩
theorem O6 {t:TypeId}{x:Value}:zO (yL T h t x):=by
 intro K hl;unfold yL at *
 repeat' (split at hl)
 all_goals first|(exact hl.elim)|(exact⟨_,hl,fun K' h=>h⟩)|(exact⟨_,_,_,hl,fun K' h=>h⟩)|(obtain⟨hb,hl⟩:=aH.1 hl;exact⟨_,hl,fun K' h=>aM hb h⟩)|(obtain⟨hb,hl⟩:=aH.1 hl;exact⟨_,_,_,hl,fun K' h=>aM hb h⟩)
theorem JB {t:TypeId}{x:Value}{f:Nat}:zO (kB T t x f):=by
 intro K hl;unfold kB at *
 repeat' (split at hl)
 all_goals first|(exact hl.elim)|(exact⟨_,hl,fun K' h=>h⟩)|(exact⟨_,_,_,hl,fun K' h=>h⟩)|(obtain⟨hb,hl⟩:=aH.1 hl;exact⟨_,hl,fun K' h=>aM hb h⟩)|(obtain⟨hb,hl⟩:=aH.1 hl;exact⟨_,_,_,hl,fun K' h=>aM hb h⟩)
theorem VV {α:Type}{b:Bool}{E:(α->Prop)->Prop}(h:zO E):zO (fun K=>eF b (E K)):=by
 intro K hl;obtain⟨hb,hl⟩:=aH.1 hl;obtain⟨x,h1,h2⟩:=h K hl;exact⟨x,h1,fun K' hk=>aM hb (h2 K' hk)⟩
theorem iR {b:Bool}{E:KE->Prop}(h:gN E):gN (fun K=>eF b (E K)):=by
 intro K hl;obtain⟨hb,hl⟩:=aH.1 hl;obtain⟨x,y,z,h1,h2⟩:=h K hl;exact⟨x,y,z,h1,fun K' hk=>aM hb (h2 K' hk)⟩
theorem DI {α:Type}{x:α}:zO (fun K:α->Prop=>K x):=fun K hl=>⟨x,hl,fun K' h=>h⟩
theorem dF {v:Value}{h:Heap}{nx:Nat}:gN (fun K=>K v h nx):=fun K hl=>⟨v,h,nx,hl,fun K' h=>h⟩
theorem aCG {α:Type}:zO (fun _:α->Prop=>False):=fun K hl=>hl.elim
theorem iD:gN (fun _=>False):=fun K hl=>hl.elim
theorem aNg {α:Type}{b:Bool}{E F:(α->Prop)->Prop}(hE:zO E)(hF:zO F):zO (fun K=>br b (fun _=>E K) (fun _=>F K)):=by
 intro K hl;cases b
 ·exact hF K hl
 exact hE K hl
theorem D1 {b:Bool}{E F:KE->Prop}(hE:gN E)(hF:gN F):gN (fun K=>br b (fun _=>E K) (fun _=>F K)):=by
 intro K hl;cases b
 ·exact hF K hl
 exact hE K hl
theorem LJ {t:TypeId}{x i:Value}:zO (j8 A T t x i):=by
 intro K hl;unfold j8 at *
 repeat' (split at hl)
 all_goals first|(exact hl.elim)|(exact⟨_,hl,fun K' h=>h⟩)|(exact⟨_,_,_,hl,fun K' h=>h⟩)|(obtain⟨hb,hl⟩:=aH.1 hl;exact⟨_,hl,fun K' h=>aM hb h⟩)|(obtain⟨hb,hl⟩:=aH.1 hl;exact⟨_,_,_,hl,fun K' h=>aM hb h⟩)
theorem aGl {op:BinOp}{k:IntKind}{a b:Int}:zO (aCR A op k a b):=by
 intro K hl;unfold aCR at *
 repeat' (split at hl)
 all_goals first|(exact hl.elim)|(exact⟨_,hl,fun K' h=>h⟩)|(exact⟨_,_,_,hl,fun K' h=>h⟩)|(obtain⟨hb,hl⟩:=aH.1 hl;exact⟨_,hl,fun K' h=>aM hb h⟩)|(obtain⟨hb,hl⟩:=aH.1 hl;exact⟨_,_,_,hl,fun K' h=>aM hb h⟩)
theorem PG {t:TypeId}{cs:List Value}{o:Nat}:zO (GC T t cs o):=by
 intro K hl;unfold GC at *
 repeat' (split at hl)
 all_goals first|(exact hl.elim)|(exact⟨_,hl,fun K' h=>h⟩)|(exact⟨_,_,_,hl,fun K' h=>h⟩)|(obtain⟨hb,hl⟩:=aH.1 hl;exact⟨_,hl,fun K' h=>aM hb h⟩)|(obtain⟨hb,hl⟩:=aH.1 hl;exact⟨_,_,_,hl,fun K' h=>aM hb h⟩)
theorem ZE {t:TypeId}{x:Value}{f:Nat}:zO (xD T t x f):=by
 intro K hl;unfold xD at *
 repeat' (split at hl)
 all_goals first|(exact PG K hl)|(exact hl.elim)|(exact⟨_,hl,fun K' h=>h⟩)|(exact⟨_,_,_,hl,fun K' h=>h⟩)|(obtain⟨hb,hl⟩:=aH.1 hl;exact⟨_,hl,fun K' h=>aM hb h⟩)|(obtain⟨hb,hl⟩:=aH.1 hl;exact⟨_,_,_,hl,fun K' h=>aM hb h⟩)
theorem WW {t:TypeId}{x i:Value}:zO (x8 A T t x i):=by
 intro K hl;unfold x8 at *
 repeat' (split at hl)
 all_goals first|(exact VV PG K hl)|(exact hl.elim)|(exact⟨_,hl,fun K' h=>h⟩)|(exact⟨_,_,_,hl,fun K' h=>h⟩)|(obtain⟨hb,hl⟩:=aH.1 hl;exact⟨_,hl,fun K' h=>aM hb h⟩)|(obtain⟨hb,hl⟩:=aH.1 hl;exact⟨_,_,_,hl,fun K' h=>aM hb h⟩)
theorem aEU {op:BinOp}{t:TypeId}{x y:Value}:zO (YN A T op t x y):=by
 intro K hl;unfold YN at *
 repeat' (split at hl)
 all_goals first|(exact hl.elim)|(exact⟨_,hl,fun K' h=>h⟩)|(exact⟨_,_,_,hl,fun K' h=>h⟩)|(obtain⟨hb,hl⟩:=aH.1 hl;exact⟨_,hl,fun K' h=>aM hb h⟩)|(obtain⟨hb,hl⟩:=aH.1 hl;exact⟨_,_,_,hl,fun K' h=>aM hb h⟩)|(exact aGl K hl)
theorem aK3 {op:UnOp}{x:Value}:zO (vun A op x):=by
 intro K hl;unfold vun at *
 repeat' (split at hl)
 all_goals first|(exact hl.elim)|(exact⟨_,hl,fun K' h=>h⟩)|(exact⟨_,_,_,hl,fun K' h=>h⟩)|(obtain⟨hb,hl⟩:=aH.1 hl;exact⟨_,hl,fun K' h=>aM hb h⟩)|(obtain⟨hb,hl⟩:=aH.1 hl;exact⟨_,_,_,hl,fun K' h=>aM hb h⟩)
theorem WS {t:TypeId}{ps:List (Nat × Value)}:zO (BH T t ps):=by
 intro K hl;unfold BH at *
 repeat' (split at hl)
 all_goals first|(exact hl.elim)|(exact⟨_,hl,fun K' h=>h⟩)|(exact⟨_,_,_,hl,fun K' h=>h⟩)|(obtain⟨hb,hl⟩:=aH.1 hl;exact⟨_,hl,fun K' h=>aM hb h⟩)|(obtain⟨hb,hl⟩:=aH.1 hl;exact⟨_,_,_,hl,fun K' h=>aM hb h⟩)
theorem Q9 {b:Builtin}{ts:Array TypeId}{vs:List Value}:zO (qO A T b ts vs):=by
 intro K hl;unfold qO at *
 repeat' (split at hl)
 all_goals first|(exact hl.elim)|(exact⟨_,hl,fun K' h=>h⟩)|(exact⟨_,_,_,hl,fun K' h=>h⟩)|(obtain⟨hb,hl⟩:=aH.1 hl;exact⟨_,hl,fun K' h=>aM hb h⟩)|(obtain⟨hb,hl⟩:=aH.1 hl;exact⟨_,_,_,hl,fun K' h=>aM hb h⟩)|(exact y9 K hl)
theorem aEr {op:BinOp}{t:TypeId}{x:Value}:zO (XZ T h op t x):=by
 intro K hl;unfold XZ at *
 repeat' (split at hl)
 all_goals first|(exact hl.elim)|(exact⟨_,hl,fun K' h=>h⟩)
theorem PK {env:List (Nat × Value)}{op:Op}:zO (kU A T env h op):=by
 show zO (fun K=>kU A T env h op K);cases op <;> simp only[kU]
 case move x=>exact y9
 case assign x=>exact y9
 case pick c a b =>
  refine kV fun u=>?_;intro K hl;split at hl
  ·exact aNg y9 y9 K hl
  exact hl.elim
 case nilCheck x =>
  refine kV fun u=>?_;intro K hl;split at hl
  all_goals first|(exact hl.elim)|(exact⟨_,hl,fun K' h=>h⟩)
 case load t x=>exact kV fun u=>O6
 case fieldAddr s x f=>exact kV fun u=>JB
 case field s x f=>exact kV fun u=>ZE
 case indexAddr t x i=>exact kV fun u=>kV fun j=>LJ
 case index t x i=>exact kV fun u=>kV fun j=>WW
 case binOp op t x y yt =>
  refine kV fun u=>kV fun v=>?_;intro K hl;split at hl
  ·exact aEr K hl
  exact aEU K hl
 case unOp op t x=>exact kV fun u=>aK3
 case convert s d x =>
  refine kV fun u=>?_;intro K hl;split at hl
  ·exact VV DI K hl
  exact hl.elim
 case makeFunc fn first cap =>
  intro K hl
  repeat' (split at hl)
  all_goals first|(exact hl.elim)|(exact⟨_,hl,fun K' h=>h⟩)
 case extract x i =>
  refine kV fun u=>?_;intro K hl;split at hl
  ·exact y9 K hl
  exact hl.elim
 case build t ps =>
  intro K hl;split at hl
  ·exact WS K hl
  exact hl.elim
 case call c =>
  intro K hl;split at hl
  ·split at hl
   ·exact Q9 K hl
   exact hl.elim
  exact hl.elim
 all_goals exact aCG
theorem aA5 {E:(Value->Prop)->Prop}(hE:zO E):gN (fun K=>E (fun v=>K v h nx)):=by
 intro K hl;obtain⟨v,h1,h2⟩:=hE _ hl;exact⟨v,h,nx,h1,fun K' hk=>h2 _ hk⟩
theorem XG {t:TypeId}{x v:Value}:gN (qL T h nx t x v):=by
 intro K hl;unfold qL at *
 repeat' (split at hl)
 all_goals first|(exact hl.elim)|(exact⟨_,hl,fun K' h=>h⟩)|(exact⟨_,_,_,hl,fun K' h=>h⟩)|(obtain⟨hb,hl⟩:=aH.1 hl;exact⟨_,hl,fun K' h=>aM hb h⟩)|(obtain⟨hb,hl⟩:=aH.1 hl;exact⟨_,_,_,hl,fun K' h=>aM hb h⟩)
theorem WY {t:TypeId}:gN (AT T h nx t):=by
 intro K hl;unfold AT at *
 repeat' (split at hl)
 all_goals first|(exact hl.elim)|(exact⟨_,hl,fun K' h=>h⟩)|(exact⟨_,_,_,hl,fun K' h=>h⟩)|(obtain⟨hb,hl⟩:=aH.1 hl;exact⟨_,hl,fun K' h=>aM hb h⟩)|(obtain⟨hb,hl⟩:=aH.1 hl;exact⟨_,_,_,hl,fun K' h=>aM hb h⟩)
theorem aE6 {v:Value}:gN (XA h nx v):=by
 intro K hl;unfold XA at *
 repeat' (split at hl)
 all_goals first|(exact hl.elim)|(exact⟨_,hl,fun K' h=>h⟩)|(exact⟨_,_,_,hl,fun K' h=>h⟩)|(obtain⟨hb,hl⟩:=aH.1 hl;exact⟨_,hl,fun K' h=>aM hb h⟩)|(obtain⟨hb,hl⟩:=aH.1 hl;exact⟨_,_,_,hl,fun K' h=>aM hb h⟩)
theorem G7 {t:TypeId}{n:Nat}{ps:List (Nat × Value)}:gN (fP T h nx t n ps):=by
 intro K hl;unfold fP at *
 repeat' (split at hl)
 all_goals first|(exact hl.elim)|(exact⟨_,hl,fun K' h=>h⟩)|(exact⟨_,_,_,hl,fun K' h=>h⟩)|(obtain⟨hb,hl⟩:=aH.1 hl;exact⟨_,hl,fun K' h=>aM hb h⟩)|(obtain⟨hb,hl⟩:=aH.1 hl;exact⟨_,_,_,hl,fun K' h=>aM hb h⟩)
theorem WJ {t:TypeId}{x:Value}:gN (A2 T h nx t x):=by
 intro K hl;unfold A2 at *
 repeat' (split at hl)
 all_goals first|(exact hl.elim)|(exact⟨_,hl,fun K' h=>h⟩)|(exact⟨_,_,_,hl,fun K' h=>h⟩)|(obtain⟨hb,hl⟩:=aH.1 hl;exact⟨_,hl,fun K' h=>aM hb h⟩)|(obtain⟨hb,hl⟩:=aH.1 hl;exact⟨_,_,_,hl,fun K' h=>aM hb h⟩)
theorem MK {t:TypeId}{x k v:Value}:gN (lV A T h nx t x k v):=by
 intro K hl;unfold lV at *
 repeat' (split at hl)
 all_goals first|(exact hl.elim)|(exact⟨_,hl,fun K' h=>h⟩)|(exact⟨_,_,_,hl,fun K' h=>h⟩)|(obtain⟨hb,hl⟩:=aH.1 hl;exact⟨_,hl,fun K' h=>aM hb h⟩)|(obtain⟨hb,hl⟩:=aH.1 hl;exact⟨_,_,_,hl,fun K' h=>aM hb h⟩)
theorem GD {t:TypeId}{x k:Value}{ok:Bool}:zO (r6 A T h t x k ok):=by
 intro K hl;unfold r6 at *
 repeat' (split at hl)
 all_goals first|(exact hl.elim)|(exact⟨_,hl,fun K' h=>h⟩)|(exact⟨_,_,_,hl,fun K' h=>h⟩)|(obtain⟨hb,hl⟩:=aH.1 hl;exact⟨_,hl,fun K' h=>aM hb h⟩)|(obtain⟨hb,hl⟩:=aH.1 hl;exact⟨_,_,_,hl,fun K' h=>aM hb h⟩)
theorem aDV {n c:Nat}{hi:Option Value}{G:Nat->KE->Prop}(hG:∀ m,gN (G m)):gN (fun K=>vhi A n c hi fun m=>G m K):=by
 intro K hl;unfold vhi at *;split at hl
 ·exact hG _ K hl
 ·exact iR (hG _) K hl
 exact hl.elim
theorem J3 {t:TypeId}{x:Value}{lo hi mx:Option Value}:gN (xO A T h nx t x lo hi mx):=by
 intro K hl;unfold xO at *;split at hl
 case h_2=>exact hl.elim
 split at hl
 ·exact hl.elim
 split at hl
 ·split at hl
  ·exact dF K hl
  exact hl.elim
 ·refine aDV (fun m=>?_) K hl;intro K hl;split at hl
  ·exact dF K hl
  ·refine iR ?_ K hl;intro K hl;split at hl
   ·exact D1 dF dF K hl
   exact hl.elim
  exact hl.elim
 ·split at hl
  ·exact dF K hl
  exact hl.elim
 ·split at hl
  ·exact iR dF K hl
  ·exact iR dF K hl
  exact hl.elim
 ·split at hl
  ·exact dF K hl
  exact hl.elim
 exact hl.elim
theorem aDb {sz:Nat}{x:Value}{G:Nat->List Value->KE->Prop}(hG:∀ m l,gN (G m l)):gN (fun K=>NA h sz x fun m l=>G m l K):=by
 intro K hl;unfold NA at *;split at hl
 ·exact hG _ _ K hl
 ·split at hl
  ·exact iR (hG _ _) K hl
  ·split at hl
   ·exact hG _ _ K hl
   exact hl.elim
  ·split at hl
   ·exact hG _ _ K hl
   exact hl.elim
  exact hl.elim
 exact hl.elim
theorem M4 {t:TypeId}{l c:Value}:gN (lW A T h nx t l c):=by
 intro K hl;unfold lW at *;split at hl
 case h_2=>exact hl.elim
 split at hl
 case h_2=>exact hl.elim
 exact iR dF K hl
theorem VF {st xt:TypeId}{s x:Value}:gN (oA A T h nx st xt s x):=by
 intro K hl;unfold oA at *;split at hl
 case h_3=>exact hl.elim
 case h_1 =>
  split at hl
  case h_2=>exact hl.elim
  split at hl
  case h_2=>exact hl.elim
  exact iR dF K hl
 split at hl
 ·exact hl.elim
 split at hl
 ·exact hl.elim
 refine aDb (fun m l=>?_) K hl;intro K hl;split at hl
 ·exact D1 dF (iR dF) K hl
 ·split at hl
  ·split at hl
   ·exact D1 dF (iR dF) K hl
   exact hl.elim
  ·exact D1 (iR dF) (iR dF) K hl
  exact hl.elim
 exact hl.elim
end Go.Aw
end

noncomputable section
namespace Go.Aw
open Go.RowKit
variable {A:Ar}{T:dN}{C:VC}{Y:VY}
theorem JA (hC:fG C)(hY:fG Y){env:List (Nat × Value)}{h:Heap}{nx:Nat}{op:Op}:gN (tD A T C Y env h nx op):=by
 have hlook:gN (fun K=>kU A T env h op (fun v=>K v h nx)):=aA5 PK;show gN (fun K=>tD A T C Y env h nx op K);cases op
 case store t x y=>exact kK fun p=>kK fun v=>XG
 case alloc t=>exact WY
 case box t x=>exact kK fun v=>aE6
 case buildSlice t n ps =>
  simp only[tD];intro K hl;split at hl
  ·exact G7 K hl
  exact hl.elim
 case slice t x lo hi mx =>
  simp only[tD];refine kK fun v=>?_;intro K hl;split at hl
  ·exact J3 K hl
  exact hl.elim
 case makeSlice t l c =>
  simp only[tD];exact kK fun x=>kK fun y=>M4
 case makeMap t r =>
  cases r with
  |none=>exact dF
  |some r=>exact hlook
 case lookup t m k ok=>exact kK fun x=>kK fun y=>aA5 GD
 case mapUpdate t m k u=>exact kK fun x=>kK fun y=>kK fun v=>MK
 case call c =>
  obtain⟨cal,args,ats⟩:=c;cases cal with
  |invoke r m=>exact iD
  |builtin b =>
   cases b
   case append =>
    simp only[tD];intro K hl;split at hl
    ·exact VF K hl
    exact hl.elim
   case clear =>
    simp only[tD];intro K hl;split at hl
    ·exact WJ K hl
    exact hl.elim
   all_goals exact hlook
  |value f =>
   simp only[tD];refine kK fun fv=>?_;intro K hl;split at hl
   ·split at hl
    ·split at hl
     ·exact hC _ _ _ _ K hl
     exact hl.elim
    ·split at hl
     ·exact hY _ _ _ _ K hl
     exact hl.elim
    exact hl.elim
   exact hl.elim
 all_goals exact hlook
theorem D8 {ops:List Oper}{env:List (Nat × Value)}{g:Option (Nat × Bool)}:(∃ e,∀ Yk N,iM A ops env g Yk N=Yk e)\/(∃ e,∀ Yk N,iM A ops env g Yk N=N e)\/(∀ Yk N,iM A ops env g Yk N=False):=by
 unfold iM;cases g with
 |none=>exact .inl ⟨env,fun _ _=>rfl⟩
 |some gw =>
  obtain⟨j,want⟩:=gw;simp only;cases hH ops j with
  |none=>exact .inr (.inr fun _ _=>rfl)
  |some o =>
   simp only;cases o.dst with
   |none=>exact .inr (.inr fun _ _=>rfl)
   |some t =>
    simp only;cases aw env t with
    |none=>exact .inr (.inr fun _ _=>rfl)
    |some v =>
     cases v with
     |tuple vs=>exact .inr (.inl ⟨env,fun _ _=>rfl⟩)
     |bool b =>
      simp only;cases A.eqB b want with
      |true=>exact .inl ⟨_,fun _ _=>rfl⟩
      |false=>exact .inr (.inl ⟨_,fun _ _=>rfl⟩)
     |_=>exact .inr (.inr fun _ _=>rfl)
theorem MF {tn:Nat}{env:List (Nat × Value)}{dst:Option Nat}{v:Value}:(∃ e,∀ K,fW tn env dst v K=K e)\/(∀ K,fW tn env dst v K=False):=by
 unfold fW;cases dst with
 |none=>exact .inl ⟨env,fun _=>rfl⟩
 |some d =>
  simp only;cases Nat.blt d tn with
  |true=>exact .inl ⟨_,fun _=>rfl⟩
  |false=>exact .inr fun _=>rfl
theorem pR {e:List (Nat × Value)}{h:Heap}{nx:Nat}:nV (fun K=>K e h nx):=fun K hl=>⟨e,h,nx,hl,fun K' h=>h⟩
theorem BD:nV (fun _=>False):=fun K hl=>hl.elim
theorem BA {ops:List Oper}{env:List (Nat × Value)}{g:Option (Nat × Bool)}{F G:List (Nat × Value)->KS->Prop}(hF:∀ e,nV (F e))(hG:∀ e,nV (G e)):nV (fun K=>iM A ops env g (fun e=>F e K) (fun e=>G e K)):=by
 rcases D8 (A:=A) (ops:=ops) (env:=env) (g:=g)with⟨e,h⟩|⟨e,h⟩|h
 ·simp only[h];exact hF e
 ·simp only[h];exact hG e
 simp only[h];exact BD
theorem qU {tn:Nat}{env:List (Nat × Value)}{dst:Option Nat}{v:Value}{F:List (Nat × Value)->KS->Prop}(hF:∀ e,nV (F e)):nV (fun K=>fW tn env dst v (fun e=>F e K)):=by
 rcases MF (tn:=tn) (env:=env) (dst:=dst) (v:=v)with⟨e,h⟩|h
 ·simp only[h];exact hF e
 simp only[h];exact BD
theorem FH {E:KE->Prop}{F:Value->Heap->Nat->KS->Prop}(hE:gN E)(hF:∀ v h nx,nV (F v h nx)):nV (fun K=>E (fun v h nx=>F v h nx K)):=by
 intro K hl;obtain⟨v,h,nx,h1,h2⟩:=hE _ hl;obtain⟨e,h',nx',h3,h4⟩:=hF v h nx K h1;exact⟨e,h',nx',h3,fun K' hk=>h2 _ (h4 K' hk)⟩
theorem YZ {E:KS->Prop}{F:List (Nat × Value)->Heap->Nat->KS->Prop}(hE:nV E)(hF:∀ v h nx,nV (F v h nx)):nV (fun K=>E (fun v h nx=>F v h nx K)):=by
 intro K hl;obtain⟨v,h,nx,h1,h2⟩:=hE _ hl;obtain⟨e,h',nx',h3,h4⟩:=hF v h nx K h1;exact⟨e,h',nx',h3,fun K' hk=>h2 _ (h4 K' hk)⟩
theorem aDz {b:Bool}{E:KS->Prop}(h:nV E):nV (fun K=>eF b (E K)):=by
 intro K hl;obtain⟨hb,hl⟩:=aH.1 hl;obtain⟨x,y,z,h1,h2⟩:=h K hl;exact⟨x,y,z,h1,fun K' hk=>aM hb (h2 K' hk)⟩
theorem JG (hC:fG C)(hY:fG Y){tn:Nat}{ops:List Oper}:∀(l:List Oper) (env:List (Nat × Value)) (h:Heap) (nx:Nat),nV (CF A T C Y tn ops l env h nx)
 |[],env,h,nx=>pR
 |o::r,env,h,nx=>by
  show nV (fun K=>CF A T C Y tn ops (o::r) env h nx K);simp only[OJ]
  exact BA (F:=fun e K=>tD A T C Y e h nx o.op fun v h' nx'=>fW tn e o.dst v fun env'=>CF A T C Y tn ops r env' h' nx' K) (G:=fun e K=>fW tn e o.dst undef fun env'=>CF A T C Y tn ops r env' h nx K)
   (fun e=>FH (F:=fun v h' nx' K=>fW tn e o.dst v fun env'=>CF A T C Y tn ops r env' h' nx' K) (JA hC hY) fun v h' nx'=>qU (F:=fun env' K=>CF A T C Y tn ops r env' h' nx' K) fun e'=>JG hC hY r e' h' nx')
   (fun e=>qU (F:=fun env' K=>CF A T C Y tn ops r env' h nx K) fun e'=>JG hC hY r e' h nx)
def vX {α:Type}(E:(α->Nat->Prop)->Prop):Prop:=∀ K,E K->∃ v n,K v n/\∀ K':α->Nat->Prop,K' v n->E K'
theorem aAA {E:(Value->Prop)->Prop}{n:Nat}(hE:zO E):vX (fun K=>E (fun v=>K v n)):=by
 intro K hl;obtain⟨v,h1,h2⟩:=hE _ hl;exact⟨v,n,h1,fun K' hk=>h2 _ hk⟩
theorem I9 {x:Option Value}{F:Value->(Value->Nat->Prop)->Prop}(hF:∀ v,vX (F v)):vX (fun K=>on x (fun v=>F v K)):=by
 cases x with
 |none=>exact fun K hl=>hl.elim
 |some v=>exact hF v
theorem ZK (hC:fG C){hJ:Heap}{nx:Nat}{env:List (Nat × Value)}{op:Op}:vX (j9 A T C hJ nx env op):=by
 have hlook:∀ hh op',vX (fun K=>kU A T env hh op' (fun v=>K v nx)):=fun _ _=>aAA PK;show vX (fun K=>j9 A T C hJ nx env op K);cases op
 case load t x=>simp only[j9];exact hlook hJ _
 case lookup t m k ok=>exact I9 fun x=>I9 fun y=>aAA GD
 case slice t x lo hi mx =>
  simp only[j9];refine I9 fun v=>?_;intro K hl;split at hl
  ·obtain⟨v,h',nx',h1,h2⟩:=J3 _ hl;exact⟨v,nx',h1,fun K' hk=>h2 _ hk⟩
  exact hl.elim
 case call c =>
  obtain⟨cal,args,ats⟩:=c;cases cal with
  |invoke r m=>exact fun K hl=>hl.elim
  |builtin b=>simp only[j9];exact hlook [] _
  |value f =>
   simp only[j9];refine I9 fun fv=>?_;intro K hl;split at hl
   ·split at hl
    ·split at hl
     ·obtain⟨v,h',nx',h1,h2⟩:=hC _ _ _ _ _ hl;split at h1
      ·rename_i hb;exact⟨v,nx,h1,fun K' hk=>h2 _ (by rw[hb];exact hk)⟩
      exact h1.elim
     exact hl.elim
    exact hl.elim
   exact hl.elim
 all_goals(simp only[j9];exact hlook [] _)
theorem K8 {α β:Type}{E:(α->Prop)->Prop}{F:α->(β->Prop)->Prop}(hE:zO E)(hF:∀ v,zO (F v)):zO (fun K=>E (fun v=>F v K)):=by
 intro K hl;obtain⟨v,h1,h2⟩:=hE _ hl;obtain⟨e,h3,h4⟩:=hF v K h1;exact⟨e,h3,fun K' hk=>h2 _ (h4 K' hk)⟩
theorem BQ {α:Type}:vX (fun _:α->Nat->Prop=>False):=fun _ hl=>hl.elim
theorem aCS {α:Type}{v:α}{n:Nat}:vX (fun K:α->Nat->Prop=>K v n):=fun _ hl=>⟨v,n,hl,fun _ h=>h⟩
theorem aCn {α β:Type}{E:(α->Nat->Prop)->Prop}{F:α->Nat->(β->Nat->Prop)->Prop}(hE:vX E)(hF:∀ v n,vX (F v n)):vX (fun K=>E (fun v n=>F v n K)):=by
 intro K hl;obtain⟨v,n,h1,h2⟩:=hE _ hl;obtain⟨e,m,h3,h4⟩:=hF v n K h1;exact⟨e,m,h3,fun K' hk=>h2 _ (h4 K' hk)⟩
theorem WN {α:Type}{ops:List Oper}{env:List (Nat × Value)}{g:Option (Nat × Bool)}{F G:List (Nat × Value)->(α->Nat->Prop)->Prop}(hF:∀ e,vX (F e))(hG:∀ e,vX (G e)):vX (fun K=>iM A ops env g (fun e=>F e K) (fun e=>G e K)):=by
 rcases D8 (A:=A) (ops:=ops) (env:=env) (g:=g)with⟨e,h⟩|⟨e,h⟩|h
 ·simp only[h];exact hF e
 ·simp only[h];exact hG e
 simp only[h];exact BQ
theorem S6 {α:Type}{tn:Nat}{env:List (Nat × Value)}{dst:Option Nat}{v:Value}{F:List (Nat × Value)->(α->Nat->Prop)->Prop}(hF:∀ e,vX (F e)):vX (fun K=>fW tn env dst v (fun e=>F e K)):=by
 rcases MF (tn:=tn) (env:=env) (dst:=dst) (v:=v)with⟨e,h⟩|h
 ·simp only[h];exact hF e
 simp only[h];exact BQ
theorem FW (hC:fG C){tn:Nat}{ops:List Oper}{hJ:Heap}:∀(l:List Nat) (env:List (Nat × Value)) (nx:Nat),vX (sF A T C tn ops hJ l env nx)
 |[],env,nx=>aCS
 |i::r,env,nx=>by
  show vX (fun K=>sF A T C tn ops hJ (i::r) env nx K);simp only[AZ];cases hH ops i with
  |none=>exact BQ
  |some o =>
   exact WN (F:=fun e K=>j9 A T C hJ nx e o.op fun v nx'=>fW tn e o.dst v fun env=>sF A T C tn ops hJ r env nx' K) (G:=fun e K=>fW tn e o.dst undef fun env=>sF A T C tn ops hJ r env nx K)
    (fun e=>aCn (F:=fun v n K=>fW tn e o.dst v fun env=>sF A T C tn ops hJ r env n K) (ZK hC) fun v n=>S6 (F:=fun env K=>sF A T C tn ops hJ r env n K) fun e'=>FW hC r e' n)
    (fun e=>S6 (F:=fun env K=>sF A T C tn ops hJ r env nx K) fun e'=>FW hC r e' nx)
theorem YG {E:(List (Nat × Value)->Nat->Prop)->Prop}{F:List (Nat × Value)->Nat->KS->Prop}(hE:vX E)(hF:∀ e n,nV (F e n)):nV (fun K=>E (fun e n=>F e n K)):=by
 intro K hl;obtain⟨e0,n0,h1,h2⟩:=hE _ hl;obtain⟨e,h,nx,h3,h4⟩:=hF e0 n0 K h1;exact⟨e,h,nx,h3,fun K' hk=>h2 _ (h4 K' hk)⟩
theorem F8 {tn:Nat}{ops:List Oper}:∀(l:List Nat) (env:List (Nat × Value)) (h:Heap) (nx:Nat),nV (oC T tn ops l env h nx)
 |[],env,h,nx=>pR
 |i::r,env,h,nx=>by
  intro K hl;simp only[pK]at hl ⊢;split at hl
  ·split at hl
   ·exact qU (F:=fun e K=>oC T tn ops r e _ _ K) (fun e=>F8 r e _ _) K hl
   exact hl.elim
  exact hl.elim
theorem FB (hC:fG C)(hY:fG Y){tn:Nat}{ops:List Oper}{hJ:Heap}:∀(l:List (Nat × Bool)) (env:List (Nat × Value)) (h:Heap) (nx:Nat),nV (l8 A T C Y tn ops hJ l env h nx)
 |[],env,h,nx=>pR
 |(i,chk)::r,env,h,nx=>by
  show nV (fun K=>l8 A T C Y tn ops hJ ((i,chk)::r) env h nx K);simp only[BG];cases hH ops i with
  |none=>exact BD
  |some o =>
   exact BA (F:=fun e K=>eF (B8 e hJ chk o.op) (tD A T C Y e h nx o.op fun v h' nx'=>fW tn e o.dst v fun env'=>l8 A T C Y tn ops hJ r env' h' nx' K)) (G:=fun e K=>fW tn e o.dst undef fun env'=>l8 A T C Y tn ops hJ r env' h nx K)
    (fun e=>aDz (FH (F:=fun v h' nx' K=>fW tn e o.dst v fun env'=>l8 A T C Y tn ops hJ r env' h' nx' K) (JA hC hY) fun v h' nx'=>qU (F:=fun env' K=>l8 A T C Y tn ops hJ r env' h' nx' K) fun e'=>FB hC hY r e' h' nx'))
    (fun e=>qU (F:=fun env' K=>l8 A T C Y tn ops hJ r env' h nx K) fun e'=>FB hC hY r e' h nx)
theorem U4 (hC:fG C)(hY:fG Y){tn:Nat}{ops:List Oper}{p:gQ}{env:List (Nat × Value)}{h:Heap}{nx:Nat}:nV (r9 A T C Y tn ops p env h nx):=by
 show nV (fun K=>r9 A T C Y tn ops p env h nx K);unfold r9;exact YG (F:=fun e n K=>oC T tn ops p.allocs e h n fun env2 h2 nx2=>l8 A T C Y tn ops (N1 T ops env p h) p.tail env2 h2 nx2 K) (FW hC p.head env nx) fun e n =>
  YZ (F:=fun env2 h2 nx2 K=>l8 A T C Y tn ops (N1 T ops env p h) p.tail env2 h2 nx2 K) (F8 p.allocs e h n) fun e2 h2 nx2=>FB hC hY p.tail e2 h2 nx2
end Go.Aw
end

noncomputable section
namespace Go.Aw
open Go.RowKit
def j4 (ρ:Nat->Nat):Nat->Loc:=fun k=>.lay (ρ k) 0 0
def fJ (ρ:Nat->Nat):Value->Value:=tr (j4 ρ)
def cB (ρ:Nat->Nat):Value->Value:=cF (j4 ρ)
def BO (n:Nat):Value->Prop:=fU (j4 id) n
def wM (n:Nat):Value->Prop:=jJ (j4 id) n
def cK (ρ:Nat->Nat)(n:Nat):bV->bV->Prop
 |.cells wr0 g0 sz0 cs0,.cells wr g sz cs=>wr0=wr/\g0=g/\sz0=sz/\cs=cs0.map (cB ρ)/\∀ v∈cs0,wM n v
 |.map es0,.map es=>es=es0.map (fun e=>(e.1,cB ρ e.2))/\∀ e∈es0,wM n e.2
 |.zero,.zero=>True
 |_,_=>False
structure mF (b:Nat) (ρ:Nat->Nat) (e0:List (Nat × Value)) (h0:Heap) (n0:Nat) (e:List (Nat × Value)) (h:Heap) (nx:Nat):Prop where
 env:∀ t v,aw e0 t=some v->aw e t=some (fJ ρ v)/\BO n0 v
 heap:∀ k o,aw h0 k=some o->k<n0/\∃ o',aw h (ρ k)=some o'/\cK ρ n0 o o'
 inj:∀ k k' o o',aw h0 k=some o->aw h0 k'=some o'->ρ k=ρ k'->k=k'
 fix:∀ k,k<b->ρ k=k
 le:b<=n0
section
variable {ι:Nat->Loc}{ρ:Nat->Nat}{n m:Nat}
theorem IA (v:Value):eM ι (eM (j4 ρ) v)=eM (fun k=>ι (ρ k)) v:=by
 cases v with
 |pointer a =>
  cases a with
  |none=>rfl
  |some a =>
   simp only[eM,j4,Nat.zero_add]
 |slice a n c =>
  cases a with
  |none=>rfl
  |some a =>
   simp only[eM,j4,Nat.zero_add,Nat.add_zero]
 |map a =>
  cases a with
  |none=>rfl
  |some a=>simp only[eM,j4]
 |_=>rfl
theorem aFU {f:Fn}(h:XJ ι n (nB (j4 ρ) f)):nB ι (nB (j4 ρ) f)=nB (fun k=>ι (ρ k)) f:=by
 cases f with
 |yield l =>
  have h:=h.2;simp only[nB,j4];cases hl:ι (ρ l)with
  |nil p=>rw[hl]at h;cases h
  |lay b o e=>rfl
 |_=>rfl
theorem iL {v:Value}(h:jJ ι n (cF (j4 ρ) v)):cF ι (cF (j4 ρ) v)=cF (fun k=>ι (ρ k)) v:=by
 cases v with
 |func f a c =>
  have h1:=aFU (ι:=ι) (n:=n) (f:=f) h.1;simp only[cF,h1,Array.map_map];congr 2;funext x;exact IA x
 |pointer a=>have:=IA (ι:=ι) (ρ:=ρ) (.pointer a);cases a <;> exact this
 |slice a n c=>have:=IA (ι:=ι) (ρ:=ρ) (.slice a n c);cases a <;> exact this
 |map a=>have:=IA (ι:=ι) (ρ:=ρ) (.map a);cases a <;> exact this
 |_=>rfl
theorem zD {v:Value}(h:mS ι n (eK (j4 ρ) v)):eK ι (eK (j4 ρ) v)=eK (fun k=>ι (ρ k)) v:=by
 cases v with
 |agg cs =>
  simp only[eK,Array.map_map];congr 1;apply Array.map_congr_left;intro x hx;exact iL (n:=n) (h (cF (j4 ρ) x) (by simp only[Array.toList_map,List.mem_map];exact⟨x,by simpa using hx,rfl⟩))
 |pointer a=>have:=iL (ι:=ι) (ρ:=ρ) (n:=n) (v:=.pointer a);cases a <;> exact this h
 |slice a l c=>have:=iL (ι:=ι) (ρ:=ρ) (n:=n) (v:=.slice a l c);cases a <;> exact this h
 |map a=>have:=iL (ι:=ι) (ρ:=ρ) (n:=n) (v:=.map a);cases a <;> exact this h
 |func f a c=>exact iL (ι:=ι) (ρ:=ρ) (n:=n) (v:=.func f a c) h
 |_=>rfl
theorem x9 {v:Value}(h:fU ι n (fJ ρ v)):tr ι (fJ ρ v)=tr (fun k=>ι (ρ k)) v:=by
 unfold fJ at h ⊢;cases v with
 |tuple cs =>
  simp only[tr,Array.map_map];congr 1;apply Array.map_congr_left;intro x hx;exact zD (n:=n) (h (eK (j4 ρ) x) (by simp only[Array.toList_map,List.mem_map];exact⟨x,by simpa using hx,rfl⟩))
 |pointer a=>have:=zD (ι:=ι) (ρ:=ρ) (n:=n) (v:=.pointer a);cases a <;> exact this h
 |slice a l c=>have:=zD (ι:=ι) (ρ:=ρ) (n:=n) (v:=.slice a l c);cases a <;> exact this h
 |map a=>have:=zD (ι:=ι) (ρ:=ρ) (n:=n) (v:=.map a);cases a <;> exact this h
 |func f a c=>exact zD (ι:=ι) (ρ:=ρ) (n:=n) (v:=.func f a c) h
 |agg c=>exact zD (ι:=ι) (ρ:=ρ) (n:=n) (v:=.agg c) h
 |_=>rfl
theorem IS {v:Value}(h:rG ι n (eM (j4 ρ) v))(hm:rG (j4 id) m v):rG (fun k=>ι (ρ k)) m v:=by
 cases v with
 |pointer a =>
  cases a with
  |none=>trivial
  |some a=>exact⟨hm.1,h.2⟩
 |slice a l c =>
  cases a with
  |none=>trivial
  |some a=>exact⟨hm.1,fun hf=>h.2 hf⟩
 |map a =>
  cases a with
  |none=>trivial
  |some a=>exact⟨hm.1,h.2⟩
 |agg c=>exact hm.elim
 |tuple c=>exact hm.elim
 |_=>trivial
theorem pM {v:Value}(h:jJ ι n (cF (j4 ρ) v))(hm:jJ (j4 id) m v):jJ (fun k=>ι (ρ k)) m v:=by
 cases v with
 |func f a c =>
  refine⟨?_,fun x hx=>?_⟩
  ·have h1:=h.1;have h2:=hm.1;cases f with
   |yield l=>exact⟨h2.1,h1.2⟩
   |_=>trivial
  refine IS (n:=n) (h.2 _ ?_) (hm.2 x hx);simp only[Array.toList_map,List.mem_map];exact⟨x,hx,rfl⟩
 |pointer a=>have:=IS (ι:=ι) (ρ:=ρ) (n:=n) (m:=m) (v:=.pointer a);cases a <;> exact this h hm
 |slice a l c=>have:=IS (ι:=ι) (ρ:=ρ) (n:=n) (m:=m) (v:=.slice a l c);cases a <;> exact this h hm
 |map a=>have:=IS (ι:=ι) (ρ:=ρ) (n:=n) (m:=m) (v:=.map a);cases a <;> exact this h hm
 |agg c=>exact hm.elim
 |tuple c=>exact hm.elim
 |_=>trivial
theorem zE {v:Value}(h:mS ι n (eK (j4 ρ) v))(hm:mS (j4 id) m v):mS (fun k=>ι (ρ k)) m v:=by
 cases v with
 |agg cs =>
  intro x hx;refine pM (n:=n) (h _ ?_) (hm x hx);simp only[Array.toList_map,List.mem_map];exact⟨x,hx,rfl⟩
 |pointer a=>have:=pM (ι:=ι) (ρ:=ρ) (n:=n) (m:=m) (v:=.pointer a);cases a <;> exact this h hm
 |slice a l c=>have:=pM (ι:=ι) (ρ:=ρ) (n:=n) (m:=m) (v:=.slice a l c);cases a <;> exact this h hm
 |map a=>have:=pM (ι:=ι) (ρ:=ρ) (n:=n) (m:=m) (v:=.map a);cases a <;> exact this h hm
 |func f a c=>exact pM (ι:=ι) (ρ:=ρ) (n:=n) (m:=m) (v:=.func f a c) h hm
 |tuple c=>exact hm.elim
 |_=>trivial
theorem zH {v:Value}(h:fU ι n (fJ ρ v))(hm:BO m v):fU (fun k=>ι (ρ k)) m v:=by
 unfold fJ at h;unfold BO at hm;cases v with
 |tuple cs =>
  intro x hx;refine zE (n:=n) (h _ ?_) (hm x hx);simp only[Array.toList_map,List.mem_map];exact⟨x,hx,rfl⟩
 |pointer a=>have:=zE (ι:=ι) (ρ:=ρ) (n:=n) (m:=m) (v:=.pointer a);cases a <;> exact this h hm
 |slice a l c=>have:=zE (ι:=ι) (ρ:=ρ) (n:=n) (m:=m) (v:=.slice a l c);cases a <;> exact this h hm
 |map a=>have:=zE (ι:=ι) (ρ:=ρ) (n:=n) (m:=m) (v:=.map a);cases a <;> exact this h hm
 |func f a c=>exact zE (ι:=ι) (ρ:=ρ) (n:=n) (m:=m) (v:=.func f a c) h hm
 |agg c=>exact zE (ι:=ι) (ρ:=ρ) (n:=n) (m:=m) (v:=.agg c) h hm
 |_=>trivial
theorem aMs {v:Value}(h:gS (cF (j4 ρ) v)=true):gS v=true:=by
 cases v with
 |pointer a=>cases a with
  |none=>rfl
  |some a=>simp[cF,eM,j4,gS]at h
 |slice a n c=>cases a with
  |none=>rfl
  |some a=>simp[cF,eM,j4,gS]at h
 |map a=>cases a with
  |none=>rfl
  |some a=>simp[cF,eM,j4,gS]at h
 |func f a c =>
  cases f with
  |func f=>simpa[cF,nB,gS]using h
  |yield l=>simp[cF,nB,j4,gS]at h
  |_=>simp[cF,nB,gS]at h
 |_=>exact h
theorem U6 {l:List Value}(h:dT (l.map (cB ρ))=true):dT l=true :=
 r7 fun v hv=>aMs (a9 h (List.mem_map_of_mem hv))
theorem aEL {B:Nat}{w:World}{o0 o:bV}{l:Loc}(h:m3 ι B w o l)(hs:OSc ι n o)(hr:cK ρ m o0 o):m3 (fun k=>ι (ρ k)) B w o0 l:=by
 cases o0 with
 |cells wr0 g0 sz0 cs0 =>
  cases o with
  |cells wr g sz cs =>
   obtain⟨rfl,rfl,rfl,rfl,hn⟩:=hr;cases l with
   |nil p =>
    have h1:cs0.map (cB ρ)=[]/\(sz0=0\/wr0=true->p.isSome=true):=(by cases wr0 <;> exact h);have h2:cs0=[]:=(by simpa using h1.1);cases wr0 <;> exact⟨h2,h1.2⟩
   |lay b off e =>
    cases wr0 with
    |true =>
     obtain⟨h1,h2,arr,t,h3,h4,h5⟩:=h;refine⟨h1,fun hg=>U6 (h2 hg),arr,t,h3,by simpa using h4,fun i v hv=>?_⟩;rw[<- iL (n:=n) (hs _ (List.mem_map_of_mem (List.mem_of_getElem? hv)))];exact h5 i _ (by rw[List.getElem?_map,hv];rfl)
    |false =>
     obtain⟨h1,h2,h5⟩:=h;refine⟨h1,fun hg=>U6 (h2 hg),fun i v hv=>?_⟩;rw[<- iL (n:=n) (hs _ (List.mem_map_of_mem (List.mem_of_getElem? hv)))];exact h5 i _ (by rw[List.getElem?_map,hv];rfl)
  |_=>exact hr.elim
 |map es0 =>
  cases o with
  |map es =>
   obtain⟨rfl,hn⟩:=hr;cases l with
   |nil p=>exact h.elim
   |lay b off e =>
    obtain⟨h1,ents,clock,h2,h3,h4⟩:=h;refine⟨h1,ents,clock,h2,h3.trans ?_,fun x hx=>h4 (x.1,cB ρ x.2) (List.mem_map_of_mem hx)⟩;rw[List.map_map];apply List.map_congr_left;intro x hx;simp only[Function.comp_apply,cB];rw[iL (n:=n) (hs (x.1,cB ρ x.2) (List.mem_map_of_mem hx))]
  |_=>exact hr.elim
 |zero =>
  cases o with
  |zero=>cases l <;> exact h
  |_=>exact hr.elim
 |_=>exact hr.elim
theorem aHH {o0 o:bV}(h:OSc ι n o)(hr:cK ρ m o0 o):OSc (fun k=>ι (ρ k)) m o0:=by
 cases o0 with
 |cells wr0 g0 sz0 cs0 =>
  cases o with
  |cells wr g sz cs =>
   obtain⟨rfl,rfl,rfl,rfl,hn⟩:=hr;exact fun v hv=>pM (n:=n) (h _ (List.mem_map_of_mem hv)) (hn v hv)
  |_=>exact hr.elim
 |map es0 =>
  cases o with
  |map es =>
   obtain⟨rfl,hn⟩:=hr;exact fun x hx=>pM (n:=n) (h (x.1,cB ρ x.2) (List.mem_map_of_mem hx)) (hn x hx)
  |_=>exact hr.elim
 |zero=>trivial
 |_=>exact hr.elim
theorem cK.alone {o0 o:bV}(hr:cK ρ m o0 o)(h:o0.alone=true):o.alone=true:=by
 cases o0 <;> cases o <;> first|exact hr.elim|(obtain⟨rfl,_⟩:=hr;exact h)|exact h
variable {b:Nat}{e0 e:List (Nat × Value)}{h0 h:Heap}{n0 nx:Nat}
theorem mF.aJR (r:mF b ρ e0 h0 n0 e h nx){B:Nat}{w:World}(H:aY ι B h nx w):aY (fun k=>ι (ρ k)) B h0 n0 w:=by
 refine⟨fun k o hk=>?_,fun k k' o o' h1 h2 hne ha q hq=>?_,fun k o hk=>(r.heap k o hk).1,H.size,fun k o hk=>?_⟩
 ·obtain⟨_,o',h1,h2⟩:=r.heap k o hk;exact aEL (H.obj _ _ h1) (H.sc _ _ h1) h2
 ·obtain⟨_,p,k1,k2⟩:=r.heap k o h1;obtain⟨_,p',k3,k4⟩:=r.heap k' o' h2;exact H.sep _ _ p p' k1 k3 (fun e=>hne (r.inj k k' o o' h1 h2 e)) (k2.alone ha) q hq
 obtain⟨_,o',h1,h2⟩:=r.heap k o hk;exact aHH (H.sc _ _ h1) h2
theorem mF.aPz (r:mF b ρ e0 h0 n0 e h nx){a:Act}(H:dV ι nx e a):dV (fun k=>ι (ρ k)) n0 e0 a:=by
 intro t v hv;obtain⟨h1,h2⟩:=r.env t v hv;obtain⟨h3,h4⟩:=H t _ h1;exact⟨by rw[<- x9 h4];exact h3,zH h4 h2⟩
end
def tJ (A:Ar)(T:dN)(C:VC)(Y:VY)(tn:Nat)(ops:List Oper)(o:Oper)(e:List (Nat × Value))(h:Heap)(nx:Nat)(K:KS):Prop :=
 iM A ops e o.guard (fun e=>tD A T C Y e h nx o.op fun v h' nx'=>fW tn e o.dst v fun e'=>K e' h' nx') (fun e=>fW tn e o.dst undef fun e'=>K e' h nx)
def allM (l:List Nat):List Nat->Bool
 |[]=>true
 |j::r=>match s9 j l with|true=>allM l r|false=>false
theorem TF {l m:List Nat}:allM l m=true↔∀ j∈m,j∈l:=by
 induction m with
 |nil=>simp[allM]
 |cons x r ih =>
  simp only[allM];split
  ·rename_i h;rw[ih];constructor
   ·intro h2 j hj;rcases List.mem_cons.1 hj with rfl|hj
    ·exact eT.1 h
    exact h2 j hj
   exact fun h2 j hj=>h2 j (.tail _ hj)
  rename_i h;constructor
  ·intro h2;cases h2
  intro h2;rw[eT.2 (h2 x (.head _))]at h;cases h
def gO (all:List Oper)(done:List Nat):List Oper->Nat->List Nat
 |[],_=>[]
 |o::r,i=>match s9 i done with
  |true=>gO all done r (i+1)
  |false=>(match allM done (oB o)with|true=>i::gO all done r (i+1)|false=>gO all done r (i+1))
theorem ZC {all:List Oper}{done:List Nat}:∀{l:List Oper} {i k:Nat},k∈gO all done l i↔∃ j o,k=i+j/\hH l j=some o/\k∉done/\∀ x∈oB o,x∈done:=by
 intro l
 induction l with
 |nil =>
  intro i k;constructor
  ·intro h;cases h
  rintro⟨j,o,_,h,_⟩;rw[fO]at h;simp at h
 |cons p r ih =>
  intro i k;have shift:(∃ j o,k=i+1+j/\hH r j=some o/\k∉done/\∀ x∈oB o,x∈done)->∃ j o,k=i+j/\hH (p::r) j=some o/\k∉done/\∀ x∈oB o,x∈done:=by
   rintro⟨j,o,h1,h2,h3⟩;refine⟨j+1,o,aa,?_,h3⟩;rw[fO]at h2 ⊢;simpa using h2
  have back:(∃ j o,k=i+j/\hH (p::r) j=some o/\k∉done/\∀ x∈oB o,x∈done)->(k=i/\i∉done/\∀ x∈oB p,x∈done)\/∃ j o,k=i+1+j/\hH r j=some o/\k∉done/\∀ x∈oB o,x∈done:=by
   rintro⟨j,o,h1,h2,h3⟩;cases j with
   |zero =>
    rw[fO]at h2;simp at h2;subst h2;exact .inl ⟨aa,by rw[(aa:i=k)];exact h3.1,h3.2⟩
   |succ j =>
    refine .inr ⟨j,o,aa,?_,h3⟩;rw[fO]at h2 ⊢;simpa using h2
  simp only[gO];split
  ·rename_i hm;rw[ih];refine⟨shift,fun h=>?_⟩;rcases back h with⟨_,hn,_⟩|h
   ·exact absurd (eT.1 hm) hn
   exact h
  rename_i hm;have hn:i∉done:=fun h=>(by rw[eT.2 h]at hm;cases hm);split
  ·rename_i ha;rw[List.mem_cons,ih];constructor
   ·rintro(rfl|h)
    ·exact⟨0,p,rfl,by rw[fO];rfl,hn,TF.1 ha⟩
    exact shift h
   intro h;rcases back h with⟨h,_⟩|h
   ·exact .inl h
   exact .inr h
  rename_i ha;rw[ih];refine⟨shift,fun h=>?_⟩;rcases back h with⟨_,_,h⟩|h
  ·rw[TF.2 h]at ha;cases ha
  exact h
def QZ (F:Nat->Prop):List Nat->Prop
 |[]=>True
 |[i]=>F i
 |i::r=>F i/\QZ F r
theorem C4 {F:Nat->Prop}:∀{l:List Nat},QZ F l↔∀ i∈l,F i
 |[]=>by simp[QZ]
 |[i]=>by simp[QZ]
 |i::j::r=>by
  rw[show QZ F (i::j::r)=(F i/\QZ F (j::r))from rfl,C4];simp
def JD (A:Ar)(T:dN)(C:VC)(Y:VY)(tn:Nat)(ops:List Oper)(K:KS):Nat->List Nat->KS
 |0,_=>K
 |n+1,done=>fun e h nx=>match gO ops done ops 0 with
  |[]=>K e h nx
  |i::r=>QZ (fun j=>match hH ops j with|some o=>tJ A T C Y tn ops o e h nx (JD A T C Y tn ops K n (j::done))|none=>False) (i::r)
section
variable {P:Program}{T:dN}{C:VC}{Y:VY}{ops:Array Oper}
variable {B:Nat}{w0:World}{ιb:Nat->Loc}{nxb tn:Nat}{ds:List Deferred}{K:KS}
theorem aES (hT:dJ P T)(hC:bN P C)(hY:fZ P Y)(r:Option Nat){Q:Exit->Act->World->Prop}{i:Nat}{o:Oper}(ho:hH ops.toList i=some o){ι:Nat->Loc}{e:List (Nat × Value)}{h:Heap}{nx:Nat}{a:Act}{w:World}
  (hl:tJ aF T C Y tn ops.toList o e h nx K) (I:Inv B w0 ιb nxb tn ds ι e h nx a w) {next:Act->World->Prop}
  (hQ:∀ ι e h nx a w,K e h nx->Inv B w0 ιb nxb tn ds ι e h nx a w->next a w):wpOpIn (Fr r) 0 P ops Q i next a w:=by
 have hoo:ops[i]? = some o:=(by rw[fO]at ho;simpa using ho);unfold wpOpIn;simp only[hoo];unfold tJ at hl;obtain⟨env1,he1,hcase⟩:=yT I.env hl;rcases hcase with⟨hw,hl⟩|⟨hw,hl⟩
 ·rw[if_pos hw];refine(WX hT hC hY he1 I.heap hl).upon (GY hl) rfl r _ _ fun v h' nx' ι' w' k1 k2 k3 k4 k5 k6=>?_;obtain⟨env2,k7,k8,k9,k10⟩:=rV (he1.names k6 k5) I.size k1 k2;exact hQ ι' env2 h' nx' _ w' k7 (I.step k8 k3 k4 k5 k6 k9 k10)
 rw[hw];refine⟨fun _ _=>trivial,?_⟩;obtain⟨env2,k7,k8,k9,k10⟩:=rV he1 I.size hl (v:=undef) (c9 rfl);rw[iU (show gT undef=true from rfl)]at k8 k9 k10;exact hQ ι env2 h nx _ w k7 (I.step k8 I.heap (jO.refl _ _) (fun _ _=>rfl) (ah _) k9 k10)
theorem AS {listed:Array Bool}(hs:listed.size=ops.size){done:List Nat}(hd:∀ i,AX listed i↔i∈done){i:Nat}:i∈Region.ready .any ops listed↔i∈gO ops.toList done ops.toList 0:=by
 rw[pX hs,ZC];constructor
 ·rintro⟨h1,h2,h3⟩;have ho:hH ops.toList i=some ops[i]:=(by rw[fO];simp[h1]);refine⟨i,ops[i],aa,ho,fun h=>h2 ((hd i).2 h),fun x hx=>(hd x).1 (h3 x ?_)⟩;unfold dC;rw[ho];exact hx
 rintro⟨j,o,h1,h2,h3,h4⟩;have hij:i=j:=aa;subst hij;have hlt:i<ops.size:=by
  rw[fO]at h2;have:=(List.getElem?_eq_some_iff.1 h2).1;simpa using this
 refine⟨hlt,fun h=>h3 ((hd i).1 h),fun x hx=>(hd x).2 (h4 x ?_)⟩;unfold dC at hx;rw[h2]at hx;exact hx
theorem aHo (hT:dJ P T)(hC:bN P C)(hY:fZ P Y)(r:Option Nat){Q:Exit->Act->World->Prop}
  (hQ:∀ ι e h nx a w,K e h nx->Inv B w0 ιb nxb tn ds ι e h nx a w->Q .normal a w):∀(n:Nat) (listed:Array Bool) (done:List Nat) (ι:Nat->Loc) (e:List (Nat × Value)) (h:Heap) (nx:Nat) (a:Act) (w:World),
  listed.size=ops.size->(∀ i,AX listed i↔i∈done)->left ops.size listed<=n->JD aF T C Y tn ops.toList K n done e h nx->Inv B w0 ιb nxb tn ds ι e h nx a w->wpAnyIn (Fr r) 0 P .any ops Q n listed a w:=by
 intro n
 induction n with
 |zero =>
  intro listed done ι e h nx a w hs hd hl hv I;refine⟨?_,hQ ι e h nx a w hv I⟩;refine List.eq_nil_iff_forall_not_mem.2 fun i hi=>?_;obtain⟨h1,h2,_⟩:=(pX hs).1 hi;have:=EC h1 hs h2;omega
 |succ n ih =>
  intro listed done ι e h nx a w hs hd hl hv I;simp only[JD]at hv;split at hv
  ·rename_i hr;have hno:∀ i,i∉Region.ready .any ops listed:=fun i hi=>by
    have:=(AS hs hd).1 hi;rw[hr]at this;cases this
   exact⟨fun _=>hQ ι e h nx a w hv I,fun i hi=>absurd hi (hno i)⟩
  rename_i i0 r0 hr;rw[C4]at hv;refine⟨fun hn=>?_,fun i hi=>?_⟩
  ·exfalso;have:i0∈Region.ready .any ops listed:=(AS hs hd).2 (by rw[hr];exact .head _);rw[hn]at this;cases this
  obtain⟨h1,h2,_⟩:=(pX hs).1 hi;have hv':=hv i (by rw[<- hr];exact(AS hs hd).1 hi);split at hv'
  case h_2=>exact hv'.elim
  rename_i o ho;refine aES hT hC hY r ho hv' I fun ι e h nx a w hk J=>?_;have hset:=AX.set (listed:=listed) (i:=i) aa;refine ih _ (i::done) ι e h nx a w (by simp[hs]) (fun j=>?_) (by have:=EC h1 hs h2;omega) hk J;rw[hset];unfold LI;rw[hd j,List.mem_cons]
theorem TC (hT:dJ P T)(hC:bN P C)(hY:fZ P Y)(hm:P.follows .mixedOrders=true){ι:Nat->Loc}{env:List (Nat × Value)}{h:Heap}{nx:Nat}{a:Act}{w:World}(I:Inv B w0 ιb nxb tn ds ι env h nx a w)
  (hl:JD aF T C Y tn ops.toList K ops.size [] env h nx) (r:Option Nat) {id:Nat} {Q:Exit->Act->World->Prop} (hQ:∀ ι env h nx a w,K env h nx->Inv B w0 ιb nxb tn ds ι env h nx a w->Q .normal a w) :
  (Code.region id ops true).wpIn (Fr r) 0 P Q a w:=by
 refine wpIn_region_any hm ?_;have H:=I.heap.drawn (w.drawn+1);have hb:jO B w { w with drawn:=w.drawn+1 }:=⟨rfl,rfl,rfl,ah _,fun _ _=>rfl,Nat.le_succ _⟩;have hno:∀ i,¬ AX (Array.replicate ops.size false) i:=by
  intro i;unfold AX;by_cases h:i<ops.size <;> simp[h]
 refine aHo hT hC hY r hQ ops.size _ [] ι env h nx a _ (by simp) (fun i=>⟨fun h=>absurd h (hno i),fun h=>by cases h⟩) ?_ hl ⟨I.env,H,I.below.trans hb,I.old,I.le,I.size,I.defers⟩;unfold left;exact Nat.le_trans (List.length_filter_le _ _) (by simp)
end
def LX (F:KS->KS)(n:Nat):KS:=@Nat.rec (fun _=>KS) (fun _ _ _=>False) (fun _ ih e h nx=>F ih e h nx) n
inductive LM where
 |fuel (n:Nat)
 |inv (b:Nat)
def LM.low:LM->Nat->Prop
 |.fuel _,_=>True
 |.inv b,n=>n<=b
def sW (b:Nat)(I:KS):KS:=fun e h nx=>∃ e0 h0 n0 ρ,I e0 h0 n0/\mF b ρ e0 h0 n0 e h nx
def aG4 (M:LM)(F:KS->KS):KS:=fun e h nx =>
 match M with
 |.fuel n=>LX F n e h nx
 |.inv b=>∃ I:Nat->KS,(∃ n,sW b (I n) e h nx)/\∀ n e h nx,I n e h nx->F (fun e h nx=>∃ m,m<n/\sW b (I m) e h nx) e h nx
def EN (A:Ar)(T:dN)(C:VC)(Y:VY)(tn:Nat)(ops:List Oper)(K:KS):Nat->List Nat->KS
 |0,_=>K
 |n+1,done=>fun e h nx=>match gO ops done ops 0 with
  |[]=>K e h nx
  |j::_=>(match hH ops j with|some o=>tJ A T C Y tn ops o e h nx (EN A T C Y tn ops K n (j::done))|none=>False)
theorem aCN {A:Ar}{T:dN}{C:VC}{Y:VY}(hC:fG C)(hY:fG Y){tn:Nat}{ops:List Oper}{o:Oper}{e:List (Nat × Value)}{h:Heap}{nx:Nat}:nV (tJ A T C Y tn ops o e h nx):=by
 show nV (fun K=>tJ A T C Y tn ops o e h nx K);unfold tJ
 exact BA (F:=fun e K=>tD A T C Y e h nx o.op fun v h' nx'=>fW tn e o.dst v fun e'=>K e' h' nx') (G:=fun e K=>fW tn e o.dst undef fun e'=>K e' h nx)
  (fun e=>FH (F:=fun v h' nx' K=>fW tn e o.dst v fun e'=>K e' h' nx') (JA hC hY) fun v h' nx'=>qU (F:=fun e' K=>K e' h' nx') fun e'=>pR)
  (fun e=>qU (F:=fun e' K=>K e' h nx) fun e'=>pR)
theorem A6 {A:Ar}{T:dN}{C:VC}{Y:VY}(hC:fG C)(hY:fG Y){tn:Nat}{ops:List Oper}:∀ n done e h nx,nV (fun K=>EN A T C Y tn ops K n done e h nx)
 |0,_,e,h,nx=>pR
 |n+1,done,e,h,nx=>by
  intro K hl;simp only[EN]at hl ⊢;split at hl
  ·exact⟨e,h,nx,hl,fun K' q=>q⟩
  split at hl
  case h_2=>exact hl.elim
  rename_i o ho;obtain⟨e1,h1,n1,q1,q2⟩:=aCN hC hY _ hl;obtain⟨e2,h2,n2,q3,q4⟩:=A6 hC hY n _ e1 h1 n1 K q1;exact⟨e2,h2,n2,q3,fun K' q=>q2 _ (q4 K' q)⟩
def UK (A:Ar)(T:dN)(C:VC)(Y:VY)(tn:Nat)(M:LM)(ops:Array Oper):List (Nat × Value)->Heap->Nat->KS->Prop:=fun e h nx K =>
 match M with
 |.fuel _=>EN A T C Y tn ops.toList (fun _ _ _=>∃ e0 h0 n0,JD A T C Y tn ops.toList (sW nx fun e' h' n'=>e'=e0/\h'=h0/\n'=n0) ops.size [] e h nx/\K e0 h0 n0) ops.size [] e h nx
 |.inv b=>∃ I:KS,JD A T C Y tn ops.toList (sW b I) ops.size [] e h nx/\∀ e h nx,I e h nx->K e h nx
abbrev VR:=Operand->Array Tmp->Code->Code->KS->(Nat->KS)->KS->KS
def jY (A:Ar)(T:dN)(C:VC)(Y:VY)(tn:Nat)(PL:Nat->Option gQ)(M:LM)(R:VR)(c:Code):KS->(Nat->KS)->KS->KS :=
 @Code.rec (fun _=>KS->(Nat->KS)->KS->KS) (fun kn _ _=>kn)
  (fun id ops draw kn _ _ e h nx=>match draw with
   |false=>CF A T C Y tn ops.toList ops.toList e h nx kn
   |true=>(match PL id with|some p=>r9 A T C Y tn ops.toList p e h nx kn|none=>UK A T C Y tn M ops e h nx kn))
  (fun _ _ iha ihb kn kx kr=>iha (ihb kn kx kr) kx kr)
  (fun c _ _ iht ihf kn kx kr e h nx=>match dZ e c with
   |some (.bool b)=>br b (fun _=>iht kn kx kr e h nx) (fun _=>ihf kn kx kr e h nx)
   |_=>False)
  (fun id _ ih kn kx kr=>ih kn (fun j=>match Nat.beq j id with|true=>kn|false=>kx j) kr)
  (fun _ ih _ kx kr=>aG4 M (fun k=>ih k kx kr))
  (fun g ps as bd _ _ kn kx kr=>R g ps as bd kn kx kr)
  (fun id _ kx _=>kx id)
  (fun _ ih kn kx kr=>ih kn kx kr)
  (fun _ kn _ _=>kn)
  (fun _ _ _ _ _ _ _=>False)
  (fun _ _ kr=>kr)
  (fun _ _ _ _ _ _ _=>False) c
section
variable {A:Ar}{T:dN}{C:VC}{Y:VY}{tn:Nat}{PL:Nat->Option gQ}{M:LM}{R:VR}{kn kr:KS}{kx:Nat->KS}{e:List (Nat × Value)}{h:Heap}{nx:Nat}
theorem jB {id:Nat}{ops:Array Oper}{draw:Bool}:jY A T C Y tn PL M R (.region id ops draw) kn kx kr e h nx=match draw with
 |false=>CF A T C Y tn ops.toList ops.toList e h nx kn
 |true=>(match PL id with|some p=>r9 A T C Y tn ops.toList p e h nx kn|none=>UK A T C Y tn M ops e h nx kn):=rfl
theorem lU {c:Operand}{t f:Code}:jY A T C Y tn PL M R (.cond c t f) kn kx kr e h nx=match dZ e c with
 |some (.bool b)=>br b (fun _=>jY A T C Y tn PL M R t kn kx kr e h nx) (fun _=>jY A T C Y tn PL M R f kn kx kr e h nx)
 |_=>False:=rfl
theorem UI {id:Nat}{b:Code}:jY A T C Y tn PL M R (.block id b) kn kx kr e h nx=jY A T C Y tn PL M R b kn (fun j=>match Nat.beq j id with|true=>kn|false=>kx j) kr e h nx:=rfl
theorem uX {b:Code}:jY A T C Y tn PL M R (.loop b) kn kx kr e h nx=aG4 M (fun k=>jY A T C Y tn PL M R b k kx kr) e h nx:=rfl
end
def fF (PL:Nat->Option gQ):Code->Bool
 |.region id ops true=>(match PL id with|some p=>W0 ops p|none=>true)
 |.seq a b=>fF PL a&&fF PL b
 |.cond _ a b=>fF PL a&&fF PL b
 |.block _ b=>fF PL b
 |.loop b=>fF PL b
 |.scope b=>fF PL b
 |_=>true
def E5 (b:Nat):Deferred:={ target:=.collected b,args:=#[] }
def Marks (B0 B:Nat)(w:World)(ds:List Deferred):Prop:=∃ bs:List Nat,ds=bs.map E5/\bs.Nodup/\∀ b∈bs,B0<=b/\b<B/\w.heap[b]? = some (.deferred (some []))
def vR (B0:Nat)(w0:World)(ι0:Nat->Loc)(nx0 tn:Nat)(ι:Nat->Loc)(env:List (Nat × Value))(h:Heap)(nx:Nat)(a:Act)(w:World):Prop :=
 ∃ B w1 ι1 nx1 ds,B0<=B/\jO B0 w0 w1/\(∀ k,k<nx0->ι1 k=ι0 k)/\nx0<=nx1/\Marks B0 B w1 ds/\Inv B w1 ι1 nx1 tn ds ι env h nx a w
section
variable {P:Program}{T:dN}{C:VC}{Y:VY}{B0:Nat}{w0:World}{ι0:Nat->Loc}{nx0 tn:Nat}{PL:Nat->Option gQ}{M:LM}{R:VR}
structure Ends (B0:Nat) (w0:World) (ι0:Nat->Loc) (nx0 tn:Nat) (kn:KS) (kx:Nat->KS) (kr:KS) (Q:Exit->Act->World->Prop):Prop where
 n:∀ ι e h nx a w,kn e h nx->vR B0 w0 ι0 nx0 tn ι e h nx a w->Q .normal a w
 x:∀ id ι e h nx a w,kx id e h nx->vR B0 w0 ι0 nx0 tn ι e h nx a w->Q (.exit id) a w
 r:∀ ι e h nx a w,kr e h nx->vR B0 w0 ι0 nx0 tn ι e h nx a w->Q .ret a w
def H8 (P:Program)(r:Option Nat)(tn:Nat)(R:VR):Prop:=∀ g ps as bd kn kx kr e h nx,R g ps as bd kn kx kr e h nx->∀ B0 w0 ι0 nx0 Q,Ends B0 w0 ι0 nx0 tn kn kx kr Q->∀ ι a w,vR B0 w0 ι0 nx0 tn ι e h nx a w ->
 (Code.rangeFunc g ps as bd).wpIn (Fr r) 0 P Q a w
theorem l9 {b:Frame}{a:Act}{k:List Item}{cs:List Frame}{w:World}{c:Code}:step P (lone (b.atR a (.code (.scope c)::k)) cs w)=.next (lone (b.atR a (.code c::.inScope c::k)) cs w) :=
 step_lone_go (by simp[stepG,stepG.exec,Frame.atR])
theorem NT {b:Frame}{a:Act}{k:List Item}{cs:List Frame}{w:World}{c:Code}:step P (lone (b.atR a (.inScope c::k)) cs w)=.next (lone (b.atR a k) cs w) :=
 step_lone_go (by simp[stepG,stepG.exec,Frame.atR])
theorem AA {F:Fence}{n:Nat}{c:Code}{Q:Exit->Act->World->Prop}{a:Act}{w:World}(h:c.wpIn F n P (fun e a w=>(∀ l,e≠.goto l)/\Q e a w) a w):(Code.scope c).wpIn F n P Q a w:=by
 intro b k cs hro hb hr;have h0:(lone (b.atR a (.code (.scope c)::k)) cs w).fenced P F:=fenced_calm hb hr rfl;obtain⟨e,a₁,w₁,⟨hg,hq⟩,harr⟩:=h b (.inScope c::k) cs hro hb hr;cases e with
 |normal=>exact⟨.normal,a₁,w₁,hq,.head h0 l9 (StepsIn.trans harr (.one (fenced_calm hb hr rfl) NT))⟩
 |exit id =>
  have hx:exitTo id (.inScope c::k)=exitTo id k:=by simp[exitTo]
  exact⟨.exit id,a₁,w₁,hq,fun k' hk=>.head h0 l9 (harr.1 k' (by rw[hx];exact hk)),
   fun hr' hk=>let⟨k₁,h1,h2⟩:=harr.2 hr' (by rw[hx];exact hk);⟨k₁,h1,.head h0 l9 h2⟩⟩
 |goto l=>exact absurd rfl (hg l)
 |ret=>exact⟨_,a₁,w₁,hq,.of_steps (.one h0 l9) harr⟩
 |panic ch=>exact⟨_,a₁,w₁,hq,.of_steps (.one h0 l9) harr⟩
 |outgrown=>exact⟨_,a₁,w₁,hq,.of_steps (.one h0 l9) harr⟩
theorem vR.aHO {ι:Nat->Loc}{e:List (Nat × Value)}{h:Heap}{nx:Nat}{a:Act}{w:World}{b:Nat}{I:KS}(J:vR B0 w0 ι0 nx0 tn ι e h nx a w)(hb:nx0<=b)(hi:sW b I e h nx):∃ ι' e' h' nx',I e' h' nx'/\vR B0 w0 ι0 nx0 tn ι' e' h' nx' a w:=by
 obtain⟨e',h',nx',ρ,hI,r⟩:=hi;obtain⟨B,w1,ι1,nx1,ds,h1,h2,h3,h4,h5,J⟩:=J;refine⟨fun k=>ι (ρ k),e',h',nx',hI,B,w1,ι0,nx0,ds,h1,h2,fun _ _=>rfl,ah _,h5,r.aPz J.env,r.aJR J.heap,J.below,fun k hk=>?_,Nat.le_trans hb r.le,J.size,J.defers⟩;rw[r.fix k (Nat.lt_of_lt_of_le hk hb)];exact(J.old k (Nat.lt_of_lt_of_le hk h4)).trans (h3 k hk)
theorem least {p:Nat->Prop}(h:∃ n,p n):∃ m,p m/\∀ k,p k->m<=k:=by
 obtain⟨n,hn⟩:=h
 induction n using Nat.strongRecOn with
 |_ n ih =>
  by_cases hk:∃ k,p k/\k<n
  ·obtain⟨k,h1,h2⟩:=hk;exact ih k h2 h1
  exact⟨n,hn,fun k h1=>Nat.le_of_not_lt fun h2=>hk ⟨k,h1,h2⟩⟩
theorem ED {r:Option Nat}{c:Code}{Q:Exit->Act->World->Prop}{a:Act}{w:World}{I:Nat->Act->World->Prop}{n:Nat}(h₀:I n a w)
  (round:∀ n a w,I n a w->c.wpIn (Fr r) 0 P (Exit.then (fun a' w'=>∃ m,m<n/\I m a' w') Q) a w):(Code.loop c).wpIn (Fr r) 0 P Q a w:=by
 classical
 refine wpIn_loop (fun a w=>∃ n,I n a w) (fun a w=>if h:∃ n,I n a w then Classical.choose (least h)else 0) ⟨n,h₀⟩ fun a w h=>?_;have hs:=Classical.choose_spec (least h);refine Code.wpIn_mono (fun e a' w' hq=>?_) (round _ a w hs.1);cases e <;> try exact hq
 obtain⟨m,hm,hI⟩:=hq;refine⟨⟨m,hI⟩,?_⟩;have h':∃ n,I n a' w':=⟨m,hI⟩;simp only[dif_pos h',dif_pos h];exact Nat.lt_of_le_of_lt ((Classical.choose_spec (least h')).2 m hI) hm
end
section
variable {P:Program}{T:dN}{C:VC}{Y:VY}{tn:Nat}{PL:Nat->Option gQ}{M:LM}{R:VR}
def ZX (R:VR):Prop:=∀ g ps as bd (kn kn':KS) (kx kx':Nat->KS) (kr kr':KS) e h nx,(∀ e h nx,kn e h nx->kn' e h nx)->(∀ id e h nx,kx id e h nx->kx' id e h nx)->(∀ e h nx,kr e h nx->kr' e h nx)->R g ps as bd kn kx kr e h nx->R g ps as bd kn' kx' kr' e h nx
theorem ME (hT:dJ P T)(hC:bN P C)(hY:fZ P Y)(hD:fG C)(hDY:fG Y)(hm:P.follows .mixedOrders=true)(r:Option Nat)(hR:H8 P r tn R)(hRm:ZX R) :
  ∀(c:Code),fF PL c=true->∀(kn:KS) (kx:Nat->KS) (kr:KS) e h nx,jY aF T C Y tn PL M R c kn kx kr e h nx->∀ B0 w0 ι0 nx0 Q,M.low nx0->Ends B0 w0 ι0 nx0 tn kn kx kr Q->∀ ι a w,vR B0 w0 ι0 nx0 tn ι e h nx a w ->
    c.wpIn (Fr r) 0 P Q a w:=by
 intro c
 induction c with
 |skip=>exact fun _ kn kx kr e h nx hl B0 w0 ι0 nx0 Q hM E ι a w I=>wpIn_skip (E.n ι e h nx a w hl I)
 |region id ops draw =>
  intro hp kn kx kr e h nx hl B0 w0 ι0 nx0 Q hM E ι a w I;obtain⟨B,w1,ι1,nx1,ds,h1,h2,h3,h4,h5,J⟩:=I;simp only[jB,lU,uX]at hl;cases draw with
  |false =>
   refine wpIn_region_list (RF hT hC hY r ops.toList ι e h nx a w hl J fun ι' e' h' nx' a' w' hk J'=>?_);exact E.n ι' e' h' nx' a' w' hk ⟨B,w1,ι1,nx1,ds,h1,h2,h3,h4,h5,J'⟩
  |true =>
   simp only[fF]at hp;simp only at hl;cases hpl:PL id with
   |none =>
    rw[hpl]at hl;simp only[UK]at hl;cases M with
    |fuel n =>
     obtain⟨ea,ha,na,⟨e0,h0,n0,hi,hK⟩,hr⟩:=A6 hD hDY _ _ _ _ _ _ hl;refine TC hT hC hY hm J hi r fun ι' e' h' nx' a' w' hk J'=>?_;obtain⟨ι2,e2,h2',nx2,⟨rfl,rfl,rfl⟩,k2⟩:=vR.aHO ⟨B,w1,ι1,nx1,ds,h1,h2,h3,h4,h5,J'⟩ (Nat.le_trans h4 J.le) hk;exact E.n ι2 _ _ _ a' w' hK k2
    |inv b =>
     obtain⟨I,hi,hI⟩:=hl;refine TC hT hC hY hm J hi r fun ι' e' h' nx' a' w' hk J'=>?_;obtain⟨ι2,e2,h2',nx2,k1,k2⟩:=vR.aHO ⟨B,w1,ι1,nx1,ds,h1,h2,h3,h4,h5,J'⟩ hM hk;exact E.n ι2 e2 h2' nx2 a' w' (hI _ _ _ k1) k2
   |some p =>
    rw[hpl]at hl hp;exact W3 hT hC hY hD hm (TB hp) J hl r fun ι' e' h' nx' a' w' hk J'=>E.n ι' e' h' nx' a' w' hk ⟨B,w1,ι1,nx1,ds,h1,h2,h3,h4,h5,J'⟩
 |seq a b iha ihb =>
  intro hp kn kx kr e h nx hl B0 w0 ι0 nx0 Q hM E ι ac w I;simp only[fF,af]at hp;refine wpIn_seq (iha hp.1 _ kx kr e h nx hl B0 w0 ι0 nx0 _ hM ⟨fun ι e h nx a w hk I=>?_,fun id ι e h nx a w hk I=>?_,fun ι e h nx a w hk I=>?_⟩ ι ac w I)
  ·exact ihb hp.2 kn kx kr e h nx hk B0 w0 ι0 nx0 Q hM E ι a w I
  ·exact E.x id ι e h nx a w hk I
  exact E.r ι e h nx a w hk I
 |cond c t f iht ihf =>
  intro hp kn kx kr e h nx hl B0 w0 ι0 nx0 Q hM E ι a w I;simp only[fF,af]at hp;simp only[jB,lU,uX]at hl;split at hl
  case h_2=>exact hl.elim
  rename_i b hb;have hc:a.eval c=.bool b:=by
   obtain⟨B,w1,ι1,nx1,ds,h1,h2,h3,h4,h5,J⟩:=I;rw[(J.env.dZ hb).1,uV]
  rcases rA hl with⟨rfl,hl⟩|⟨rfl,hl⟩
  ·exact wpIn_cond_true hc (iht hp.1 kn kx kr e h nx hl B0 w0 ι0 nx0 Q hM E ι a w I)
  exact wpIn_cond_false hc (ihf hp.2 kn kx kr e h nx hl B0 w0 ι0 nx0 Q hM E ι a w I)
 |block id b ih =>
  intro hp kn kx kr e h nx hl B0 w0 ι0 nx0 Q hM E ι a w I;refine wpIn_block (ih hp _ _ kr e h nx hl B0 w0 ι0 nx0 (Exit.inBlock id Q) hM ⟨E.n,fun j ι e h nx a w hk I=>?_,E.r⟩ ι a w I);cases hb:Nat.beq j id with
  |true =>
   rw[hb]at hk;simp only[Exit.inBlock,if_pos (az hb)];exact E.n ι e h nx a w hk I
  |false =>
   rw[hb]at hk;simp only[Exit.inBlock,if_neg (ba hb)];exact E.x j ι e h nx a w hk I
 |loop b ih =>
  intro hp kn kx kr e h nx hl B0 w0 ι0 nx0 Q hM E ι a w I;simp only[jB,lU,uX]at hl;cases M with
  |fuel n0 =>
   refine ED (I:=fun n a w=>∃ ι e h nx,LX (fun k=>jY aF T C Y tn PL (.fuel n0) R b k kx kr) n e h nx/\vR B0 w0 ι0 nx0 tn ι e h nx a w) (n:=n0) ⟨ι,e,h,nx,hl,I⟩ fun m a w hi=>?_;obtain⟨ι,e,h,nx,h1,I⟩:=hi;cases m with
   |zero=>exact h1.elim
   |succ m =>
    refine ih hp (LX (fun k=>jY aF T C Y tn PL (.fuel n0) R b k kx kr) m) kx kr e h nx h1 B0 w0 ι0 nx0 (Exit.then (fun a' w'=>∃ m',m'<m+1/\∃ ι e h nx,LX (fun k=>jY aF T C Y tn PL (.fuel n0) R b k kx kr) m' e h nx/\vR B0 w0 ι0 nx0 tn ι e h nx a' w') Q) hM ⟨fun ι e h nx a w hk I=>?_,fun id ι e h nx a w hk I=>E.x id ι e h nx a w hk I,fun ι e h nx a w hk I=>E.r ι e h nx a w hk I⟩ ι a w I;exact⟨m,Nat.lt_succ_self m,ι,e,h,nx,hk,I⟩
  |inv bs =>
   obtain⟨J,⟨n,h0⟩,hJ⟩:=hl;obtain⟨ι',e',h',nx',h0',I'⟩:=I.aHO hM h0;refine ED (I:=fun n a w=>∃ ι e h nx,J n e h nx/\vR B0 w0 ι0 nx0 tn ι e h nx a w) (n:=n) ⟨ι',e',h',nx',h0',I'⟩ fun n a w hi=>?_;obtain⟨ι,e,h,nx,h1,I⟩:=hi;refine ih hp _ kx kr e h nx (hJ n e h nx h1) B0 w0 ι0 nx0 (Exit.then (fun a' w'=>∃ m,m<n/\∃ ι e h nx,J m e h nx/\vR B0 w0 ι0 nx0 tn ι e h nx a' w') Q) hM ⟨fun ι e h nx a w hk I=>?_,fun id ι e h nx a w hk I=>E.x id ι e h nx a w hk I,fun ι e h nx a w hk I=>E.r ι e h nx a w hk I⟩ ι a w I;obtain⟨m,hm,hk⟩:=hk;obtain⟨ι',e',h',nx',hk',I'⟩:=I.aHO hM hk;exact⟨m,hm,ι',e',h',nx',hk',I'⟩
 |rangeFunc g ps as bd _ _=>exact fun _ kn kx kr e h nx hl B0 w0 ι0 nx0 Q hM E ι a w I=>hR g ps as bd kn kx kr e h nx hl B0 w0 ι0 nx0 Q E ι a w I
 |exit id=>exact fun _ kn kx kr e h nx hl B0 w0 ι0 nx0 Q hM E ι a w I=>wpIn_exit (E.x id ι e h nx a w hl I)
 |ret=>exact fun _ kn kx kr e h nx hl B0 w0 ι0 nx0 Q hM E ι a w I=>wpIn_ret (E.r ι e h nx a w hl I)
 |label l=>exact fun _ kn kx kr e h nx hl B0 w0 ι0 nx0 Q hM E ι a w I=>wpIn_label (E.n ι e h nx a w hl I)
 |scope b ih =>
  intro hp kn kx kr e h nx hl B0 w0 ι0 nx0 Q hM E ι a w I;refine AA (ih hp kn kx kr e h nx hl B0 w0 ι0 nx0 _ hM ⟨fun ι e h nx a w hk I=>⟨fun l he=>(by cases he),E.n ι e h nx a w hk I⟩,fun id ι e h nx a w hk I=>⟨fun l he=>(by cases he),E.x id ι e h nx a w hk I⟩,fun ι e h nx a w hk I=>⟨fun l he=>(by cases he),E.r ι e h nx a w hk I⟩⟩ ι a w I)
 |goto l=>exact fun _ _ _ _ _ _ _ hl=>hl.elim
 |refuse s=>exact fun _ _ _ _ _ _ _ hl=>hl.elim
end
def iT (T:dN)(e:List (Nat × Value))(h:Heap)(l:List ResultVar):(List Value->Prop)->Prop :=
 @List.rec ResultVar (fun _=>(List Value->Prop)->Prop) (fun K=>K [])
  (fun x _ ih K=>match x with
   |.tmp t=>on (aw e t) fun v=>ih fun l=>K (v::l)
   |.cell a t=>on (aw e a) fun p=>yL T h t p fun v=>ih fun l=>K (v::l)) l
theorem pH {T:dN}{e:List (Nat × Value)}{h:Heap}{t:Nat}{r:List ResultVar}{K:List Value->Prop}:iT T e h (.tmp t::r) K=on (aw e t) fun v=>iT T e h r fun l=>K (v::l):=rfl
theorem n7 {T:dN}{e:List (Nat × Value)}{h:Heap}{a:Nat}{t:TypeId}{r:List ResultVar}{K:List Value->Prop}:iT T e h (.cell a t::r) K=on (aw e a) fun p=>yL T h t p fun v=>iT T e h r fun l=>K (v::l):=rfl
def PA:List Value->Bool
 |[]=>true
 |.tuple _::_=>false
 |_::r=>PA r
def HD (T:dN)(fn:Func)(K:KE):KS:=fun e h nx=>iT T e h fn.results.toList fun l =>
 match l with
 |[v]=>K v h nx
 |l=>match PA l with|true=>K (.tuple l.toArray) h nx|false=>False
def EX (tmps:Array Value):ResultVar->Sem Value
 |.tmp t=>pure (tmps.getD t undef)
 |.cell b t=>do loadVar t (<- asAddr (tmps.getD b undef))
theorem XO (fn:Func)(tmps:Array Value):results fn tmps=(do let vs <- fn.results.mapM (EX tmps);pure (if h:vs.size=1 then vs[0]else .tuple vs)):=by
 unfold results;congr 1
section
variable {P:Program}{T:dN}
theorem w6 (hT:dJ P T){ι:Nat->Loc}{B nx:Nat}{e:List (Nat × Value)}{h:Heap}{a:Act}(he:dV ι nx e a){w:World}(H:aY ι B h nx w):∀(l:List ResultVar) (K:List Value->Prop),iT T e h l K ->
  ∃ vs,K vs/\vs.length=l.length/\(∀ v∈vs,fU ι nx v)/\∀ w',aY ι B h nx w'->(l.mapM (EX a.tmps)).run P w'=.ok (vs.map (tr ι)) w'
 |[],K,hl=>⟨[],hl,rfl,by simp,fun w' _=>by simp⟩
 |.tmp t::r,K,hl=>by
  simp only[pH,n7]at hl;obtain⟨v,hv,hl⟩:=dR hl;obtain⟨vs,h1,h2,h3,h4⟩:=w6 hT he H r _ hl;obtain⟨e1,e2⟩:=he t v hv;refine⟨v::vs,h1,by simp[h2],fun u hu=>?_,fun w' H'=>?_⟩
  ·rcases List.mem_cons.1 hu with rfl|hu
   ·exact e2
   exact h3 u hu
  have:=h4 w' H';have h6:(EX a.tmps (.tmp t)).run P w'=.ok (tr ι v) w':=(by simp[EX,e1]);simp only[List.mapM_cons,Sem.run_bind,Sem.run_pure,Result.andThen_ok,this,h6,List.map_cons]
 |.cell b t::r,K,hl=>by
  simp only[pH,n7]at hl;obtain⟨p,hp,hl⟩:=dR hl;obtain⟨v,hk,hv,hrun⟩:=V9 (P:=P) hT hl H;obtain⟨vs,h1,h2,h3,h4⟩:=w6 hT he H r _ hk;obtain⟨e1,e2⟩:=he b p hp;refine⟨v::vs,h1,by simp[h2],fun u hu=>?_,fun w' H'=>?_⟩
  ·rcases List.mem_cons.1 hu with rfl|hu
   ·exact lF hv
   exact h3 u hu
  have:=h4 w' H';have e3:a.tmps.getD b undef=tr ι p:=(by simp[e1]);have h5:=hrun w' H';have hptr:∃ ad,tr ι p=.pointer (some ad):=by
   unfold yL at hl;split at hl
   ·rename_i k o;simp only[iA];split at hl
    ·rename_i ti wr g sz cs ht hlk;have hsc:k<nx/\(ι k).jD=true:=e2;cases hι:ι k with
     |nil q=>rw[hι]at hsc;cases hsc.2
     |lay b o e=>exact⟨_,rfl⟩
    exact hl.elim
   exact hl.elim
  obtain⟨ad,had⟩:=hptr;rw[had]at h5;simp only[Instr.loadAt,Instr.sureAddr,Sem.run_bind,Sem.run_pure,Result.andThen_ok]at h5;have h6:(EX a.tmps (.cell b t)).run P w'=.ok (tr ι v) w':=by
   simp only[EX,e3,had,asAddr,Sem.run_bind,Sem.run_pure,Result.andThen_ok,h5]
  simp only[List.mapM_cons,Sem.run_bind,Sem.run_pure,Result.andThen_ok,h6,this,List.map_cons]
theorem aHt (hT:dJ P T){fn:Func}{K:KE}{ι:Nat->Loc}{B nx:Nat}{e:List (Nat × Value)}{h:Heap}{a:Act}(he:dV ι nx e a){w:World}(H:aY ι B h nx w)(hl:HD T fn K e h nx) :
  ∃ v,K v h nx/\fU ι nx v/\∀ w',aY ι B h nx w'->(results fn a.tmps).run P w'=.ok (tr ι v) w':=by
 unfold HD at hl;obtain⟨vs,h1,h2,h3,h4⟩:=w6 hT he H _ _ hl;have hres:∀ w',aY ι B h nx w'->(results fn a.tmps).run P w'=.ok (if h:(vs.map (tr ι)).toArray.size=1 then(vs.map (tr ι)).toArray[0]else .tuple (vs.map (tr ι)).toArray) w':=by
  intro w' H';have:=h4 w' H';rw[XO,Array.mapM_eq_mapM_toList];simp only[Sem.run_bind,Sem.run_map,this,Result.andThen_ok,Sem.run_pure]
 split at h1
 ·rename_i v;exact⟨v,h1,h3 v (by simp),fun w' H'=>by rw[hres w' H'];simp⟩
 rename_i hne;split at h1
 case h_2=>exact h1.elim
 rename_i hnt;have hA:∀ v∈vs,mS ι nx v:=by
  clear h4 hres hne h2 hl h1
  induction vs with
  |nil=>simp
  |cons x r ih =>
   intro v hv;have hx:(∀ c,x≠.tuple c)/\PA r=true:=by
    cases x <;> first|exact⟨fun c e=>(by cases e),hnt⟩|(simp[PA]at hnt)
   rcases List.mem_cons.1 hv with rfl|hv
   ·exact MT hx.1 (h3 v (by simp))
   exact ih (fun u hu=>h3 u (by simp[hu])) hx.2 v hv
 refine⟨_,h1,fun v hv=>hA v (by simpa using hv),fun w' H'=>?_⟩;rw[hres w' H'];have hlen:vs.length≠1:=by
  intro e;obtain⟨v,rfl⟩:=List.length_eq_one_iff.1 e;exact hne v rfl
 rw[dif_neg (by simpa using hlen)];simp only[tr];congr 2;apply Array.ext';simp only[List.map_toArray];apply List.map_congr_left;intro v hv;exact r8 (hA v hv)
end
def jR (h:Heap)(nx:Nat):Heap:=iH (rem (rem h (nx+1)) nx)
def xN (C:VC)(f tn:Nat):VR:=fun g ps as bd kn kx kr e h nx =>
 on (dZ e g) fun gv=>match gv with
  |.func (.func q) first cap=>(match first.toList,sG cap.toList with
   |[],true=>C q (.func (.yield (nx+1)) #[] #[]::cap.toList)
    (cO (cO h nx .deferred) (nx+1) (.loop { state:=.ready,pending:=none,fn:=f,env:=e,tn:=tn,params:=ps.toList,assign:=as,body:=bd,defers:=nx })) (nx+2) fun _ h' nx' =>
    (match aw h' (nx+1),aw h' nx with
    |some (.loop l),some .deferred=>(match l.state,l.pending with
     |.busy,_=>False
     |_,none=>kn e (jR h' nx) nx'
     |_,some (.exit id)=>kx id e (jR h' nx) nx'
     |_,some .ret=>kr e (jR h' nx) nx'
     |_,_=>False)
    |_,_=>False)
   |_,_=>False)
  |_=>False
def y7:VR:=fun _ _ _ _ _ _ _ _ _ _=>False
def wW (tn:Nat):List (Nat × Value)->List Nat->List Value->Option (List (Nat × Value))
 |e,[],[]=>some e
 |e,t::ts,v::vs=>match Nat.blt t tn with|true=>wW tn (put e t v) ts vs|false=>none
 |_,_,_=>none
def BC (q:Nat)(K:KE)(j:Option Code):KS:=fun _ h nx =>
 match aw h q with
 |some (.loop l)=>K (.bool j.isNone) (xQ h q (.loop { l with state:=if j.isNone then .ready else .done,pending:=j })) nx
 |_=>False
def vF (A:Ar)(T:dN)(C:VC)(Y:VY)(PL:Nat->Nat->Option gQ)(M:LM):VY:=fun q args h nx K =>
 match aw h q with
 |some (.loop l)=>(match wW l.tn l.env l.params args,fF (PL l.fn) l.assign&&fF (PL l.fn) l.body with
  |some e0,true=>jY A T C Y l.tn (PL l.fn) M y7 l.assign (fun e1 h1 nx1 =>
   match aw h1 q with
   |some (.loop l1)=>(match l1.state with
    |.ready=>jY A T C Y l.tn (PL l.fn) M y7 l.body (BC q K none) (fun id=>BC q K (some (.exit id))) (BC q K (some .ret)) e1 (xQ h1 q (.loop { l1 with state:=.busy })) nx1
    |_=>False)
   |_=>False) (fun _ _ _ _=>False) (fun _ _ _=>False) e0 h nx
  |_,_=>False)
 |_=>False
def vZ:Nat->List Value->List (Nat × Value)
 |_,[]=>[]
 |i,v::r=>(i,v)::vZ (i+1) r
def prune (n:Nat):Heap->Heap
 |[]=>[]
 |(k,o)::r=>match Nat.blt k n with|true=>(k,o)::prune n r|false=>prune n r
structure EI where
 A:Ar
 T:dN
 FT:Nat->Option Func
 PL:Nat->Nat->Option gQ
 PR:Nat->Bool
 X:Nat->Option (List Value->Heap->Nat->KE->Prop)
 M:Nat
def tK (c:EI)(M:Option Nat)(C:VC)(Y:VY):VC:=fun f args h nx K =>
 match c.X f with
 |some x=>x args h nx K
 |none=>match c.FT f with
  |none=>False
  |some fn=>(match fn.body,Nat.ble args.length fn.ntmps with
   |some b,true =>
    let fin:KS:=HD c.T fn fun v h' nx'=>K v h' nx'
    jY c.A c.T C Y fn.ntmps (c.PL f) (match M with|some n=>.fuel n|none=>.inv nx) (xN C f fn.ntmps) b fin (fun _ _ _ _=>False) fin (vZ 0 args) h nx
   |_,_=>False)
def app:Heap->Heap->Heap
 |[],l=>l
 |x::r,l=>x::app r l
theorem jM (h l:Heap)(k:Nat):aw (app h l) k=match aw h k with|some o=>some o|none=>aw l k:=by
 induction h with
 |nil=>rfl
 |cons x r ih =>
  obtain⟨j,o⟩:=x;simp only[app,aD];cases Nat.beq j k with
  |true=>rfl
  |false=>exact ih
def sJ (n:Nat)(g:Heap):Heap->Heap
 |[]=>[]
 |(k,o)::r=>match Nat.ble n k,aw g k with
  |true,some (.cells true _ _ _)=>(k,o)::sJ n g r
  |true,some (.map _)=>(k,o)::sJ n g r
  |_,_=>sJ n g r
def frK (h:Heap)(nx:Nat)(K:KE):KE:=fun v h' nx'=>match gT v with
 |true=>K v h nx
 |false=>K v (app (sJ nx h' h') h) nx'
def frC (PR:Nat->Bool)(C:VC):VC:=fun f args h nx K=>match PR f with
 |true=>C f args (iH h) nx (frK h nx K)
 |false=>C f args h nx K
def qI (c:EI):Nat->Bool->VC
 |0,_=>fun _ _ _ _ _=>False
 |d+1,false=>frC c.PR (tK c (some c.M) (qI c d false) (qI c d true))
 |d+1,true=>vF c.A c.T (qI c d false) (qI c d true) c.PL (.fuel c.M)
section
variable {P:Program}{T:dN}
theorem aY.down {ι:Nat->Loc}{B B0 nx:Nat}{h:Heap}{w:World}(H:aY ι B h nx w)(hB:B0<=B):aY ι B0 h nx w:=by
 refine⟨fun k o hk=>?_,H.sep,H.low,Nat.le_trans hB H.size,H.sc⟩;have ho:=H.obj k o hk;cases hι:ι k with
 |nil p=>rw[hι]at ho;cases o <;> first|exact ho|exact ho.elim
 |lay b off e =>
  rw[hι]at ho;cases o with
  |cells wr g sz cs =>
   cases wr with
   |true=>exact⟨Nat.le_trans hB ho.1,ho.2⟩
   |false=>exact ho
  |map es=>exact⟨Nat.le_trans hB ho.1,ho.2⟩
  |loop l=>exact⟨Nat.le_trans hB ho.1,ho.2⟩
  |deferred=>exact⟨Nat.le_trans hB ho.1,ho.2⟩
  |zero=>exact ho
theorem aY.taken {ι:Nat->Loc}{B nx:Nat}{h:Heap}{w:World}(H:aY ι B h nx w){b:Nat}(hb:b<B){ds:Option (List Deferred)}(hd:w.heap[b]? = some (.deferred ds))(o:Obj) :
  aY ι B h nx { w with heap:=w.heap.setIfInBounds b o }:=by
 have hother:∀ c,c≠b->(w.heap.setIfInBounds b o)[c]? = w.heap[c]? := fun c hc=>(by rw[Array.getElem?_setIfInBounds_ne (fun e=>hc e.symm)]);refine⟨fun k q hk=>?_,H.sep,H.low,by simpa using H.size,H.sc⟩;have hq:=H.obj k q hk;by_cases hkb:(ι k).F9=some b
 ·-- only what is read,and that is empty
  cases hι:ι k with
  |nil p=>rw[hι]at hkb;cases hkb
  |lay c off e =>
   have hcb:c=b:=(by rw[hι]at hkb;simpa[Loc.F9]using hkb);subst hcb;rw[hι]at hq;cases q with
   |cells wr g sz cs =>
    cases wr with
    |true=>have:=hq.1;omega
    |false =>
     refine⟨by simpa using hq.1,hq.2.1,fun i v hv=>?_⟩;have:=hq.2.2 i v hv;simp[World.cell?,hd]at this
   |map es=>have:=hq.1;omega
   |loop l=>have:=hq.1;omega
   |deferred=>have:=hq.1;omega
   |zero=>exact hq.elim
 exact hq.FX (fun c hc=>hother c (fun e=>hkb (e▸hc))) (by simp)
theorem CE {ι:Nat->Loc}{B B0 nx:Nat}{h:Heap}{fn:Func}{tmps:Array Value}{Rr:Ending->World->Prop}:∀(bs:List Nat) (w:World),bs.Nodup->(∀ b∈bs,B0<=b/\b<B/\w.heap[b]? = some (.deferred (some [])))->aY ι B h nx w ->
  (∀ w',aY ι B h nx w'->jO B0 w w'->∃ u,(results fn tmps).run P w'=.ok u w'/\Rr (.returned u) w')->LeavesInM Fence.wide 0 P fn tmps Rr (bs.map E5) .returning w
 |[],w,_,_,H,hR=>hR w H (jO.refl _ _)
 |b::bs,w,hn,hb,H,hR=>by
  rw[List.nodup_cons]at hn;obtain⟨h1,h2,h3⟩:=hb b (by simp);have hlt:=(Array.getElem?_eq_some_iff.1 h3).1;have hbel:jO B0 w { w with heap:=w.heap.setIfInBounds b (.deferred none) }:=⟨rfl,rfl,rfl,by simp,fun c hc=>by
   simp[Array.getElem?_setIfInBounds_ne (aa:b≠c)],ah _⟩
  refine⟨by simp,.inl ⟨b,{ w with heap:=w.heap.setIfInBounds b (.deferred none) },rfl,?_,?_⟩⟩
  ·simp[Instr.takeDeferred,getObj,setObj,Sem.run,h3]
  refine CE bs _ hn.2 (fun c hc=>?_) (H.taken h2 h3 _) (fun w' H' hb'=>hR w' H' (hbel.trans hb'));obtain⟨k1,k2,k3⟩:=hb c (by simp[hc]);have hne:b≠c:=fun e=>hn.1 (e▸hc);exact⟨k1,k2,by simp[Array.getElem?_setIfInBounds_ne hne,k3]⟩
end
section
variable {P:Program}{T:dN}{C:VC}{Y:VY}
theorem CZ:∀(l:List Value) (i t:Nat) (v:Value),aw (vZ i l) t=some v->i<=t/\l[t - i]? = some v
 |[],i,t,v,h=>by cases h
 |x::r,i,t,v,h=>by
  simp only[vZ,aD]at h;split at h
  ·rename_i hb;have:=az hb;subst this;injection h with h;subst h;exact⟨ah _,by simp⟩
  obtain⟨h1,h2⟩:=CZ r (i+1) t v h;refine⟨aa,?_⟩;rw[(aa:t - i=(t - (i+1))+1)];simpa using h2
theorem Y8 {ι:Nat->Loc}{n:Nat}{args:List Value}(hs:∀ v∈args,fU ι n v){k:Nat}{ds:List Deferred}:dV ι n (vZ 0 args) { tmps:=(args.map (tr ι)).toArray++Array.replicate k undef,defers:=ds }:=by
 intro t v h;obtain⟨_,h2⟩:=CZ args 0 t v h;rw[Nat.sub_zero]at h2;have hlt:=(List.getElem?_eq_some_iff.1 h2).1;refine⟨?_,hs v (List.mem_of_getElem? h2)⟩;rw[Array.getElem?_append_left (by simpa using hlt)];simp[h2]
theorem aHJ (hT:dJ P T)(hC:bN P C)(hY:fZ P Y)(hD:fG C)(hDY:fG Y)(hm:P.follows .mixedOrders=true){f:FuncId}{fn:Func}{b:Code}(hf:P.funcs[f]? = some fn)(hb:fn.body=some b){nx:Nat}{PL:Nat->Option gQ}(hp:fF PL b=true)
  {M:LM} (hM:M.low nx) {R:VR} (hR:H8 P none fn.ntmps R) (hRm:ZX R) {args:List Value} (ha:args.length<=fn.ntmps) {h:Heap} {K K':KE} (hK:∀ v h' nx',K' v h' nx'->∃ h'',K v h'' nx'/\∀ k o,aw h'' k=some o->aw h' k=some o)
  (hl:jY aF T C Y fn.ntmps PL M R b (HD T fn K') (fun _ _ _ _=>False) (HD T fn K') (vZ 0 args) h nx) {ι:Nat->Loc} {B:Nat} {w:World} (H:aY ι B h nx w) (hs:∀ v∈args,fU ι nx v) :
  CallsIn Fence.wide 0 P f (args.map (tr ι)).toArray w (Ret B w ι nx K):=by
 refine callsIn_of_wp_marks hf hb trivial ?_ rfl;have hend:∀ ι' e h' nx' a w',HD T fn K' e h' nx'->vR B w ι nx fn.ntmps ι' e h' nx' a w'->LeavesInM Fence.wide 0 P fn a.tmps (Ret B w ι nx K) a.defers .returning w':=by
  intro ι' e h' nx' a w' hv I;obtain⟨B1,w1,ι1,nx1,ds,h1,h2,h3,h4,⟨bs,rfl,hnd,hbs⟩,J⟩:=I;rw[J.defers];obtain⟨v,k1,k2,k3⟩:=aHt hT J.env J.heap hv;obtain⟨h'',k4,k5⟩:=hK v h' nx' k1;refine CE (B:=B1) (B0:=B) bs w' hnd (fun x hx=>?_) J.heap (fun w2 H2 hb2=>⟨_,k3 w2 H2,v,h'',nx',ι',k4,k2,(H2.down h1).sub k5,?_,fun k hk=>(J.old k (Nat.lt_of_lt_of_le hk h4)).trans (h3 k hk),Nat.le_trans h4 J.le,rfl⟩)
  ·obtain⟨q1,q2,q3⟩:=hbs x hx;exact⟨q1,q2,by rw[J.below.block x q2];exact q3⟩
  exact(h2.trans (J.below.mono h1)).trans hb2
 refine ME hT hC hY hD hDY hm none hR hRm b hp _ _ _ _ h nx hl B w ι nx _ hM ⟨?_,?_,?_⟩ ι _ w ?_
 ·exact fun ι' e h' nx' a w' hv I=>hend ι' e h' nx' a w' hv I
 ·exact fun id ι' e h' nx' a w' hv I=>hv.elim
 ·exact fun ι' e h' nx' a w' hv I=>hend ι' e h' nx' a w' hv I
 refine⟨B,w,ι,nx,[],ah _,jO.refl _ _,fun _ _=>rfl,ah _,⟨[],rfl,by simp,by simp⟩,Y8 hs,H,jO.refl _ _,fun _ _=>rfl,ah _,?_,rfl⟩;simp;omega
end
section
variable {P:Program}{T:dN}{C:VC}{Y:VY}
theorem sC {w:World}{l:Nat}{r:Loop}(h:w.heap[l]? = some (.loop r)):(Instr.getLoop l).run P w=.ok r w:=by
 simp[Instr.getLoop,getObj,Sem.run,h]
theorem xU {w:World}{l:Nat}{r:Loop}(h:w.heap[l]? = some (.loop r))(o:Obj):(setObj l o).run P w=.ok () { w with heap:=w.heap.setIfInBounds l o }:=by
 simp[setObj,Sem.run,h]
theorem aCV (hC:bN P C){f tn:Nat}:H8 P none tn (xN C f tn):=by
 intro g ps as bd kn kx kr e h nx hl B0 w0 ι0 nx0 Q E ι a w I;obtain⟨B,w1,ι1,nx1,ds,h1,h2,h3,h4,⟨bs,hds,hnd,hbs⟩,J⟩:=I;unfold xN at hl;obtain⟨gv,hgv,hl⟩:=dR hl;obtain⟨e1,e2⟩:=J.env.dZ hgv;split at hl
 case h_2=>exact hl.elim
 rename_i q first cap;split at hl
 case h_2=>exact hl.elim
 rename_i hfirst hcap;obtain⟨first⟩:=first;simp only at hfirst;subst hfirst;refine wpIn_rangeFunc fun fnid _=>?_
 -- the records
 have H:=J.heap;have hA:=H.new (.deferred (some [])) .deferred ⟨H.size,(MapKept.heap_alloc w _).1⟩ trivial;generalize hι2:ins ι nx (.lay w.heap.size 0 0)=ι2 at hA;generalize hwA:w.alloc (.deferred (some []))=wA at hA;have hbA:jO w.heap.size w wA:=(by rw[<- hwA];exact eP w _);have hi2:∀ k,k<nx->ι2 k=ι k:=fun k hk=>(by rw[<- hι2];exact dE _ _ hk);have hmark:ι2 nx=.lay w.heap.size 0 0:=(by rw[<- hι2];exact bZ _ _ _);let rec_:Loop:={ state:=.ready,pending:=none,fn:=fnid,tmps:=a.tmps,params:=ps,assign:=as,body:=bd,defers:=w.heap.size };let la:aBX:={ state:=.ready,pending:=none,fn:=f,env:=e,tn:=tn,params:=ps.toList,assign:=as,body:=bd,defers:=nx };have hi3':∀ k,k<nx->ins ι2 (nx+1) (.lay wA.heap.size 0 0) k=ι k:=fun k hk=>(by rw[dE _ _ aa];exact hi2 k hk);have hB:=hA.new (.loop rec_) (.loop la) (by
  refine⟨hA.size,rec_,(MapKept.heap_alloc wA _).1,rfl,rfl,trivial,J.size,fun t v hv=>?_,rfl,rfl,rfl,?_⟩
  ·obtain⟨k1,k2⟩:=J.env t v hv;rw[KP hi3' k2];exact k1
  show(ins ι2 (nx+1) (.lay wA.heap.size 0 0) nx).F9=some w.heap.size;rw[dE _ _ aa,hmark];rfl) ⟨fun t v hv=>uR aa hi3' (J.env t v hv).2,by show nx<nx+1+1;omega⟩
 generalize hι3:ins ι2 (nx+1) (.lay wA.heap.size 0 0)=ι3 at hB hi3';generalize hwB:wA.alloc (.loop rec_)=wB at hB;have hbB:jO wA.heap.size wA wB:=(by rw[<- hwB];exact eP wA _);have hl3:ι3 (nx+1)=.lay wA.heap.size 0 0:=(by rw[<- hι3];exact bZ _ _ _);have hm3:ι3 nx=.lay w.heap.size 0 0:=(by rw[<- hι3,dE _ _ aa];exact hmark);have hwA1:w.heap.size<wA.heap.size:=by rw[<- hwA];exact(Array.getElem?_eq_some_iff.1 (MapKept.heap_alloc w _).1).1
 -- the call
 obtain⟨⟨fn,hfn,hbody,hname⟩,hcalls⟩:=hC q _ _ _ _ hl ι3 B wB hB (by
  intro v hv;rcases List.mem_cons.1 hv with rfl|hv
  ·simp[fU,mS,jJ,XJ,hl3,Loc.jD]
  obtain⟨p,rfl⟩:=kH hcap v hv;exact uR aa hi3' (show fU ι nx (.pointer (some p))from e2.2 _ hv))
 have hcapm:cap.map (eM ι)=(cap.toList.map (tr ι3)).toArray:=by
  apply Array.ext';simp only[Array.toList_map];apply List.map_congr_left;intro v hv;obtain⟨p,rfl⟩:=kH hcap v hv;exact(KP hi3' (show fU ι nx (.pointer (some p))from e2.2 _ hv)).symm
 have hy:tr ι3 (.func (.yield (nx+1)) #[] #[])=.func (.yield wA.heap.size) #[] #[]:=(by simp [tr,eK,cF,nB,hl3]);obtain⟨bdy,hb'⟩:=Option.isSome_iff_exists.1 hbody;have hname' : fn.name ≠ "runtime.NumGoroutine" := (by simpa using hname);refine⟨wA.heap.size,[E5 w.heap.size],wB,{ target:=.fn (.func q) (cap.map (eM ι)),args:=#[.func (.yield wA.heap.size) #[] #[]] },wB,q,((Value.func (.yield (nx+1)) #[] #[]::cap.toList).map (tr ι3)).toArray,wB,?_,?_,fun _ _=>trivial,?_,fun hdep=>absurd hdep (by simp [Fr,Fence.wide]),?_⟩
 ·have hr:(Fr none).round=none:=rfl;rw[hr];subst hwB;subst hwA;simp[Instr.enterLoop,E5,rec_]
 ·have he1:a.eval g=.func (.func q) #[] (cap.map (eM ι)):=e1;have hc:∀ v,a.eval (.const v)=v:=fun _=>rfl;simp[resolve,rangeCall,he1,hc,Deferred.ofValue]
 ·simp[invoke,callFunc,hfn,hname',hb',hcapm,hy]
 refine CallsIn.mono (F:=Fence.wide) hcalls fun en w3 hret=>?_;cases en with
 |panicked c=>exact hret.elim
 |outgrown=>exact hret.elim
 |returned u =>
  obtain⟨v,h',nx',ι',k1,k2,k3,k4,k5,k6,rfl⟩:=hret;split at k1
  case h_2=>exact k1.elim
  rename_i l' hl1 hl2;have hι'l:ι' (nx+1)=.lay wA.heap.size 0 0:=(k5 _ aa).trans hl3;have hι'm:ι' nx=.lay w.heap.size 0 0:=(k5 _ aa).trans hm3;have ho:=k3.obj _ _ hl1;rw[hι'l]at ho;obtain⟨o1,r',o2,o3,o4,_⟩:=ho;have hd:=k3.obj _ _ hl2;rw[hι'm]at hd;have hnb:l'.state≠.busy:=by
   intro hs;simp[hs]at k1
  have hend:(Instr.endLoop wA.heap.size).run P w3=.ok l'.pending { w3 with heap:=w3.heap.setIfInBounds wA.heap.size (.loop { r' with state:=.exhausted }) }:=by
   have hne:r'.state≠.busy:=(by rw[o3];exact hnb);have hbeq:(r'.state == .busy)=false:=(by simpa using hne);simp[Instr.endLoop,sC o2,xU o2,hbeq,o4];exact fun h=>absurd h hne
  -- qY it
  generalize hw4:({ w3 with heap:=w3.heap.setIfInBounds wA.heap.size (.loop { r' with state:=.exhausted }) }:World)=w4 at hend;have hoth:∀ c,c≠wA.heap.size->w4.heap[c]? = w3.heap[c]? := fun c hc=>(by rw[<- hw4];simp[Array.getElem?_setIfInBounds_ne (fun e=>hc e.symm)]);have hsz4:w4.heap.size=w3.heap.size:=(by rw[<- hw4];simp);have hb4:jO B w3 w4:=⟨by rw[<- hw4],by rw[<- hw4],by rw[<- hw4],aa,fun c hc=>hoth c aa,by rw[<- hw4];exact ah _⟩;have hR:aY ι' B (rem (rem h' (nx+1)) nx) nx' w4:=by
   refine((k3.rem (nx+1)).rem nx).FX (fun k o b hk hkb=>hoth b fun e=>?_) aa;rw[dO]at hk;split at hk
   ·cases hk
   rw[dO]at hk;split at hk
   ·cases hk
   rename_i hne;exact k3.sep (nx+1) k _ o hl1 hk (fun e=>hne e.symm) rfl wA.heap.size (by rw[hι'l];rfl) (by rw[hkb,e])
  have hBw:jO B w w4:=((hbA.mono H.size).trans (hbB.mono hA.size)).trans (k4.trans hb4);have hi':∀ k,k<nx->ι' k=ι k:=fun k hk=>(k5 k aa).trans (hi3' k hk);have I':vR B0 w0 ι0 nx0 tn ι' e (jR h' nx) nx' { a with defers:=[E5 w.heap.size]++a.defers } w4:=by
   refine⟨w4.heap.size,w4,ι',nx',E5 w.heap.size::ds,?_,?_,fun k hk=>?_,?_,⟨w.heap.size::bs,by rw[hds];rfl,?_,fun b hb=>?_⟩,J.env.names aa hi',hR.shut,jO.refl _ _,fun _ _=>rfl,ah _,J.size,by rw[<- J.defers];rfl⟩
   ·exact Nat.le_trans h1 hR.size
   ·exact h2.trans ((J.below.mono h1).trans (hBw.mono h1))
   ·have q1:k<nx1:=Nat.lt_of_lt_of_le hk h4;exact(hi' k (Nat.lt_of_lt_of_le q1 J.le)).trans ((J.old k q1).trans (h3 k hk))
   ·have:=J.le;omega
   ·rw[List.nodup_cons];refine⟨fun hm=>?_,hnd⟩;have:=(hbs _ hm).2.1;have:=H.size;omega
   ·rcases List.mem_cons.1 hb with rfl|hb
    ·have:=H.size;have hsz:=hBw.size;have hk:=k4.size;have hk2:=hbB.size;refine⟨aa,aa,?_⟩;rw[hoth _ aa];exact hd.2
    obtain⟨q1,q2,q3⟩:=hbs b hb;have:=hR.size;refine⟨q1,aa,?_⟩;rw[hBw.block b q2,J.below.block b q2];exact q3
  refine⟨_,w4,hend,?_⟩;split at k1
  ·exact k1.elim
  ·rename_i hp _;rw[hp];exact E.n _ _ _ _ _ _ k1 I'
  ·rename_i hp _;rw[hp];exact wpIn_exit (E.x _ _ _ _ _ _ _ k1 I')
  ·rename_i hp _;rw[hp];exact wpIn_ret (E.r _ _ _ _ _ _ k1 I')
  exact k1.elim
end
end Go.Aw
end
