/-
  Parts of the proof, put together. No condition.
-/
import Derived.Test.YtjahkcbdecgbhaaGreatQAh
set_option linter.unusedSimpArgs false
set_option linter.unusedVariables false
noncomputable section
namespace Go.Aw
open Go.RowKit
section
variable {P:Program}{T:cM}{C:VC}{Y:VY}{ops:Array Oper}{p:fE}
variable {B:Nat}{w0:World}{ιb:Nat→Loc}{nxb tn:Nat}{ds:List Deferred}{ι0:Nat→Loc}{nx0:Nat}{h0 hJ:Heap}{a0:Act}{wS:World}{vals:List (Nat × Value)}{env1:List (Nat × Value)}{K:KS}
def wR (listed:Array Bool)(i:Nat):Prop:=listed.getD i false=true
theorem wR.set {listed:Array Bool}{i:Nat}(hi:i<listed.size):wR (listed.setIfInBounds i true)=F7 (wR listed) i:=by
 funext j;unfold wR F7;apply propext;by_cases h:j=i
 ·subst h;simp [hi]
 ·rw [getD_set_ne false (fun e=>h e.symm)];simp [h]
theorem mW {listed:Array Bool}(hs:listed.size=ops.size){i:Nat}:i∈Region.ready .any ops listed↔i<ops.size∧¬ wR listed i∧∀ j∈cB ops.toList i,wR listed j:=by
 rw [mem_ready];constructor
 ·rintro ⟨h1,o,ho,h2⟩;have hlt:=(Array.getElem?_eq_some_iff.1 ho).1;refine⟨hlt,?_,fun j hj=>?_⟩
  ·unfold wR;have hl:i<listed.size:=(by omega);simp [hl] at h1 ⊢;exact h1
  ·have:eZ ops.toList i=some o:=(by rw [dS];simpa using ho);simp only [cB,this,lC,List.mem_filterMap] at hj;obtain⟨e,he,hj⟩:=hj;split at hj
   ·rename_i hb;injection hj with hj;subst hj;exact h2 e (by simpa using he) hb
   ·cases hj
 ·rintro ⟨hlt,h1,h2⟩;refine⟨?_,ops[i],by simp [hlt],fun e he hb=>?_⟩
  ·have hl:i<listed.size:=(by omega);unfold wR at h1;simp [hl] at h1 ⊢;exact h1
  ·refine h2 e.on ?_;have:eZ ops.toList i=some ops[i]:=(by rw [dS];simp [hlt]);simp only [cB,this,lC,List.mem_filterMap];exact⟨e,by simpa using he,by rw [hb]⟩
def left (n:Nat)(listed:Array Bool):Nat:=((List.range n).filter fun i=>!listed.getD i false).length
theorem yT {n:Nat}{listed:Array Bool}{i:Nat}(hi:i<n)(hs:listed.size=n)(hn:¬ wR listed i):left n (listed.setIfInBounds i true)<left n listed:=by
 unfold left;have:(List.range n).filter (fun j=>!(listed.setIfInBounds i true).getD j false)=((List.range n).filter fun j=>!listed.getD j false).filter (fun j=>decide (j≠i)):=by
  rw [List.filter_filter];apply List.filter_congr;intro j hj;by_cases h:j=i
  ·subst h;have hl:j<listed.size:=(by omega);simp [hl]
  ·rw [getD_set_ne false (fun e=>h e.symm)];simp [h]
 rw [this];refine Nat.lt_of_le_of_ne (List.length_filter_le _ _) fun e=>?_;have:=List.length_filter_eq_length_iff.1 e i (List.mem_filter.2 ⟨by simpa using hi,by unfold wR at hn;simpa using hn⟩);simp at this
theorem KG (hp:lU ops p){listed:Array Bool}(hs:listed.size=ops.size)(h:Region.ready .any ops listed=[]):∀ i,i<ops.size→wR listed i:=by
 intro i
 induction i using Nat.strongRecOn with
 |_ i ih =>
  intro hi;refine Classical.byContradiction fun hn=>?_;have:i∈Region.ready .any ops listed:=(mW hs).2 ⟨hi,hn,fun j hj=>ih j (hp.lin i hi j hj) (by have:=hp.lin i hi j hj;omega)⟩;rw [h] at this;cases this
theorem NV (X:Ctx P T C Y ops p B w0 ιb nxb tn ds ι0 nx0 h0 hJ a0 wS vals env1 K){L:Nat→Prop}{a:Act}{w:World}(hall:∀ i,i<ops.size→L i)
  (S:HP T ops p tn ds ι0 a0 wS vals L a w∨sX T C Y ops p B w0 ιb nxb tn ds ι0 nx0 hJ a0 vals K L a w):∃ ι env h nx,K env h nx∧Inv B w0 ιb nxb tn ds ι env h nx a w:=by
 have hin:∀ i∈p.order,L i:=fun i hi=>hall i (X.plan.L6 i hi);have S:sX T C Y ops p B w0 ιb nxb tn ds ι0 nx0 hJ a0 vals K L a w:=by
  rcases S with S|S
  ·exact S.post X (fun i hi=>hin i (gL.2 (.inr (.inl hi)))) (fun i hi _=>hin i (gL.2 (.inl hi)))
  ·exact S
 obtain⟨done,rest,a',ι,env,h,nx,e1,e2,e3,e4,e5,I,J,e6,e7,e8,_,_⟩:=S;cases rest with
 |cons t r=>exact absurd (hin t.1 (gL.2 (.inr (.inr (List.mem_map.2 ⟨t,by rw [e1];simp,rfl⟩))))) (e3 t (by simp))
 |nil =>
  exact⟨ι,env,h,nx,e8,J.env.congr (fun d=>(I.q2 d fun i hi _=>hin i (gL.2 (.inl hi))).symm),J.heap,J.below,J.old,J.le,I.size,I.defers⟩
theorem Q4 (X:Ctx P T C Y ops p B w0 ιb nxb tn ds ι0 nx0 h0 hJ a0 wS vals env1 K)(r:Option Nat){Q:Exit→Act→World→Prop}
  (hQ:∀ ι env h nx a w,K env h nx→Inv B w0 ιb nxb tn ds ι env h nx a w→Q .normal a w):∀ (fuel:Nat) (listed:Array Bool) (a:Act) (w:World),listed.size=ops.size→left ops.size listed≤fuel →
  (∀ i,wR listed i→∀ j∈cB ops.toList i,wR listed j) →
  (HP T ops p tn ds ι0 a0 wS vals (wR listed) a w∨sX T C Y ops p B w0 ιb nxb tn ds ι0 nx0 hJ a0 vals K (wR listed) a w)→wpAnyIn (Fr r) 0 P .any ops Q fuel listed a w:=by
 have fin:∀ (listed:Array Bool) (a:Act) (w:World),listed.size=ops.size→Region.ready .any ops listed=[] →
   (HP T ops p tn ds ι0 a0 wS vals (wR listed) a w∨sX T C Y ops p B w0 ιb nxb tn ds ι0 nx0 hJ a0 vals K (wR listed) a w)→Q .normal a w:=by
  intro listed a w hs hr S;obtain⟨ι,env,h,nx,h1,h2⟩:=NV X (KG X.plan hs hr) S;exact hQ ι env h nx a w h1 h2
 intro fuel
 induction fuel with
 |zero =>
  intro listed a w hs hl cl S;have hr:Region.ready .any ops listed=[]:=by
   refine List.eq_nil_iff_forall_not_mem.2 fun i hi=>?_;obtain⟨h1,h2,_⟩:=(mW hs).1 hi;have:=yT h1 hs h2;omega
  exact⟨hr,fin listed a w hs hr S⟩
 |succ fuel ih =>
  intro listed a w hs hl cl S;refine⟨fun hr=>fin listed a w hs hr S,fun i hi=>?_⟩;obtain⟨h1,h2,h3⟩:=(mW hs).1 hi;have hL:∀ i,wR listed i→i<ops.size:=by
   intro j hj;unfold wR at hj;by_cases h:j<listed.size
   ·omega
   ·simp [h] at hj
  have next:∀ a w,(HP T ops p tn ds ι0 a0 wS vals (F7 (wR listed) i) a w∨sX T C Y ops p B w0 ιb nxb tn ds ι0 nx0 hJ a0 vals K (F7 (wR listed) i) a w) →
    wpAnyIn (Fr r) 0 P .any ops Q fuel (listed.setIfInBounds i true) a w:=by
   intro a w S';have hset:=wR.set (listed:=listed) (i:=i) (by omega);refine ih _ a w (by simp [hs]) (by have:=yT h1 hs h2;omega) ?_ (by rw [hset];exact S');rw [hset];rintro j (rfl|hj) k hk
   ·exact .inr (h3 k hk)
   ·exact .inr (cl j hj k hk)
  rcases gL.1 (X.plan.cover i h1) with h|h|h
  ·exact XA X cl hL h h2 h3 S r _ Q next
  ·rcases S with S|S
   ·exact RO X h h2 S r _ Q fun a w s=>next a w (.inl s)
   ·obtain⟨_,_,_,_,_,_,_,_,_,_,e4,_⟩:=S;exact absurd (e4 i h) h2
  ·have S:sX T C Y ops p B w0 ιb nxb tn ds ι0 nx0 hJ a0 vals K (wR listed) a w:=by
    rcases S with S|S
    ·have hfirst:=FP X.plan.tailP (L:=wR listed) (fun t ht=>S.noT _ (List.mem_map.2 ⟨t,ht,rfl⟩)) h cl h3;obtain⟨c,rr,hrr⟩:=hfirst;obtain⟨f1,f2⟩:=X.plan.first i c rr hrr;exact S.post X (fun j hj=>n8 cl h3 j (f1 j hj)) (fun j hj hk=>n8 cl h3 j (f2 j hj hk))
    ·exact S
   exact XO X h h2 cl h3 S r _ Q fun a w s=>next a w (.inr s)
theorem RP (hT:cH P T)(hC:bI P C)(hY:eG P Y)(hD:dZ C)(hm:P.follows .mixedOrders=true)(hp:lU ops p){ι:Nat→Loc}{env:List (Nat × Value)}{h:Heap}{nx:Nat}{a:Act}{w:World}(I:Inv B w0 ιb nxb tn ds ι env h nx a w)
  (hl:oQ aB T C Y tn ops.toList p env h nx K) (r:Option Nat) {id:Nat} {Q:Exit→Act→World→Prop} (hQ:∀ ι env h nx a w,K env h nx→Inv B w0 ιb nxb tn ds ι env h nx a w→Q .normal a w) :
  (Code.region id ops true).wpIn (Fr r) 0 P Q a w:=by
 refine wpIn_region_any hm ?_;unfold oQ at hl;have H:=I.heap.drawn (w.drawn+1);have hb:gO B w { w with drawn:=w.drawn+1 }:=⟨rfl,rfl,rfl,Nat.le_refl _,fun _ _=>rfl,Nat.le_succ _⟩;have hsub:∀ k o,look (GP T ops.toList env p h) k=some o→look h k=some o:=fun k o hk=>Y3 k o hk;obtain⟨vals,env1,ι,nx,k1,hi,hn,k2,k3,k4,k5⟩:=NU hT hC hD hp.plain p.head env a ι nx (H.sub hsub) hl I.env I.size;have X:Ctx P T C Y ops p B w0 ιb nxb tn ds ι nx h (GP T ops.toList env p h) a { w with drawn:=w.drawn+1 } vals env1 K :=
  ⟨hT,hC,hY,hp,fun k hk=>(hi k (Nat.lt_of_lt_of_le hk I.le)).trans (I.old k hk),Nat.le_trans I.le hn,I.size,I.defers,H.wide hi hn,I.below.trans hb,hsub,k2,k3,k4,k5,k1⟩
 have hno:∀ i,¬ wR (Array.replicate ops.size false) i:=by
  intro i;unfold wR;by_cases h:i<ops.size <;> simp [h]
 refine Q4 X r hQ ops.size _ a _ (by simp) ?_ (fun i hi=>absurd hi (hno i)) (.inl ?_)
 ·unfold left;exact Nat.le_trans (List.length_filter_le _ _) (by simp)
 ·refine⟨fun t _=>hno t,gO.refl _ _,jG ops ι vals a,fun _=>0,?_,fun d _=>rfl,fun i _ hi=>absurd hi (hno i),fun i _ j _ hi=>absurd hi (hno i)⟩;have hmem:∀ i v,(i,v)∈vals→i∈p.head:=fun i v h=>(by rw [← k2];exact List.mem_map.2 ⟨_,h,rfl⟩);have hnd:(vals.map (·.1)).Nodup:=by
   have:=hp.nodup;unfold fE.order at this;rw [List.append_assoc,List.nodup_append] at this;rw [k2];exact this.1
  refine⟨I.size,by rw [tT];exact I.size,I.defers,by rw [vF];exact I.defers,fun i v d hi hd=>?_,fun d hd=>?_,fun d hd=>?_,fun i d _ _ _=>rfl⟩
  ·exact sR vals a (by rw [I.size];exact k4 _ hi d hd) hi hd (fun q hq h2=>hp.dsts _ _ d (lW h2) (lW hd) h2 hd) hnd
  ·rw [j4];intro q hq hqd;exact hno q.1 (hd q.1 (hmem q.1 q.2 hq) hqd)
  ·rw [j4];intro q hq;exact hd q.1 (.inl (hmem q.1 q.2 hq))
end
def uC {α:Type}(E:(α→Prop)→Prop):Prop:=∀ K,E K→∃ x,K x∧∀ K':α→Prop,K' x→E K'
def fH (E:KE→Prop):Prop:=∀ K:KE,E K→∃ v h nx,K v h nx∧∀ K':KE,K' v h nx→E K'
def lB (E:KS→Prop):Prop:=∀ K:KS,E K→∃ e h nx,K e h nx∧∀ K':KS,K' e h nx→E K'
theorem aGe {b:Bool}{A B:Unit→Prop}:br b A B↔((b=true∧A ())∨(b=false∧B ())):=by
 cases b <;> simp [br]
variable {A:Ar}{T:cM}{h:Heap}{nx:Nat}
theorem jK {α:Type}{x:Option Value}{F:Value→(α→Prop)→Prop}(hF:∀ v,uC (F v)):uC (fun K=>on x (fun v=>F v K)):=by
 intro K hl;cases x with
 |none=>exact hl.elim
 |some v=>exact hF v K hl
theorem iT {x:Option Value}{F:Value→KE→Prop}(hF:∀ v,fH (F v)):fH (fun K=>on x (fun v=>F v K)):=by
 intro K hl;cases x with
 |none=>exact hl.elim
 |some v=>exact hF v K hl
theorem tX {x:Option Value}:uC (on x):=by
 intro K hl;cases x with
 |none=>exact hl.elim
 |some v=>exact⟨v,hl,fun K' h=>h⟩
theorem IP {t:TypeId}{x:Value}:uC (sP T h t x):=by
 intro K hl;unfold sP at *
 repeat' (split at hl)
 all_goals first|(exact hl.elim)|(exact⟨_,hl,fun K' h=>h⟩)|(exact⟨_,_,_,hl,fun K' h=>h⟩)|(obtain⟨hb,hl⟩:=aG.1 hl;exact⟨_,hl,fun K' h=>aJ hb h⟩)|(obtain⟨hb,hl⟩:=aG.1 hl;exact⟨_,_,_,hl,fun K' h=>aJ hb h⟩)
theorem FC {t:TypeId}{x:Value}{f:Nat}:uC (iL T t x f):=by
 intro K hl;unfold iL at *
 repeat' (split at hl)
 all_goals first|(exact hl.elim)|(exact⟨_,hl,fun K' h=>h⟩)|(exact⟨_,_,_,hl,fun K' h=>h⟩)|(obtain⟨hb,hl⟩:=aG.1 hl;exact⟨_,hl,fun K' h=>aJ hb h⟩)|(obtain⟨hb,hl⟩:=aG.1 hl;exact⟨_,_,_,hl,fun K' h=>aJ hb h⟩)
theorem OP {α:Type}{b:Bool}{E:(α→Prop)→Prop}(h:uC E):uC (fun K=>dI b (E K)):=by
 intro K hl;obtain⟨hb,hl⟩:=aG.1 hl;obtain⟨x,h1,h2⟩:=h K hl;exact⟨x,h1,fun K' hk=>aJ hb (h2 K' hk)⟩
theorem fS {b:Bool}{E:KE→Prop}(h:fH E):fH (fun K=>dI b (E K)):=by
 intro K hl;obtain⟨hb,hl⟩:=aG.1 hl;obtain⟨x,y,z,h1,h2⟩:=h K hl;exact⟨x,y,z,h1,fun K' hk=>aJ hb (h2 K' hk)⟩
theorem yK {α:Type}{x:α}:uC (fun K:α→Prop=>K x):=fun K hl=>⟨x,hl,fun K' h=>h⟩
theorem cK {v:Value}{h:Heap}{nx:Nat}:fH (fun K=>K v h nx):=fun K hl=>⟨v,h,nx,hl,fun K' h=>h⟩
theorem V1 {α:Type}:uC (fun _:α→Prop=>False):=fun K hl=>hl.elim
theorem fB:fH (fun _=>False):=fun K hl=>hl.elim
theorem aGP {α:Type}{b:Bool}{E F:(α→Prop)→Prop}(hE:uC E)(hF:uC F):uC (fun K=>br b (fun _=>E K) (fun _=>F K)):=by
 intro K hl;cases b
 ·exact hF K hl
 ·exact hE K hl
theorem x9 {b:Bool}{E F:KE→Prop}(hE:fH E)(hF:fH F):fH (fun K=>br b (fun _=>E K) (fun _=>F K)):=by
 intro K hl;cases b
 ·exact hF K hl
 ·exact hE K hl
theorem D6 {t:TypeId}{x i:Value}:uC (iP A T t x i):=by
 intro K hl;unfold iP at *
 repeat' (split at hl)
 all_goals first|(exact hl.elim)|(exact⟨_,hl,fun K' h=>h⟩)|(exact⟨_,_,_,hl,fun K' h=>h⟩)|(obtain⟨hb,hl⟩:=aG.1 hl;exact⟨_,hl,fun K' h=>aJ hb h⟩)|(obtain⟨hb,hl⟩:=aG.1 hl;exact⟨_,_,_,hl,fun K' h=>aJ hb h⟩)
theorem ZL {op:BinOp}{k:IntKind}{a b:Int}:uC (WS A op k a b):=by
 intro K hl;unfold WS at *
 repeat' (split at hl)
 all_goals first|(exact hl.elim)|(exact⟨_,hl,fun K' h=>h⟩)|(exact⟨_,_,_,hl,fun K' h=>h⟩)|(obtain⟨hb,hl⟩:=aG.1 hl;exact⟨_,hl,fun K' h=>aJ hb h⟩)|(obtain⟨hb,hl⟩:=aG.1 hl;exact⟨_,_,_,hl,fun K' h=>aJ hb h⟩)
theorem H3 {t:TypeId}{cs:List Value}{o:Nat}:uC (BU T t cs o):=by
 intro K hl;unfold BU at *
 repeat' (split at hl)
 all_goals first|(exact hl.elim)|(exact⟨_,hl,fun K' h=>h⟩)|(exact⟨_,_,_,hl,fun K' h=>h⟩)|(obtain⟨hb,hl⟩:=aG.1 hl;exact⟨_,hl,fun K' h=>aJ hb h⟩)|(obtain⟨hb,hl⟩:=aG.1 hl;exact⟨_,_,_,hl,fun K' h=>aJ hb h⟩)
theorem PD {t:TypeId}{x:Value}{f:Nat}:uC (sM T t x f):=by
 intro K hl;unfold sM at *
 repeat' (split at hl)
 all_goals first|(exact H3 K hl)|(exact hl.elim)|(exact⟨_,hl,fun K' h=>h⟩)|(exact⟨_,_,_,hl,fun K' h=>h⟩)|(obtain⟨hb,hl⟩:=aG.1 hl;exact⟨_,hl,fun K' h=>aJ hb h⟩)|(obtain⟨hb,hl⟩:=aG.1 hl;exact⟨_,_,_,hl,fun K' h=>aJ hb h⟩)
theorem QB {t:TypeId}{x i:Value}:uC (r6 A T t x i):=by
 intro K hl;unfold r6 at *
 repeat' (split at hl)
 all_goals first|(exact OP H3 K hl)|(exact hl.elim)|(exact⟨_,hl,fun K' h=>h⟩)|(exact⟨_,_,_,hl,fun K' h=>h⟩)|(obtain⟨hb,hl⟩:=aG.1 hl;exact⟨_,hl,fun K' h=>aJ hb h⟩)|(obtain⟨hb,hl⟩:=aG.1 hl;exact⟨_,_,_,hl,fun K' h=>aJ hb h⟩)
theorem Z9 {op:BinOp}{t:TypeId}{x y:Value}:uC (RX A T op t x y):=by
 intro K hl;unfold RX at *
 repeat' (split at hl)
 all_goals first|(exact hl.elim)|(exact⟨_,hl,fun K' h=>h⟩)|(exact⟨_,_,_,hl,fun K' h=>h⟩)|(obtain⟨hb,hl⟩:=aG.1 hl;exact⟨_,hl,fun K' h=>aJ hb h⟩)|(obtain⟨hb,hl⟩:=aG.1 hl;exact⟨_,_,_,hl,fun K' h=>aJ hb h⟩)|(exact ZL K hl)
theorem aDb {op:UnOp}{x:Value}:uC (vun A op x):=by
 intro K hl;unfold vun at *
 repeat' (split at hl)
 all_goals first|(exact hl.elim)|(exact⟨_,hl,fun K' h=>h⟩)|(exact⟨_,_,_,hl,fun K' h=>h⟩)|(obtain⟨hb,hl⟩:=aG.1 hl;exact⟨_,hl,fun K' h=>aJ hb h⟩)|(obtain⟨hb,hl⟩:=aG.1 hl;exact⟨_,_,_,hl,fun K' h=>aJ hb h⟩)
theorem RC {t:TypeId}{ps:List (Nat × Value)}:uC (wZ T t ps):=by
 intro K hl;unfold wZ at *
 repeat' (split at hl)
 all_goals first|(exact hl.elim)|(exact⟨_,hl,fun K' h=>h⟩)|(exact⟨_,_,_,hl,fun K' h=>h⟩)|(obtain⟨hb,hl⟩:=aG.1 hl;exact⟨_,hl,fun K' h=>aJ hb h⟩)|(obtain⟨hb,hl⟩:=aG.1 hl;exact⟨_,_,_,hl,fun K' h=>aJ hb h⟩)
theorem LU {b:Builtin}{ts:Array TypeId}{vs:List Value}:uC (nY A T b ts vs):=by
 intro K hl;unfold nY at *
 repeat' (split at hl)
 all_goals first|(exact hl.elim)|(exact⟨_,hl,fun K' h=>h⟩)|(exact⟨_,_,_,hl,fun K' h=>h⟩)|(obtain⟨hb,hl⟩:=aG.1 hl;exact⟨_,hl,fun K' h=>aJ hb h⟩)|(obtain⟨hb,hl⟩:=aG.1 hl;exact⟨_,_,_,hl,fun K' h=>aJ hb h⟩)|(exact tX K hl)
theorem aB9 {op:BinOp}{t:TypeId}{x:Value}:uC (QZ T h op t x):=by
 intro K hl;unfold QZ at *
 repeat' (split at hl)
 all_goals first|(exact hl.elim)|(exact⟨_,hl,fun K' h=>h⟩)
theorem IY {env:List (Nat × Value)}{op:Op}:uC (jC A T env h op):=by
 show uC (fun K=>jC A T env h op K);cases op <;> simp only [jC]
 case move x=>exact tX
 case assign x=>exact tX
 case pick c a b =>
  refine jK fun u=>?_;intro K hl;split at hl
  ·exact aGP tX tX K hl
  ·exact hl.elim
 case nilCheck x =>
  refine jK fun u=>?_;intro K hl;split at hl
  all_goals first|(exact hl.elim)|(exact⟨_,hl,fun K' h=>h⟩)
 case load t x=>exact jK fun u=>IP
 case fieldAddr s x f=>exact jK fun u=>FC
 case field s x f=>exact jK fun u=>PD
 case indexAddr t x i=>exact jK fun u=>jK fun j=>D6
 case index t x i=>exact jK fun u=>jK fun j=>QB
 case binOp op t x y yt =>
  refine jK fun u=>jK fun v=>?_;intro K hl;split at hl
  ·exact aB9 K hl
  ·exact Z9 K hl
 case unOp op t x=>exact jK fun u=>aDb
 case convert s d x =>
  refine jK fun u=>?_;intro K hl;split at hl
  ·exact OP yK K hl
  ·exact hl.elim
 case makeFunc fn first cap =>
  intro K hl
  repeat' (split at hl)
  all_goals first|(exact hl.elim)|(exact⟨_,hl,fun K' h=>h⟩)
 case extract x i =>
  refine jK fun u=>?_;intro K hl;split at hl
  ·exact tX K hl
  ·exact hl.elim
 case build t ps =>
  intro K hl;split at hl
  ·exact RC K hl
  ·exact hl.elim
 case call c =>
  intro K hl;split at hl
  ·split at hl
   ·exact LU K hl
   ·exact hl.elim
  ·exact hl.elim
 all_goals exact V1
theorem S3 {E:(Value→Prop)→Prop}(hE:uC E):fH (fun K=>E (fun v=>K v h nx)):=by
 intro K hl;obtain⟨v,h1,h2⟩:=hE _ hl;exact⟨v,h,nx,h1,fun K' hk=>h2 _ hk⟩
theorem RF {t:TypeId}{x v:Value}:fH (nH T h nx t x v):=by
 intro K hl;unfold nH at *
 repeat' (split at hl)
 all_goals first|(exact hl.elim)|(exact⟨_,hl,fun K' h=>h⟩)|(exact⟨_,_,_,hl,fun K' h=>h⟩)|(obtain⟨hb,hl⟩:=aG.1 hl;exact⟨_,hl,fun K' h=>aJ hb h⟩)|(obtain⟨hb,hl⟩:=aG.1 hl;exact⟨_,_,_,hl,fun K' h=>aJ hb h⟩)
theorem RS {t:TypeId}:fH (w9 T h nx t):=by
 intro K hl;unfold w9 at *
 repeat' (split at hl)
 all_goals first|(exact hl.elim)|(exact⟨_,hl,fun K' h=>h⟩)|(exact⟨_,_,_,hl,fun K' h=>h⟩)|(obtain⟨hb,hl⟩:=aG.1 hl;exact⟨_,hl,fun K' h=>aJ hb h⟩)|(obtain⟨hb,hl⟩:=aG.1 hl;exact⟨_,_,_,hl,fun K' h=>aJ hb h⟩)
theorem aAw {v:Value}:fH (RL h nx v):=by
 intro K hl;unfold RL at *
 repeat' (split at hl)
 all_goals first|(exact hl.elim)|(exact⟨_,hl,fun K' h=>h⟩)|(exact⟨_,_,_,hl,fun K' h=>h⟩)|(obtain⟨hb,hl⟩:=aG.1 hl;exact⟨_,hl,fun K' h=>aJ hb h⟩)|(obtain⟨hb,hl⟩:=aG.1 hl;exact⟨_,_,_,hl,fun K' h=>aJ hb h⟩)
theorem CA {t:TypeId}{n:Nat}{ps:List (Nat × Value)}:fH (dW T h nx t n ps):=by
 intro K hl;unfold dW at *
 repeat' (split at hl)
 all_goals first|(exact hl.elim)|(exact⟨_,hl,fun K' h=>h⟩)|(exact⟨_,_,_,hl,fun K' h=>h⟩)|(obtain⟨hb,hl⟩:=aG.1 hl;exact⟨_,hl,fun K' h=>aJ hb h⟩)|(obtain⟨hb,hl⟩:=aG.1 hl;exact⟨_,_,_,hl,fun K' h=>aJ hb h⟩)
theorem P9 {t:TypeId}{x:Value}:fH (wV T h nx t x):=by
 intro K hl;unfold wV at *
 repeat' (split at hl)
 all_goals first|(exact hl.elim)|(exact⟨_,hl,fun K' h=>h⟩)|(exact⟨_,_,_,hl,fun K' h=>h⟩)|(obtain⟨hb,hl⟩:=aG.1 hl;exact⟨_,hl,fun K' h=>aJ hb h⟩)|(obtain⟨hb,hl⟩:=aG.1 hl;exact⟨_,_,_,hl,fun K' h=>aJ hb h⟩)
theorem GG {t:TypeId}{x k v:Value}:fH (jZ A T h nx t x k v):=by
 intro K hl;unfold jZ at *
 repeat' (split at hl)
 all_goals first|(exact hl.elim)|(exact⟨_,hl,fun K' h=>h⟩)|(exact⟨_,_,_,hl,fun K' h=>h⟩)|(obtain⟨hb,hl⟩:=aG.1 hl;exact⟨_,hl,fun K' h=>aJ hb h⟩)|(obtain⟨hb,hl⟩:=aG.1 hl;exact⟨_,_,_,hl,fun K' h=>aJ hb h⟩)
theorem BH {t:TypeId}{x k:Value}{ok:Bool}:uC (oP A T h t x k ok):=by
 intro K hl;unfold oP at *
 repeat' (split at hl)
 all_goals first|(exact hl.elim)|(exact⟨_,hl,fun K' h=>h⟩)|(exact⟨_,_,_,hl,fun K' h=>h⟩)|(obtain⟨hb,hl⟩:=aG.1 hl;exact⟨_,hl,fun K' h=>aJ hb h⟩)|(obtain⟨hb,hl⟩:=aG.1 hl;exact⟨_,_,_,hl,fun K' h=>aJ hb h⟩)
theorem aAz {n c:Nat}{hi:Option Value}{G:Nat→KE→Prop}(hG:∀ m,fH (G m)):fH (fun K=>vhi A n c hi fun m=>G m K):=by
 intro K hl;unfold vhi at *;split at hl
 ·exact hG _ K hl
 ·exact fS (hG _) K hl
 ·exact hl.elim
theorem GA {t:TypeId}{x:Value}{lo hi mx:Option Value}:fH (tG A T h nx t x lo hi mx):=by
 intro K hl;unfold tG at *;split at hl
 case h_2=>exact hl.elim
 split at hl
 ·exact hl.elim
 split at hl
 ·split at hl
  ·exact cK K hl
  ·exact hl.elim
 ·refine aAz (fun m=>?_) K hl;intro K hl;split at hl
  ·exact cK K hl
  ·refine fS ?_ K hl;intro K hl;split at hl
   ·exact x9 cK cK K hl
   ·exact hl.elim
  ·exact hl.elim
 ·split at hl
  ·exact cK K hl
  ·exact hl.elim
 ·split at hl
  ·exact fS cK K hl
  ·exact fS cK K hl
  ·exact hl.elim
 ·exact hl.elim
theorem W0 {sz:Nat}{x:Value}{G:Nat→List Value→KE→Prop}(hG:∀ m l,fH (G m l)):fH (fun K=>GZ h sz x fun m l=>G m l K):=by
 intro K hl;unfold GZ at *;split at hl
 ·exact hG _ _ K hl
 ·split at hl
  ·exact fS (hG _ _) K hl
  ·split at hl
   ·exact hG _ _ K hl
   ·exact hl.elim
  ·split at hl
   ·exact hG _ _ K hl
   ·exact hl.elim
  ·exact hl.elim
 ·exact hl.elim
theorem FJ {t:TypeId}{l c:Value}:fH (jY A T h nx t l c):=by
 intro K hl;unfold jY at *;split at hl
 case h_2=>exact hl.elim
 split at hl
 case h_2=>exact hl.elim
 exact fS cK K hl
theorem NA {st xt:TypeId}{s x:Value}:fH (lK A T h nx st xt s x):=by
 intro K hl;unfold lK at *;split at hl
 case h_3=>exact hl.elim
 case h_1 =>
  split at hl
  case h_2=>exact hl.elim
  split at hl
  case h_2=>exact hl.elim
  exact fS cK K hl
 split at hl
 ·exact hl.elim
 split at hl
 ·exact hl.elim
 refine W0 (fun m l=>?_) K hl;intro K hl;split at hl
 ·exact x9 cK (fS cK) K hl
 ·split at hl
  ·split at hl
   ·exact x9 cK (fS cK) K hl
   ·exact hl.elim
  ·exact x9 (fS cK) (fS cK) K hl
  ·exact hl.elim
 ·exact hl.elim
variable {A:Ar}{T:cM}{C:VC}{Y:VY}
theorem DG (hC:dZ C)(hY:dZ Y){env:List (Nat × Value)}{h:Heap}{nx:Nat}{op:Op}:fH (pW A T C Y env h nx op):=by
 have hlook:fH (fun K=>jC A T env h op (fun v=>K v h nx)):=S3 IY;show fH (fun K=>pW A T C Y env h nx op K);cases op
 case store t x y=>exact iT fun p=>iT fun v=>RF
 case alloc t=>exact RS
 case box t x=>exact iT fun v=>aAw
 case buildSlice t n ps =>
  simp only [pW];intro K hl;split at hl
  ·exact CA K hl
  ·exact hl.elim
 case slice t x lo hi mx =>
  simp only [pW];refine iT fun v=>?_;intro K hl;split at hl
  ·exact GA K hl
  ·exact hl.elim
 case makeSlice t l c =>
  simp only [pW];exact iT fun x=>iT fun y=>FJ
 case makeMap t r =>
  cases r with
  |none=>exact cK
  |some r=>exact hlook
 case lookup t m k ok=>exact iT fun x=>iT fun y=>S3 BH
 case mapUpdate t m k u=>exact iT fun x=>iT fun y=>iT fun v=>GG
 case call c =>
  obtain⟨cal,args,ats⟩:=c;cases cal with
  |invoke r m=>exact fB
  |builtin b =>
   cases b
   case append =>
    simp only [pW];intro K hl;split at hl
    ·exact NA K hl
    ·exact hl.elim
   case clear =>
    simp only [pW];intro K hl;split at hl
    ·exact P9 K hl
    ·exact hl.elim
   all_goals exact hlook
  |value f =>
   simp only [pW];refine iT fun fv=>?_;intro K hl;split at hl
   ·split at hl
    ·split at hl
     ·exact hC _ _ _ _ K hl
     ·exact hl.elim
    ·split at hl
     ·exact hY _ _ _ _ K hl
     ·exact hl.elim
    ·exact hl.elim
   ·exact hl.elim
 all_goals exact hlook
theorem yE {ops:List Oper}{env:List (Nat × Value)}{g:Option (Nat × Bool)}:(∃ e,∀ Yk N,fQ A ops env g Yk N=Yk e)∨(∃ e,∀ Yk N,fQ A ops env g Yk N=N e)∨(∀ Yk N,fQ A ops env g Yk N=False):=by
 unfold fQ;cases g with
 |none=>exact .inl ⟨env,fun _ _=>rfl⟩
 |some gw =>
  obtain⟨j,want⟩:=gw;simp only;cases eZ ops j with
  |none=>exact .inr (.inr fun _ _=>rfl)
  |some o =>
   simp only;cases o.dst with
   |none=>exact .inr (.inr fun _ _=>rfl)
   |some t =>
    simp only;cases look env t with
    |none=>exact .inr (.inr fun _ _=>rfl)
    |some v =>
     cases v with
     |tuple vs=>exact .inr (.inl ⟨env,fun _ _=>rfl⟩)
     |bool b =>
      simp only;cases A.eqB b want with
      |true=>exact .inl ⟨_,fun _ _=>rfl⟩
      |false=>exact .inr (.inl ⟨_,fun _ _=>rfl⟩)
     |_=>exact .inr (.inr fun _ _=>rfl)
theorem GI {tn:Nat}{env:List (Nat × Value)}{dst:Option Nat}{v:Value}:(∃ e,∀ K,eH tn env dst v K=K e)∨(∀ K,eH tn env dst v K=False):=by
 unfold eH;cases dst with
 |none=>exact .inl ⟨env,fun _=>rfl⟩
 |some d =>
  simp only;cases Nat.blt d tn with
  |true=>exact .inl ⟨_,fun _=>rfl⟩
  |false=>exact .inr fun _=>rfl
theorem mU {e:List (Nat × Value)}{h:Heap}{nx:Nat}:lB (fun K=>K e h nx):=fun K hl=>⟨e,h,nx,hl,fun K' h=>h⟩
theorem wD:lB (fun _=>False):=fun K hl=>hl.elim
theorem wE {ops:List Oper}{env:List (Nat × Value)}{g:Option (Nat × Bool)}{F G:List (Nat × Value)→KS→Prop}(hF:∀ e,lB (F e))(hG:∀ e,lB (G e)):lB (fun K=>fQ A ops env g (fun e=>F e K) (fun e=>G e K)):=by
 rcases yE (A:=A) (ops:=ops) (env:=env) (g:=g) with ⟨e,h⟩|⟨e,h⟩|h
 ·simp only [h];exact hF e
 ·simp only [h];exact hG e
 ·simp only [h];exact wD
theorem nK {tn:Nat}{env:List (Nat × Value)}{dst:Option Nat}{v:Value}{F:List (Nat × Value)→KS→Prop}(hF:∀ e,lB (F e)):lB (fun K=>eH tn env dst v (fun e=>F e K)):=by
 rcases GI (tn:=tn) (env:=env) (dst:=dst) (v:=v) with ⟨e,h⟩|h
 ·simp only [h];exact hF e
 ·simp only [h];exact wD
theorem AF {E:KE→Prop}{F:Value→Heap→Nat→KS→Prop}(hE:fH E)(hF:∀ v h nx,lB (F v h nx)):lB (fun K=>E (fun v h nx=>F v h nx K)):=by
 intro K hl;obtain⟨v,h,nx,h1,h2⟩:=hE _ hl;obtain⟨e,h',nx',h3,h4⟩:=hF v h nx K h1;exact⟨e,h',nx',h3,fun K' hk=>h2 _ (h4 K' hk)⟩
theorem PI {E:KS→Prop}{F:List (Nat × Value)→Heap→Nat→KS→Prop}(hE:lB E)(hF:∀ v h nx,lB (F v h nx)):lB (fun K=>E (fun v h nx=>F v h nx K)):=by
 intro K hl;obtain⟨v,h,nx,h1,h2⟩:=hE _ hl;obtain⟨e,h',nx',h3,h4⟩:=hF v h nx K h1;exact⟨e,h',nx',h3,fun K' hk=>h2 _ (h4 K' hk)⟩
theorem WW {b:Bool}{E:KS→Prop}(h:lB E):lB (fun K=>dI b (E K)):=by
 intro K hl;obtain⟨hb,hl⟩:=aG.1 hl;obtain⟨x,y,z,h1,h2⟩:=h K hl;exact⟨x,y,z,h1,fun K' hk=>aJ hb (h2 K' hk)⟩
theorem FK (hC:dZ C)(hY:dZ Y){tn:Nat}{ops:List Oper}:∀ (l:List Oper) (env:List (Nat × Value)) (h:Heap) (nx:Nat),lB (xJ A T C Y tn ops l env h nx)
 |[],env,h,nx=>mU
 |o::r,env,h,nx=>by
  show lB (fun K=>xJ A T C Y tn ops (o::r) env h nx K);simp only [IA]
  exact wE (F:=fun e K=>pW A T C Y e h nx o.op fun v h' nx'=>eH tn e o.dst v fun env'=>xJ A T C Y tn ops r env' h' nx' K) (G:=fun e K=>eH tn e o.dst undef fun env'=>xJ A T C Y tn ops r env' h nx K)
   (fun e=>AF (F:=fun v h' nx' K=>eH tn e o.dst v fun env'=>xJ A T C Y tn ops r env' h' nx' K) (DG hC hY) fun v h' nx'=>nK (F:=fun env' K=>xJ A T C Y tn ops r env' h' nx' K) fun e'=>FK hC hY r e' h' nx')
   (fun e=>nK (F:=fun env' K=>xJ A T C Y tn ops r env' h nx K) fun e'=>FK hC hY r e' h nx)
def rI {α:Type}(E:(α→Nat→Prop)→Prop):Prop:=∀ K,E K→∃ v n,K v n∧∀ K':α→Nat→Prop,K' v n→E K'
theorem T8 {E:(Value→Prop)→Prop}{n:Nat}(hE:uC E):rI (fun K=>E (fun v=>K v n)):=by
 intro K hl;obtain⟨v,h1,h2⟩:=hE _ hl;exact⟨v,n,h1,fun K' hk=>h2 _ hk⟩
theorem CP {x:Option Value}{F:Value→(Value→Nat→Prop)→Prop}(hF:∀ v,rI (F v)):rI (fun K=>on x (fun v=>F v K)):=by
 cases x with
 |none=>exact fun K hl=>hl.elim
 |some v=>exact hF v
theorem Q9 (hC:dZ C){hJ:Heap}{nx:Nat}{env:List (Nat × Value)}{op:Op}:rI (iO A T C hJ nx env op):=by
 have hlook:∀ hh op',rI (fun K=>jC A T env hh op' (fun v=>K v nx)):=fun _ _=>T8 IY;show rI (fun K=>iO A T C hJ nx env op K);cases op
 case load t x=>simp only [iO];exact hlook hJ _
 case lookup t m k ok=>exact CP fun x=>CP fun y=>T8 BH
 case slice t x lo hi mx =>
  simp only [iO];refine CP fun v=>?_;intro K hl;split at hl
  ·obtain⟨v,h',nx',h1,h2⟩:=GA _ hl;exact⟨v,nx',h1,fun K' hk=>h2 _ hk⟩
  ·exact hl.elim
 case call c =>
  obtain⟨cal,args,ats⟩:=c;cases cal with
  |invoke r m=>exact fun K hl=>hl.elim
  |builtin b=>simp only [iO];exact hlook [] _
  |value f =>
   simp only [iO];refine CP fun fv=>?_;intro K hl;split at hl
   ·split at hl
    ·split at hl
     ·obtain⟨v,h',nx',h1,h2⟩:=hC _ _ _ _ _ hl;split at h1
      ·rename_i hb;exact⟨v,nx,h1,fun K' hk=>h2 _ (by rw [hb];exact hk)⟩
      ·exact h1.elim
     ·exact hl.elim
    ·exact hl.elim
   ·exact hl.elim
 all_goals (simp only [iO];exact hlook [] _)
theorem FH {α β:Type}{E:(α→Prop)→Prop}{F:α→(β→Prop)→Prop}(hE:uC E)(hF:∀ v,uC (F v)):uC (fun K=>E (fun v=>F v K)):=by
 intro K hl;obtain⟨v,h1,h2⟩:=hE _ hl;obtain⟨e,h3,h4⟩:=hF v K h1;exact⟨e,h3,fun K' hk=>h2 _ (h4 K' hk)⟩
theorem w8 {α:Type}:rI (fun _:α→Nat→Prop=>False):=fun _ hl=>hl.elim
theorem XQ {α:Type}{v:α}{n:Nat}:rI (fun K:α→Nat→Prop=>K v n):=fun _ hl=>⟨v,n,hl,fun _ h=>h⟩
theorem V6 {α β:Type}{E:(α→Nat→Prop)→Prop}{F:α→Nat→(β→Nat→Prop)→Prop}(hE:rI E)(hF:∀ v n,rI (F v n)):rI (fun K=>E (fun v n=>F v n K)):=by
 intro K hl;obtain⟨v,n,h1,h2⟩:=hE _ hl;obtain⟨e,m,h3,h4⟩:=hF v n K h1;exact⟨e,m,h3,fun K' hk=>h2 _ (h4 K' hk)⟩
theorem P8 {α:Type}{ops:List Oper}{env:List (Nat × Value)}{g:Option (Nat × Bool)}{F G:List (Nat × Value)→(α→Nat→Prop)→Prop}(hF:∀ e,rI (F e))(hG:∀ e,rI (G e)):rI (fun K=>fQ A ops env g (fun e=>F e K) (fun e=>G e K)):=by
 rcases yE (A:=A) (ops:=ops) (env:=env) (g:=g) with ⟨e,h⟩|⟨e,h⟩|h
 ·simp only [h];exact hF e
 ·simp only [h];exact hG e
 ·simp only [h];exact w8
theorem MH {α:Type}{tn:Nat}{env:List (Nat × Value)}{dst:Option Nat}{v:Value}{F:List (Nat × Value)→(α→Nat→Prop)→Prop}(hF:∀ e,rI (F e)):rI (fun K=>eH tn env dst v (fun e=>F e K)):=by
 rcases GI (tn:=tn) (env:=env) (dst:=dst) (v:=v) with ⟨e,h⟩|h
 ·simp only [h];exact hF e
 ·simp only [h];exact w8
theorem zO (hC:dZ C){tn:Nat}{ops:List Oper}{hJ:Heap}:∀ (l:List Nat) (env:List (Nat × Value)) (nx:Nat),rI (oI A T C tn ops hJ l env nx)
 |[],env,nx=>XQ
 |i::r,env,nx=>by
  show rI (fun K=>oI A T C tn ops hJ (i::r) env nx K);simp only [v5];cases eZ ops i with
  |none=>exact w8
  |some o =>
   exact P8 (F:=fun e K=>iO A T C hJ nx e o.op fun v nx'=>eH tn e o.dst v fun env=>oI A T C tn ops hJ r env nx' K) (G:=fun e K=>eH tn e o.dst undef fun env=>oI A T C tn ops hJ r env nx K)
    (fun e=>V6 (F:=fun v n K=>eH tn e o.dst v fun env=>oI A T C tn ops hJ r env n K) (Q9 hC) fun v n=>MH (F:=fun env K=>oI A T C tn ops hJ r env n K) fun e'=>zO hC r e' n)
    (fun e=>MH (F:=fun env K=>oI A T C tn ops hJ r env nx K) fun e'=>zO hC r e' nx)
theorem P6 {E:(List (Nat × Value)→Nat→Prop)→Prop}{F:List (Nat × Value)→Nat→KS→Prop}(hE:rI E)(hF:∀ e n,lB (F e n)):lB (fun K=>E (fun e n=>F e n K)):=by
 intro K hl;obtain⟨e0,n0,h1,h2⟩:=hE _ hl;obtain⟨e,h,nx,h3,h4⟩:=hF e0 n0 K h1;exact⟨e,h,nx,h3,fun K' hk=>h2 _ (h4 K' hk)⟩
theorem BD {tn:Nat}{ops:List Oper}:∀ (l:List Nat) (env:List (Nat × Value)) (h:Heap) (nx:Nat),lB (lE T tn ops l env h nx)
 |[],env,h,nx=>mU
 |i::r,env,h,nx=>by
  intro K hl;simp only [mP] at hl ⊢;split at hl
  ·split at hl
   ·exact nK (F:=fun e K=>lE T tn ops r e _ _ K) (fun e=>BD r e _ _) K hl
   ·exact hl.elim
  ·exact hl.elim
theorem AL (hC:dZ C)(hY:dZ Y){tn:Nat}{ops:List Oper}{hJ:Heap}:∀ (l:List (Nat × Bool)) (env:List (Nat × Value)) (h:Heap) (nx:Nat),lB (j8 A T C Y tn ops hJ l env h nx)
 |[],env,h,nx=>mU
 |(i,chk)::r,env,h,nx=>by
  show lB (fun K=>j8 A T C Y tn ops hJ ((i,chk)::r) env h nx K);simp only [wX];cases eZ ops i with
  |none=>exact wD
  |some o =>
   exact wE (F:=fun e K=>dI (yW e hJ chk o.op) (pW A T C Y e h nx o.op fun v h' nx'=>eH tn e o.dst v fun env'=>j8 A T C Y tn ops hJ r env' h' nx' K)) (G:=fun e K=>eH tn e o.dst undef fun env'=>j8 A T C Y tn ops hJ r env' h nx K)
    (fun e=>WW (AF (F:=fun v h' nx' K=>eH tn e o.dst v fun env'=>j8 A T C Y tn ops hJ r env' h' nx' K) (DG hC hY) fun v h' nx'=>nK (F:=fun env' K=>j8 A T C Y tn ops hJ r env' h' nx' K) fun e'=>AL hC hY r e' h' nx'))
    (fun e=>nK (F:=fun env' K=>j8 A T C Y tn ops hJ r env' h nx K) fun e'=>AL hC hY r e' h nx)
theorem MI (hC:dZ C)(hY:dZ Y){tn:Nat}{ops:List Oper}{p:fE}{env:List (Nat × Value)}{h:Heap}{nx:Nat}:lB (oQ A T C Y tn ops p env h nx):=by
 show lB (fun K=>oQ A T C Y tn ops p env h nx K);unfold oQ;exact P6 (F:=fun e n K=>lE T tn ops p.allocs e h n fun env2 h2 nx2=>j8 A T C Y tn ops (GP T ops env p h) p.tail env2 h2 nx2 K) (zO hC p.head env nx) fun e n =>
  PI (F:=fun env2 h2 nx2 K=>j8 A T C Y tn ops (GP T ops env p h) p.tail env2 h2 nx2 K) (BD p.allocs e h n) fun e2 h2 nx2=>AL hC hY p.tail e2 h2 nx2
end Go.Aw
end
