/-
  Parts of a proof. No condition.
-/
import Derived.Test.YtoekkmbbbllogaaGreatQAi
set_option linter.unusedSimpArgs false
set_option linter.unusedVariables false
noncomputable section
namespace Go.Aw
open Go.RowKit
section
variable {P:Program}{T:Tab}{C:VC}{Y:VY}{ops:Array Oper}{p:Plan}
variable {B:Nat}{w0:World}{ιb:Nat→Loc}{nxb tn:Nat}{ds:List Deferred}{ι0:Nat→Loc}{nx0:Nat}{h0 hJ:Heap}{a0:Act}{wS:World}{vals:List (Nat × Value)}{env1:List (Nat × Value)}{K:KS}
def Lst (listed:Array Bool)(i:Nat):Prop:=listed.getD i false=true
theorem Lst.set {listed:Array Bool}{i:Nat}(hi:i<listed.size):Lst (listed.setIfInBounds i true)=adds (Lst listed) i:=by
 funext j
 unfold Lst adds
 apply propext
 by_cases h:j=i
 ·subst h
  simp [hi]
 ·rw [getD_set_ne false (fun e=>h e.symm)]
  simp [h]
theorem ready_iff {listed:Array Bool}(hs:listed.size=ops.size){i:Nat}:i∈Region.ready .any ops listed↔i<ops.size∧¬ Lst listed i∧∀ j∈predsAt ops.toList i,Lst listed j:=by
 rw [mem_ready]
 constructor
 ·rintro ⟨h1,o,ho,h2⟩
  have hlt:=(Array.getElem?_eq_some_iff.1 ho).1
  refine⟨hlt,?_,fun j hj=>?_⟩
  ·unfold Lst
   have hl:i<listed.size:=by omega
   simp [hl] at h1 ⊢
   exact h1
  ·have:getL ops.toList i=some o:=by rw [getL_eq];simpa using ho
   simp only [predsAt,this,predsOf,List.mem_filterMap] at hj
   obtain⟨e,he,hj⟩:=hj
   split at hj
   ·rename_i hb
    injection hj with hj
    subst hj
    exact h2 e (by simpa using he) hb
   ·cases hj
 ·rintro ⟨hlt,h1,h2⟩
  refine⟨?_,ops[i],by simp [hlt],fun e he hb=>?_⟩
  ·have hl:i<listed.size:=by omega
   unfold Lst at h1
   simp [hl] at h1 ⊢
   exact h1
  ·refine h2 e.on ?_
   have:getL ops.toList i=some ops[i]:=by rw [getL_eq];simp [hlt]
   simp only [predsAt,this,predsOf,List.mem_filterMap]
   exact⟨e,by simpa using he,by rw [hb]⟩
def left (n:Nat)(listed:Array Bool):Nat:=((List.range n).filter fun i=>!listed.getD i false).length
theorem left_set {n:Nat}{listed:Array Bool}{i:Nat}(hi:i<n)(hs:listed.size=n)(hn:¬ Lst listed i):left n (listed.setIfInBounds i true)<left n listed:=by
 unfold left
 have:(List.range n).filter (fun j=>!(listed.setIfInBounds i true).getD j false)=((List.range n).filter fun j=>!listed.getD j false).filter (fun j=>decide (j≠i)):=by
  rw [List.filter_filter]
  apply List.filter_congr
  intro j hj
  by_cases h:j=i
  ·subst h
   have hl:j<listed.size:=by omega
   simp [hl]
  ·rw [getD_set_ne false (fun e=>h e.symm)]
   simp [h]
 rw [this]
 refine Nat.lt_of_le_of_ne (List.length_filter_le _ _) fun e=>?_
 have:=List.length_filter_eq_length_iff.1 e i (List.mem_filter.2 ⟨by simpa using hi,by unfold Lst at hn;simpa using hn⟩)
 simp at this
theorem all_of_stuck (hp:PlanOK ops p){listed:Array Bool}(hs:listed.size=ops.size)(h:Region.ready .any ops listed=[]):∀ i,i<ops.size→Lst listed i:=by
 intro i
 induction i using Nat.strongRecOn with
 |_ i ih =>
  intro hi
  refine Classical.byContradiction fun hn=>?_
  have:i∈Region.ready .any ops listed:=(ready_iff hs).2 ⟨hi,hn,fun j hj=>ih j (hp.lin i hi j hj) (by have:=hp.lin i hi j hj;omega)⟩
  rw [h] at this
  cases this
theorem region_done (X:Ctx P T C Y ops p B w0 ιb nxb tn ds ι0 nx0 h0 hJ a0 wS vals env1 K){L:Nat→Prop}{a:Act}{w:World}(hall:∀ i,i<ops.size→L i)
  (S:PreS T ops p tn ds ι0 a0 wS vals L a w∨PostS T C Y ops p B w0 ιb nxb tn ds ι0 nx0 hJ a0 vals K L a w):∃ ι env h nx,K env h nx∧Inv B w0 ιb nxb tn ds ι env h nx a w:=by
 have hin:∀ i∈p.order,L i:=fun i hi=>hall i (X.plan.inb i hi)
 have S:PostS T C Y ops p B w0 ιb nxb tn ds ι0 nx0 hJ a0 vals K L a w:=by
  rcases S with S|S
  ·exact S.post X (fun i hi=>hin i (mem_order.2 (.inr (.inl hi)))) (fun i hi _=>hin i (mem_order.2 (.inl hi)))
  ·exact S
 obtain⟨done,rest,a',ι,env,h,nx,e1,e2,e3,e4,e5,I,J,e6,e7,e8,_,_⟩:=S
 cases rest with
 |cons t r=>exact absurd (hin t.1 (mem_order.2 (.inr (.inr (List.mem_map.2 ⟨t,by rw [e1];simp,rfl⟩))))) (e3 t (by simp))
 |nil =>
  exact⟨ι,env,h,nx,e8,J.env.congr (fun d=>(I.q2 d fun i hi _=>hin i (mem_order.2 (.inl hi))).symm),J.heap,J.below,J.old,J.le,I.size,I.defers⟩
theorem region_any (X:Ctx P T C Y ops p B w0 ιb nxb tn ds ι0 nx0 h0 hJ a0 wS vals env1 K)(r:Option Nat){Q:Exit→Act→World→Prop}
  (hQ:∀ ι env h nx a w,K env h nx→Inv B w0 ιb nxb tn ds ι env h nx a w→Q .normal a w):∀ (fuel:Nat) (listed:Array Bool) (a:Act) (w:World),listed.size=ops.size→left ops.size listed≤fuel →
  (∀ i,Lst listed i→∀ j∈predsAt ops.toList i,Lst listed j) →
  (PreS T ops p tn ds ι0 a0 wS vals (Lst listed) a w∨PostS T C Y ops p B w0 ιb nxb tn ds ι0 nx0 hJ a0 vals K (Lst listed) a w)→wpAnyIn (Fr r) 0 P .any ops Q fuel listed a w:=by
 have fin:∀ (listed:Array Bool) (a:Act) (w:World),listed.size=ops.size→Region.ready .any ops listed=[] →
   (PreS T ops p tn ds ι0 a0 wS vals (Lst listed) a w∨PostS T C Y ops p B w0 ιb nxb tn ds ι0 nx0 hJ a0 vals K (Lst listed) a w)→Q .normal a w:=by
  intro listed a w hs hr S
  obtain⟨ι,env,h,nx,h1,h2⟩:=region_done X (all_of_stuck X.plan hs hr) S
  exact hQ ι env h nx a w h1 h2
 intro fuel
 induction fuel with
 |zero =>
  intro listed a w hs hl cl S
  have hr:Region.ready .any ops listed=[]:=by
   refine List.eq_nil_iff_forall_not_mem.2 fun i hi=>?_
   obtain⟨h1,h2,_⟩:=(ready_iff hs).1 hi
   have:=left_set h1 hs h2
   omega
  exact⟨hr,fin listed a w hs hr S⟩
 |succ fuel ih =>
  intro listed a w hs hl cl S
  refine⟨fun hr=>fin listed a w hs hr S,fun i hi=>?_⟩
  obtain⟨h1,h2,h3⟩:=(ready_iff hs).1 hi
  have hL:∀ i,Lst listed i→i<ops.size:=by
   intro j hj
   unfold Lst at hj
   by_cases h:j<listed.size
   ·omega
   ·simp [h] at hj
  have next:∀ a w,(PreS T ops p tn ds ι0 a0 wS vals (adds (Lst listed) i) a w∨PostS T C Y ops p B w0 ιb nxb tn ds ι0 nx0 hJ a0 vals K (adds (Lst listed) i) a w) →
    wpAnyIn (Fr r) 0 P .any ops Q fuel (listed.setIfInBounds i true) a w:=by
   intro a w S'
   have hset:=Lst.set (listed:=listed) (i:=i) (by omega)
   refine ih _ a w (by simp [hs]) (by have:=left_set h1 hs h2;omega) ?_ (by rw [hset];exact S')
   rw [hset]
   rintro j (rfl|hj) k hk
   ·exact .inr (h3 k hk)
   ·exact .inr (cl j hj k hk)
  rcases mem_order.1 (X.plan.cover i h1) with h|h|h
  ·exact head_step X cl hL h h2 h3 S r _ Q next
  ·rcases S with S|S
   ·exact alloc_step X h h2 S r _ Q fun a w s=>next a w (.inl s)
   ·obtain⟨_,_,_,_,_,_,_,_,_,_,e4,_⟩:=S
    exact absurd (e4 i h) h2
  ·have S:PostS T C Y ops p B w0 ιb nxb tn ds ι0 nx0 hJ a0 vals K (Lst listed) a w:=by
    rcases S with S|S
    ·have hfirst:=tail_first X.plan.tailP (L:=Lst listed) (fun t ht=>S.noT _ (List.mem_map.2 ⟨t,ht,rfl⟩)) h cl h3
     obtain⟨c,rr,hrr⟩:=hfirst
     obtain⟨f1,f2⟩:=X.plan.first i c rr hrr
     exact S.post X (fun j hj=>predsC_all cl h3 j (f1 j hj)) (fun j hj hk=>predsC_all cl h3 j (f2 j hj hk))
    ·exact S
   exact tail_step X h h2 cl h3 S r _ Q fun a w s=>next a w (.inr s)
theorem vregion_ok (hT:TabOK P T)(hC:CallsOK P C)(hY:YieldsOK P Y)(hD:DetC C)(hm:P.follows .mixedOrders=true)(hp:PlanOK ops p){ι:Nat→Loc}{env:List (Nat × Value)}{h:Heap}{nx:Nat}{a:Act}{w:World}(I:Inv B w0 ιb nxb tn ds ι env h nx a w)
  (hl:vregion std T C Y tn ops.toList p env h nx K) (r:Option Nat) {id:Nat} {Q:Exit→Act→World→Prop} (hQ:∀ ι env h nx a w,K env h nx→Inv B w0 ιb nxb tn ds ι env h nx a w→Q .normal a w) :
  (Code.region id ops true).wpIn (Fr r) 0 P Q a w:=by
 refine wpIn_region_any hm ?_
 unfold vregion at hl
 have H:=I.heap.drawn (w.drawn+1)
 have hb:Bel B w { w with drawn:=w.drawn+1 }:=⟨rfl,rfl,rfl,Nat.le_refl _,fun _ _=>rfl,Nat.le_succ _⟩
 have hsub:∀ k o,look (hjOf T ops.toList env p h) k=some o→look h k=some o:=fun k o hk=>hjOf_sub k o hk
 obtain⟨vals,env1,ι,nx,k1,hi,hn,k2,k3,k4,k5⟩:=vhead_ok hT hC hD hp.plain p.head env a ι nx (H.sub hsub) hl I.env I.size
 have X:Ctx P T C Y ops p B w0 ιb nxb tn ds ι nx h (hjOf T ops.toList env p h) a { w with drawn:=w.drawn+1 } vals env1 K :=
  ⟨hT,hC,hY,hp,fun k hk=>(hi k (Nat.lt_of_lt_of_le hk I.le)).trans (I.old k hk),Nat.le_trans I.le hn,I.size,I.defers,H.wide hi hn,I.below.trans hb,hsub,k2,k3,k4,k5,k1⟩
 have hno:∀ i,¬ Lst (Array.replicate ops.size false) i:=by
  intro i
  unfold Lst
  by_cases h:i<ops.size <;> simp [h]
 refine region_any X r hQ ops.size _ a _ (by simp) ?_ (fun i hi=>absurd hi (hno i)) (.inl ?_)
 ·unfold left
  exact Nat.le_trans (List.length_filter_le _ _) (by simp)
 ·refine⟨fun t _=>hno t,Bel.refl _ _,putAll ops ι vals a,fun _=>0,?_,fun d _=>rfl,fun i _ hi=>absurd hi (hno i),fun i _ j _ hi=>absurd hi (hno i)⟩
  have hmem:∀ i v,(i,v)∈vals→i∈p.head:=fun i v h=>by rw [← k2];exact List.mem_map.2 ⟨_,h,rfl⟩
  have hnd:(vals.map (·.1)).Nodup:=by
   have:=hp.nodup
   unfold Plan.order at this
   rw [List.append_assoc,List.nodup_append] at this
   rw [k2]
   exact this.1
  refine⟨I.size,by rw [putAll_size];exact I.size,I.defers,by rw [putAll_defers];exact I.defers,fun i v d hi hd=>?_,fun d hd=>?_,fun d hd=>?_,fun i d _ _ _=>rfl⟩
  ·exact putAll_some vals a (by rw [I.size];exact k4 _ hi d hd) hi hd (fun q hq h2=>hp.dsts _ _ d (dst_lt h2) (dst_lt hd) h2 hd) hnd
  ·rw [putAll_none]
   intro q hq hqd
   exact hno q.1 (hd q.1 (hmem q.1 q.2 hq) hqd)
  ·rw [putAll_none]
   intro q hq
   exact hd q.1 (.inl (hmem q.1 q.2 hq))
end
end Go.Aw
end

noncomputable section
namespace Go.Aw
open Go.RowKit
def Det {α:Type}(E:(α→Prop)→Prop):Prop:=∀ K,E K→∃ x,K x∧∀ K':α→Prop,K' x→E K'
def DetE (E:KE→Prop):Prop:=∀ K:KE,E K→∃ v h nx,K v h nx∧∀ K':KE,K' v h nx→E K'
def DetS (E:KS→Prop):Prop:=∀ K:KS,E K→∃ e h nx,K e h nx∧∀ K':KS,K' e h nx→E K'
variable {A:Ar}{T:Tab}{h:Heap}{nx:Nat}
theorem det_on {α:Type}{x:Option Value}{F:Value→(α→Prop)→Prop}(hF:∀ v,Det (F v)):Det (fun K=>on x (fun v=>F v K)):=by
 intro K hl
 cases x with
 |none=>exact hl.elim
 |some v=>exact hF v K hl
theorem detE_on {x:Option Value}{F:Value→KE→Prop}(hF:∀ v,DetE (F v)):DetE (fun K=>on x (fun v=>F v K)):=by
 intro K hl
 cases x with
 |none=>exact hl.elim
 |some v=>exact hF v K hl
theorem det_on1 {x:Option Value}:Det (on x):=by
 intro K hl
 cases x with
 |none=>exact hl.elim
 |some v=>exact⟨v,hl,fun K' h=>h⟩
theorem det_vload {t:TypeId}{x:Value}:Det (vload T h t x):=by
 intro K hl
 unfold vload at *
 repeat' (split at hl)
 all_goals first|(exact hl.elim)|(exact⟨_,hl,fun K' h=>h⟩)|(exact⟨_,_,_,hl,fun K' h=>h⟩)|(obtain⟨hb,hl⟩:=must_iff.1 hl;exact⟨_,hl,fun K' h=>must_of hb h⟩)|(obtain⟨hb,hl⟩:=must_iff.1 hl;exact⟨_,_,_,hl,fun K' h=>must_of hb h⟩)
theorem det_vfieldAddr {t:TypeId}{x:Value}{f:Nat}:Det (vfieldAddr T t x f):=by
 intro K hl
 unfold vfieldAddr at *
 repeat' (split at hl)
 all_goals first|(exact hl.elim)|(exact⟨_,hl,fun K' h=>h⟩)|(exact⟨_,_,_,hl,fun K' h=>h⟩)|(obtain⟨hb,hl⟩:=must_iff.1 hl;exact⟨_,hl,fun K' h=>must_of hb h⟩)|(obtain⟨hb,hl⟩:=must_iff.1 hl;exact⟨_,_,_,hl,fun K' h=>must_of hb h⟩)
theorem det_must {α:Type}{b:Bool}{E:(α→Prop)→Prop}(h:Det E):Det (fun K=>must b (E K)):=by
 intro K hl
 obtain⟨hb,hl⟩:=must_iff.1 hl
 obtain⟨x,h1,h2⟩:=h K hl
 exact⟨x,h1,fun K' hk=>must_of hb (h2 K' hk)⟩
theorem detE_must {b:Bool}{E:KE→Prop}(h:DetE E):DetE (fun K=>must b (E K)):=by
 intro K hl
 obtain⟨hb,hl⟩:=must_iff.1 hl
 obtain⟨x,y,z,h1,h2⟩:=h K hl
 exact⟨x,y,z,h1,fun K' hk=>must_of hb (h2 K' hk)⟩
theorem det_pure {α:Type}{x:α}:Det (fun K:α→Prop=>K x):=fun K hl=>⟨x,hl,fun K' h=>h⟩
theorem detE_pure {v:Value}{h:Heap}{nx:Nat}:DetE (fun K=>K v h nx):=fun K hl=>⟨v,h,nx,hl,fun K' h=>h⟩
theorem det_false {α:Type}:Det (fun _:α→Prop=>False):=fun K hl=>hl.elim
theorem detE_false:DetE (fun _=>False):=fun K hl=>hl.elim
theorem det_br {α:Type}{b:Bool}{E F:(α→Prop)→Prop}(hE:Det E)(hF:Det F):Det (fun K=>br b (fun _=>E K) (fun _=>F K)):=by
 intro K hl
 cases b
 ·exact hF K hl
 ·exact hE K hl
theorem detE_br {b:Bool}{E F:KE→Prop}(hE:DetE E)(hF:DetE F):DetE (fun K=>br b (fun _=>E K) (fun _=>F K)):=by
 intro K hl
 cases b
 ·exact hF K hl
 ·exact hE K hl
theorem det_vindexAddr {t:TypeId}{x i:Value}:Det (vindexAddr A T t x i):=by
 intro K hl
 unfold vindexAddr at *
 repeat' (split at hl)
 all_goals first|(exact hl.elim)|(exact⟨_,hl,fun K' h=>h⟩)|(exact⟨_,_,_,hl,fun K' h=>h⟩)|(obtain⟨hb,hl⟩:=must_iff.1 hl;exact⟨_,hl,fun K' h=>must_of hb h⟩)|(obtain⟨hb,hl⟩:=must_iff.1 hl;exact⟨_,_,_,hl,fun K' h=>must_of hb h⟩)
theorem det_vint {op:BinOp}{k:IntKind}{a b:Int}:Det (vint A op k a b):=by
 intro K hl
 unfold vint at *
 repeat' (split at hl)
 all_goals first|(exact hl.elim)|(exact⟨_,hl,fun K' h=>h⟩)|(exact⟨_,_,_,hl,fun K' h=>h⟩)|(obtain⟨hb,hl⟩:=must_iff.1 hl;exact⟨_,hl,fun K' h=>must_of hb h⟩)|(obtain⟨hb,hl⟩:=must_iff.1 hl;exact⟨_,_,_,hl,fun K' h=>must_of hb h⟩)
theorem det_vpart {t:TypeId}{cs:List Value}{o:Nat}:Det (vpart T t cs o):=by
 intro K hl
 unfold vpart at *
 repeat' (split at hl)
 all_goals first|(exact hl.elim)|(exact⟨_,hl,fun K' h=>h⟩)|(exact⟨_,_,_,hl,fun K' h=>h⟩)|(obtain⟨hb,hl⟩:=must_iff.1 hl;exact⟨_,hl,fun K' h=>must_of hb h⟩)|(obtain⟨hb,hl⟩:=must_iff.1 hl;exact⟨_,_,_,hl,fun K' h=>must_of hb h⟩)
theorem det_vfield {t:TypeId}{x:Value}{f:Nat}:Det (vfield T t x f):=by
 intro K hl
 unfold vfield at *
 repeat' (split at hl)
 all_goals first|(exact det_vpart K hl)|(exact hl.elim)|(exact⟨_,hl,fun K' h=>h⟩)|(exact⟨_,_,_,hl,fun K' h=>h⟩)|(obtain⟨hb,hl⟩:=must_iff.1 hl;exact⟨_,hl,fun K' h=>must_of hb h⟩)|(obtain⟨hb,hl⟩:=must_iff.1 hl;exact⟨_,_,_,hl,fun K' h=>must_of hb h⟩)
theorem det_vindex {t:TypeId}{x i:Value}:Det (vindex A T t x i):=by
 intro K hl
 unfold vindex at *
 repeat' (split at hl)
 all_goals first|(exact det_must det_vpart K hl)|(exact hl.elim)|(exact⟨_,hl,fun K' h=>h⟩)|(exact⟨_,_,_,hl,fun K' h=>h⟩)|(obtain⟨hb,hl⟩:=must_iff.1 hl;exact⟨_,hl,fun K' h=>must_of hb h⟩)|(obtain⟨hb,hl⟩:=must_iff.1 hl;exact⟨_,_,_,hl,fun K' h=>must_of hb h⟩)
theorem det_vbin {op:BinOp}{t:TypeId}{x y:Value}:Det (vbin A T op t x y):=by
 intro K hl
 unfold vbin at *
 repeat' (split at hl)
 all_goals first|(exact hl.elim)|(exact⟨_,hl,fun K' h=>h⟩)|(exact⟨_,_,_,hl,fun K' h=>h⟩)|(obtain⟨hb,hl⟩:=must_iff.1 hl;exact⟨_,hl,fun K' h=>must_of hb h⟩)|(obtain⟨hb,hl⟩:=must_iff.1 hl;exact⟨_,_,_,hl,fun K' h=>must_of hb h⟩)|(exact det_vint K hl)
theorem det_vun {op:UnOp}{x:Value}:Det (vun A op x):=by
 intro K hl
 unfold vun at *
 repeat' (split at hl)
 all_goals first|(exact hl.elim)|(exact⟨_,hl,fun K' h=>h⟩)|(exact⟨_,_,_,hl,fun K' h=>h⟩)|(obtain⟨hb,hl⟩:=must_iff.1 hl;exact⟨_,hl,fun K' h=>must_of hb h⟩)|(obtain⟨hb,hl⟩:=must_iff.1 hl;exact⟨_,_,_,hl,fun K' h=>must_of hb h⟩)
theorem det_vbuild {t:TypeId}{ps:List (Nat × Value)}:Det (vbuild T t ps):=by
 intro K hl
 unfold vbuild at *
 repeat' (split at hl)
 all_goals first|(exact hl.elim)|(exact⟨_,hl,fun K' h=>h⟩)|(exact⟨_,_,_,hl,fun K' h=>h⟩)|(obtain⟨hb,hl⟩:=must_iff.1 hl;exact⟨_,hl,fun K' h=>must_of hb h⟩)|(obtain⟨hb,hl⟩:=must_iff.1 hl;exact⟨_,_,_,hl,fun K' h=>must_of hb h⟩)
theorem det_vbuiltin {b:Builtin}{ts:Array TypeId}{vs:List Value}:Det (vbuiltin A T b ts vs):=by
 intro K hl
 unfold vbuiltin at *
 repeat' (split at hl)
 all_goals first|(exact hl.elim)|(exact⟨_,hl,fun K' h=>h⟩)|(exact⟨_,_,_,hl,fun K' h=>h⟩)|(obtain⟨hb,hl⟩:=must_iff.1 hl;exact⟨_,hl,fun K' h=>must_of hb h⟩)|(obtain⟨hb,hl⟩:=must_iff.1 hl;exact⟨_,_,_,hl,fun K' h=>must_of hb h⟩)|(exact det_on1 K hl)
theorem det_vnil {op:BinOp}{t:TypeId}{x:Value}:Det (vnil T h op t x):=by
 intro K hl
 unfold vnil at *
 repeat' (split at hl)
 all_goals first|(exact hl.elim)|(exact⟨_,hl,fun K' h=>h⟩)
theorem det_vlook {env:List (Nat × Value)}{op:Op}:Det (vlook A T env h op):=by
 show Det (fun K=>vlook A T env h op K)
 cases op <;> simp only [vlook]
 case move x=>exact det_on1
 case assign x=>exact det_on1
 case pick c a b =>
  refine det_on fun u=>?_
  intro K hl
  split at hl
  ·exact det_br det_on1 det_on1 K hl
  ·exact hl.elim
 case nilCheck x =>
  refine det_on fun u=>?_
  intro K hl
  split at hl
  all_goals first|(exact hl.elim)|(exact⟨_,hl,fun K' h=>h⟩)
 case load t x=>exact det_on fun u=>det_vload
 case fieldAddr s x f=>exact det_on fun u=>det_vfieldAddr
 case field s x f=>exact det_on fun u=>det_vfield
 case indexAddr t x i=>exact det_on fun u=>det_on fun j=>det_vindexAddr
 case index t x i=>exact det_on fun u=>det_on fun j=>det_vindex
 case binOp op t x y yt =>
  refine det_on fun u=>det_on fun v=>?_
  intro K hl
  split at hl
  ·exact det_vnil K hl
  ·exact det_vbin K hl
 case unOp op t x=>exact det_on fun u=>det_vun
 case convert s d x =>
  refine det_on fun u=>?_
  intro K hl
  split at hl
  ·exact det_must det_pure K hl
  ·exact hl.elim
 case makeFunc fn first cap =>
  intro K hl
  repeat' (split at hl)
  all_goals first|(exact hl.elim)|(exact⟨_,hl,fun K' h=>h⟩)
 case extract x i =>
  refine det_on fun u=>?_
  intro K hl
  split at hl
  ·exact det_on1 K hl
  ·exact hl.elim
 case build t ps =>
  intro K hl
  split at hl
  ·exact det_vbuild K hl
  ·exact hl.elim
 case call c =>
  intro K hl
  split at hl
  ·split at hl
   ·exact det_vbuiltin K hl
   ·exact hl.elim
  ·exact hl.elim
 all_goals exact det_false
theorem detE_of {E:(Value→Prop)→Prop}(hE:Det E):DetE (fun K=>E (fun v=>K v h nx)):=by
 intro K hl
 obtain⟨v,h1,h2⟩:=hE _ hl
 exact⟨v,h,nx,h1,fun K' hk=>h2 _ hk⟩
theorem det_vstore {t:TypeId}{x v:Value}:DetE (vstore T h nx t x v):=by
 intro K hl
 unfold vstore at *
 repeat' (split at hl)
 all_goals first|(exact hl.elim)|(exact⟨_,hl,fun K' h=>h⟩)|(exact⟨_,_,_,hl,fun K' h=>h⟩)|(obtain⟨hb,hl⟩:=must_iff.1 hl;exact⟨_,hl,fun K' h=>must_of hb h⟩)|(obtain⟨hb,hl⟩:=must_iff.1 hl;exact⟨_,_,_,hl,fun K' h=>must_of hb h⟩)
theorem det_valloc {t:TypeId}:DetE (valloc T h nx t):=by
 intro K hl
 unfold valloc at *
 repeat' (split at hl)
 all_goals first|(exact hl.elim)|(exact⟨_,hl,fun K' h=>h⟩)|(exact⟨_,_,_,hl,fun K' h=>h⟩)|(obtain⟨hb,hl⟩:=must_iff.1 hl;exact⟨_,hl,fun K' h=>must_of hb h⟩)|(obtain⟨hb,hl⟩:=must_iff.1 hl;exact⟨_,_,_,hl,fun K' h=>must_of hb h⟩)
theorem det_vbox {v:Value}:DetE (vbox h nx v):=by
 intro K hl
 unfold vbox at *
 repeat' (split at hl)
 all_goals first|(exact hl.elim)|(exact⟨_,hl,fun K' h=>h⟩)|(exact⟨_,_,_,hl,fun K' h=>h⟩)|(obtain⟨hb,hl⟩:=must_iff.1 hl;exact⟨_,hl,fun K' h=>must_of hb h⟩)|(obtain⟨hb,hl⟩:=must_iff.1 hl;exact⟨_,_,_,hl,fun K' h=>must_of hb h⟩)
theorem det_vbuildSlice {t:TypeId}{n:Nat}{ps:List (Nat × Value)}:DetE (vbuildSlice T h nx t n ps):=by
 intro K hl
 unfold vbuildSlice at *
 repeat' (split at hl)
 all_goals first|(exact hl.elim)|(exact⟨_,hl,fun K' h=>h⟩)|(exact⟨_,_,_,hl,fun K' h=>h⟩)|(obtain⟨hb,hl⟩:=must_iff.1 hl;exact⟨_,hl,fun K' h=>must_of hb h⟩)|(obtain⟨hb,hl⟩:=must_iff.1 hl;exact⟨_,_,_,hl,fun K' h=>must_of hb h⟩)
theorem det_vclear {t:TypeId}{x:Value}:DetE (vclear T h nx t x):=by
 intro K hl
 unfold vclear at *
 repeat' (split at hl)
 all_goals first|(exact hl.elim)|(exact⟨_,hl,fun K' h=>h⟩)|(exact⟨_,_,_,hl,fun K' h=>h⟩)|(obtain⟨hb,hl⟩:=must_iff.1 hl;exact⟨_,hl,fun K' h=>must_of hb h⟩)|(obtain⟨hb,hl⟩:=must_iff.1 hl;exact⟨_,_,_,hl,fun K' h=>must_of hb h⟩)
theorem det_vmapUpdate {t:TypeId}{x k v:Value}:DetE (vmapUpdate A T h nx t x k v):=by
 intro K hl
 unfold vmapUpdate at *
 repeat' (split at hl)
 all_goals first|(exact hl.elim)|(obtain⟨a1,a2,⟨i,v,a3,a4,a5⟩|⟨a3,a4⟩⟩:=hl;exact⟨_,_,_,a5,fun K' hk=>⟨a1,a2,.inl ⟨i,v,a3,a4,hk⟩⟩⟩;exact⟨_,_,_,a4,fun K' hk=>⟨a1,a2,.inr ⟨a3,hk⟩⟩⟩)|(exact⟨_,hl,fun K' h=>h⟩)|(exact⟨_,_,_,hl,fun K' h=>h⟩)|(obtain⟨hb,hl⟩:=must_iff.1 hl;exact⟨_,hl,fun K' h=>must_of hb h⟩)|(obtain⟨hb,hl⟩:=must_iff.1 hl;exact⟨_,_,_,hl,fun K' h=>must_of hb h⟩)
theorem det_vlookup {t:TypeId}{x k:Value}{ok:Bool}:Det (vlookup A T h t x k ok):=by
 intro K hl
 unfold vlookup at *
 repeat' (split at hl)
 all_goals first|(exact hl.elim)|(obtain⟨a1,a2,⟨i,v,a3,a4,a5⟩|⟨a3,a4⟩⟩:=hl;exact⟨_,a5,fun K' hk=>⟨a1,a2,.inl ⟨i,v,a3,a4,hk⟩⟩⟩;exact⟨_,a4,fun K' hk=>⟨a1,a2,.inr ⟨a3,hk⟩⟩⟩)|(exact⟨_,hl,fun K' h=>h⟩)|(exact⟨_,_,_,hl,fun K' h=>h⟩)|(obtain⟨hb,hl⟩:=must_iff.1 hl;exact⟨_,hl,fun K' h=>must_of hb h⟩)|(obtain⟨hb,hl⟩:=must_iff.1 hl;exact⟨_,_,_,hl,fun K' h=>must_of hb h⟩)
theorem det_vmapEntry {t:TypeId}{x k:Value}:DetE (vmapEntry A T h nx t x k):=by
 intro K hl
 unfold vmapEntry at *
 repeat' (split at hl)
 all_goals first|(exact hl.elim)|(obtain⟨a1,a2,⟨i,v,a3,a4,a5⟩|⟨a3,a4⟩⟩:=hl;exact⟨_,_,_,a5,fun K' hk=>⟨a1,a2,.inl ⟨i,v,a3,a4,hk⟩⟩⟩;exact⟨_,_,_,a4,fun K' hk=>⟨a1,a2,.inr ⟨a3,hk⟩⟩⟩)
theorem det_ventryStore {x s v:Value}:DetE (ventryStore h nx x s v):=by
 intro K hl
 unfold ventryStore at *
 repeat' (split at hl)
 all_goals first|(exact hl.elim)|(obtain⟨i,p,a1,a2,a3⟩:=hl;exact⟨_,_,_,a3,fun K' hk=>⟨i,p,a1,a2,hk⟩⟩)
theorem det_vmrange {t:TypeId}{x:Value}:DetE (vmrange T h nx t x):=by
 intro K hl
 unfold vmrange at *
 repeat' (split at hl)
 all_goals first|(exact hl.elim)|(exact⟨_,_,_,hl,fun K' h=>h⟩)
theorem det_ventry {x:Value}:Det (ventry h x):=by
 intro K hl
 unfold ventry at *
 repeat' (split at hl)
 all_goals first|(exact hl.elim)|(obtain⟨s0,i,e,a1,a2,a3,a4⟩:=hl;exact⟨_,a4,fun K' hk=>⟨s0,i,e,a1,a2,a3,hk⟩⟩)
theorem detE_vhi {n c:Nat}{hi:Option Value}{G:Nat→KE→Prop}(hG:∀ m,DetE (G m)):DetE (fun K=>vhi A n c hi fun m=>G m K):=by
 intro K hl
 unfold vhi at *
 split at hl
 ·exact hG _ K hl
 ·exact detE_must (hG _) K hl
 ·exact hl.elim
theorem det_vslice {t:TypeId}{x:Value}{lo hi mx:Option Value}:DetE (vslice A T h nx t x lo hi mx):=by
 intro K hl
 unfold vslice at *
 split at hl
 case h_2=>exact hl.elim
 split at hl
 ·exact hl.elim
 split at hl
 ·split at hl
  ·exact detE_pure K hl
  ·exact hl.elim
 ·refine detE_vhi (fun m=>?_) K hl
  intro K hl
  split at hl
  ·exact detE_pure K hl
  ·refine detE_must ?_ K hl
   intro K hl
   split at hl
   ·exact detE_br detE_pure detE_pure K hl
   ·exact hl.elim
  ·exact hl.elim
 ·split at hl
  ·exact detE_pure K hl
  ·exact hl.elim
 ·split at hl
  ·exact detE_must detE_pure K hl
  ·exact detE_must detE_pure K hl
  ·exact hl.elim
 ·exact hl.elim
theorem detE_vsrc {sz:Nat}{x:Value}{G:Nat→List Value→KE→Prop}(hG:∀ m l,DetE (G m l)):DetE (fun K=>vsrc h sz x fun m l=>G m l K):=by
 intro K hl
 unfold vsrc at *
 split at hl
 ·exact hG _ _ K hl
 ·split at hl
  ·exact detE_must (hG _ _) K hl
  ·split at hl
   ·exact hG _ _ K hl
   ·exact hl.elim
  ·split at hl
   ·exact hG _ _ K hl
   ·exact hl.elim
  ·exact hl.elim
 ·exact hl.elim
theorem det_vmakeSlice {t:TypeId}{l c:Value}:DetE (vmakeSlice A T h nx t l c):=by
 intro K hl
 unfold vmakeSlice at *
 split at hl
 case h_2=>exact hl.elim
 split at hl
 case h_2=>exact hl.elim
 exact detE_must detE_pure K hl
theorem det_vappend {st xt:TypeId}{s x:Value}:DetE (vappend A T h nx st xt s x):=by
 intro K hl
 unfold vappend at *
 split at hl
 case h_3=>exact hl.elim
 case h_1 =>
  split at hl
  case h_2=>exact hl.elim
  split at hl
  case h_2=>exact hl.elim
  exact detE_must detE_pure K hl
 split at hl
 ·exact hl.elim
 split at hl
 ·exact hl.elim
 refine detE_vsrc (fun m l=>?_) K hl
 intro K hl
 split at hl
 ·exact detE_br detE_pure (detE_must detE_pure) K hl
 ·split at hl
  ·split at hl
   ·exact detE_br detE_pure (detE_must detE_pure) K hl
   ·exact hl.elim
  ·exact detE_br (detE_must detE_pure) (detE_must detE_pure) K hl
  ·exact hl.elim
 ·exact hl.elim
end Go.Aw
end

noncomputable section
namespace Go.Aw
open Go.RowKit
variable {A:Ar}{T:Tab}{C:VC}{Y:VY}
theorem det_vop (hC:DetC C)(hY:DetC Y){env:List (Nat × Value)}{h:Heap}{nx:Nat}{op:Op}:DetE (vop A T C Y env h nx op):=by
 have hlook:DetE (fun K=>vlook A T env h op (fun v=>K v h nx)):=detE_of det_vlook
 show DetE (fun K=>vop A T C Y env h nx op K)
 cases op
 case store t x y=>exact detE_on fun p=>detE_on fun v=>det_vstore
 case alloc t=>exact det_valloc
 case box t x=>exact detE_on fun v=>det_vbox
 case buildSlice t n ps =>
  simp only [vop]
  intro K hl
  split at hl
  ·exact det_vbuildSlice K hl
  ·exact hl.elim
 case slice t x lo hi mx =>
  simp only [vop]
  refine detE_on fun v=>?_
  intro K hl
  split at hl
  ·exact det_vslice K hl
  ·exact hl.elim
 case makeSlice t l c =>
  simp only [vop]
  exact detE_on fun x=>detE_on fun y=>det_vmakeSlice
 case makeMap t r =>
  cases r with
  |none=>exact detE_pure
  |some r=>exact hlook
 case lookup t m k ok=>exact detE_on fun x=>detE_on fun y=>detE_of det_vlookup
 case mapUpdate t m k u=>exact detE_on fun x=>detE_on fun y=>detE_on fun v=>det_vmapUpdate
 case mapEntry t m k=>exact detE_on fun x=>detE_on fun y=>det_vmapEntry
 case entryStore t m k u=>exact detE_on fun x=>detE_on fun y=>detE_on fun v=>det_ventryStore
 case range t x=>exact detE_on fun v=>det_vmrange
 case entry x=>exact detE_on fun v=>detE_of det_ventry
 case call c =>
  obtain⟨cal,args,ats⟩:=c
  cases cal with
  |invoke r m=>exact detE_false
  |builtin b =>
   cases b
   case append =>
    simp only [vop]
    intro K hl
    split at hl
    ·exact det_vappend K hl
    ·exact hl.elim
   case clear =>
    simp only [vop]
    intro K hl
    split at hl
    ·exact det_vclear K hl
    ·exact hl.elim
   all_goals exact hlook
  |value f =>
   simp only [vop]
   refine detE_on fun fv=>?_
   intro K hl
   split at hl
   ·split at hl
    ·split at hl
     ·exact hC _ _ _ _ K hl
     ·exact hl.elim
    ·split at hl
     ·exact hY _ _ _ _ K hl
     ·exact hl.elim
    ·exact hl.elim
   ·exact hl.elim
 all_goals exact hlook
theorem vguard_cases {ops:List Oper}{env:List (Nat × Value)}{g:Option (Nat × Bool)}:(∃ e,∀ Yk N,vguard A ops env g Yk N=Yk e)∨(∃ e,∀ Yk N,vguard A ops env g Yk N=N e)∨(∀ Yk N,vguard A ops env g Yk N=False):=by
 unfold vguard
 cases g with
 |none=>exact .inl ⟨env,fun _ _=>rfl⟩
 |some gw =>
  obtain⟨j,want⟩:=gw
  simp only
  cases getL ops j with
  |none=>exact .inr (.inr fun _ _=>rfl)
  |some o =>
   simp only
   cases o.dst with
   |none=>exact .inr (.inr fun _ _=>rfl)
   |some t =>
    simp only
    cases look env t with
    |none=>exact .inr (.inr fun _ _=>rfl)
    |some v =>
     cases v with
     |tuple vs=>exact .inr (.inl ⟨env,fun _ _=>rfl⟩)
     |bool b =>
      simp only
      cases A.eqB b want with
      |true=>exact .inl ⟨_,fun _ _=>rfl⟩
      |false=>exact .inr (.inl ⟨_,fun _ _=>rfl⟩)
     |_=>exact .inr (.inr fun _ _=>rfl)
theorem vput_cases {tn:Nat}{env:List (Nat × Value)}{dst:Option Nat}{v:Value}:(∃ e,∀ K,vput tn env dst v K=K e)∨(∀ K,vput tn env dst v K=False):=by
 unfold vput
 cases dst with
 |none=>exact .inl ⟨env,fun _=>rfl⟩
 |some d =>
  simp only
  cases Nat.blt d tn with
  |true=>exact .inl ⟨_,fun _=>rfl⟩
  |false=>exact .inr fun _=>rfl
theorem detS_pure {e:List (Nat × Value)}{h:Heap}{nx:Nat}:DetS (fun K=>K e h nx):=fun K hl=>⟨e,h,nx,hl,fun K' h=>h⟩
theorem detS_false:DetS (fun _=>False):=fun K hl=>hl.elim
theorem detS_guard {ops:List Oper}{env:List (Nat × Value)}{g:Option (Nat × Bool)}{F G:List (Nat × Value)→KS→Prop}(hF:∀ e,DetS (F e))(hG:∀ e,DetS (G e)):DetS (fun K=>vguard A ops env g (fun e=>F e K) (fun e=>G e K)):=by
 rcases vguard_cases (A:=A) (ops:=ops) (env:=env) (g:=g) with ⟨e,h⟩|⟨e,h⟩|h
 ·simp only [h];exact hF e
 ·simp only [h];exact hG e
 ·simp only [h];exact detS_false
theorem detS_put {tn:Nat}{env:List (Nat × Value)}{dst:Option Nat}{v:Value}{F:List (Nat × Value)→KS→Prop}(hF:∀ e,DetS (F e)):DetS (fun K=>vput tn env dst v (fun e=>F e K)):=by
 rcases vput_cases (tn:=tn) (env:=env) (dst:=dst) (v:=v) with ⟨e,h⟩|h
 ·simp only [h];exact hF e
 ·simp only [h];exact detS_false
theorem detS_bind {E:KE→Prop}{F:Value→Heap→Nat→KS→Prop}(hE:DetE E)(hF:∀ v h nx,DetS (F v h nx)):DetS (fun K=>E (fun v h nx=>F v h nx K)):=by
 intro K hl
 obtain⟨v,h,nx,h1,h2⟩:=hE _ hl
 obtain⟨e,h',nx',h3,h4⟩:=hF v h nx K h1
 exact⟨e,h',nx',h3,fun K' hk=>h2 _ (h4 K' hk)⟩
theorem detS_bindS {E:KS→Prop}{F:List (Nat × Value)→Heap→Nat→KS→Prop}(hE:DetS E)(hF:∀ v h nx,DetS (F v h nx)):DetS (fun K=>E (fun v h nx=>F v h nx K)):=by
 intro K hl
 obtain⟨v,h,nx,h1,h2⟩:=hE _ hl
 obtain⟨e,h',nx',h3,h4⟩:=hF v h nx K h1
 exact⟨e,h',nx',h3,fun K' hk=>h2 _ (h4 K' hk)⟩
theorem detS_must {b:Bool}{E:KS→Prop}(h:DetS E):DetS (fun K=>must b (E K)):=by
 intro K hl
 obtain⟨hb,hl⟩:=must_iff.1 hl
 obtain⟨x,y,z,h1,h2⟩:=h K hl
 exact⟨x,y,z,h1,fun K' hk=>must_of hb (h2 K' hk)⟩
theorem det_vops (hC:DetC C)(hY:DetC Y){tn:Nat}{ops:List Oper}:∀ (l:List Oper) (env:List (Nat × Value)) (h:Heap) (nx:Nat),DetS (vops A T C Y tn ops l env h nx)
 |[],env,h,nx=>detS_pure
 |o::r,env,h,nx=>by
  show DetS (fun K=>vops A T C Y tn ops (o::r) env h nx K)
  simp only [vops_cons]
  exact detS_guard (F:=fun e K=>vop A T C Y e h nx o.op fun v h' nx'=>vput tn e o.dst v fun env'=>vops A T C Y tn ops r env' h' nx' K) (G:=fun e K=>vput tn e o.dst undef fun env'=>vops A T C Y tn ops r env' h nx K)
   (fun e=>detS_bind (F:=fun v h' nx' K=>vput tn e o.dst v fun env'=>vops A T C Y tn ops r env' h' nx' K) (det_vop hC hY) fun v h' nx'=>detS_put (F:=fun env' K=>vops A T C Y tn ops r env' h' nx' K) fun e'=>det_vops hC hY r e' h' nx')
   (fun e=>detS_put (F:=fun env' K=>vops A T C Y tn ops r env' h nx K) fun e'=>det_vops hC hY r e' h nx)
def DetV {α:Type}(E:(α→Nat→Prop)→Prop):Prop:=∀ K,E K→∃ v n,K v n∧∀ K':α→Nat→Prop,K' v n→E K'
theorem detV_of {E:(Value→Prop)→Prop}{n:Nat}(hE:Det E):DetV (fun K=>E (fun v=>K v n)):=by
 intro K hl
 obtain⟨v,h1,h2⟩:=hE _ hl
 exact⟨v,n,h1,fun K' hk=>h2 _ hk⟩
theorem detV_on {x:Option Value}{F:Value→(Value→Nat→Prop)→Prop}(hF:∀ v,DetV (F v)):DetV (fun K=>on x (fun v=>F v K)):=by
 cases x with
 |none=>exact fun K hl=>hl.elim
 |some v=>exact hF v
theorem det_vquiet (hC:DetC C){hJ:Heap}{nx:Nat}{env:List (Nat × Value)}{op:Op}:DetV (vquiet A T C hJ nx env op):=by
 have hlook:∀ hh op',DetV (fun K=>vlook A T env hh op' (fun v=>K v nx)):=fun _ _=>detV_of det_vlook
 show DetV (fun K=>vquiet A T C hJ nx env op K)
 cases op
 case load t x=>simp only [vquiet];exact hlook hJ _
 case lookup t m k ok=>exact detV_on fun x=>detV_on fun y=>detV_of det_vlookup
 case slice t x lo hi mx =>
  simp only [vquiet]
  refine detV_on fun v=>?_
  intro K hl
  split at hl
  ·obtain⟨v,h',nx',h1,h2⟩:=det_vslice _ hl
   exact⟨v,nx',h1,fun K' hk=>h2 _ hk⟩
  ·exact hl.elim
 case call c =>
  obtain⟨cal,args,ats⟩:=c
  cases cal with
  |invoke r m=>exact fun K hl=>hl.elim
  |builtin b=>simp only [vquiet];exact hlook [] _
  |value f =>
   simp only [vquiet]
   refine detV_on fun fv=>?_
   intro K hl
   split at hl
   ·split at hl
    ·split at hl
     ·obtain⟨v,h',nx',h1,h2⟩:=hC _ _ _ _ _ hl
      split at h1
      ·rename_i hb
       exact⟨v,nx,h1,fun K' hk=>h2 _ (by rw [hb];exact hk)⟩
      ·exact h1.elim
     ·exact hl.elim
    ·exact hl.elim
   ·exact hl.elim
 all_goals (simp only [vquiet];exact hlook [] _)
theorem det_bind {α β:Type}{E:(α→Prop)→Prop}{F:α→(β→Prop)→Prop}(hE:Det E)(hF:∀ v,Det (F v)):Det (fun K=>E (fun v=>F v K)):=by
 intro K hl
 obtain⟨v,h1,h2⟩:=hE _ hl
 obtain⟨e,h3,h4⟩:=hF v K h1
 exact⟨e,h3,fun K' hk=>h2 _ (h4 K' hk)⟩
theorem detV_false {α:Type}:DetV (fun _:α→Nat→Prop=>False):=fun _ hl=>hl.elim
theorem detV_pure {α:Type}{v:α}{n:Nat}:DetV (fun K:α→Nat→Prop=>K v n):=fun _ hl=>⟨v,n,hl,fun _ h=>h⟩
theorem detV_bind {α β:Type}{E:(α→Nat→Prop)→Prop}{F:α→Nat→(β→Nat→Prop)→Prop}(hE:DetV E)(hF:∀ v n,DetV (F v n)):DetV (fun K=>E (fun v n=>F v n K)):=by
 intro K hl
 obtain⟨v,n,h1,h2⟩:=hE _ hl
 obtain⟨e,m,h3,h4⟩:=hF v n K h1
 exact⟨e,m,h3,fun K' hk=>h2 _ (h4 K' hk)⟩
theorem detV_guard {α:Type}{ops:List Oper}{env:List (Nat × Value)}{g:Option (Nat × Bool)}{F G:List (Nat × Value)→(α→Nat→Prop)→Prop}(hF:∀ e,DetV (F e))(hG:∀ e,DetV (G e)):DetV (fun K=>vguard A ops env g (fun e=>F e K) (fun e=>G e K)):=by
 rcases vguard_cases (A:=A) (ops:=ops) (env:=env) (g:=g) with ⟨e,h⟩|⟨e,h⟩|h
 ·simp only [h];exact hF e
 ·simp only [h];exact hG e
 ·simp only [h];exact detV_false
theorem detV_put {α:Type}{tn:Nat}{env:List (Nat × Value)}{dst:Option Nat}{v:Value}{F:List (Nat × Value)→(α→Nat→Prop)→Prop}(hF:∀ e,DetV (F e)):DetV (fun K=>vput tn env dst v (fun e=>F e K)):=by
 rcases vput_cases (tn:=tn) (env:=env) (dst:=dst) (v:=v) with ⟨e,h⟩|h
 ·simp only [h];exact hF e
 ·simp only [h];exact detV_false
theorem det_vhead (hC:DetC C){tn:Nat}{ops:List Oper}{hJ:Heap}:∀ (l:List Nat) (env:List (Nat × Value)) (nx:Nat),DetV (vhead A T C tn ops hJ l env nx)
 |[],env,nx=>detV_pure
 |i::r,env,nx=>by
  show DetV (fun K=>vhead A T C tn ops hJ (i::r) env nx K)
  simp only [vhead_cons]
  cases getL ops i with
  |none=>exact detV_false
  |some o =>
   exact detV_guard (F:=fun e K=>vquiet A T C hJ nx e o.op fun v nx'=>vput tn e o.dst v fun env=>vhead A T C tn ops hJ r env nx' K) (G:=fun e K=>vput tn e o.dst undef fun env=>vhead A T C tn ops hJ r env nx K)
    (fun e=>detV_bind (F:=fun v n K=>vput tn e o.dst v fun env=>vhead A T C tn ops hJ r env n K) (det_vquiet hC) fun v n=>detV_put (F:=fun env K=>vhead A T C tn ops hJ r env n K) fun e'=>det_vhead hC r e' n)
    (fun e=>detV_put (F:=fun env K=>vhead A T C tn ops hJ r env nx K) fun e'=>det_vhead hC r e' nx)
theorem detS_bind2 {E:(List (Nat × Value)→Nat→Prop)→Prop}{F:List (Nat × Value)→Nat→KS→Prop}(hE:DetV E)(hF:∀ e n,DetS (F e n)):DetS (fun K=>E (fun e n=>F e n K)):=by
 intro K hl
 obtain⟨e0,n0,h1,h2⟩:=hE _ hl
 obtain⟨e,h,nx,h3,h4⟩:=hF e0 n0 K h1
 exact⟨e,h,nx,h3,fun K' hk=>h2 _ (h4 K' hk)⟩
theorem det_vallocs {tn:Nat}{ops:List Oper}:∀ (l:List Nat) (env:List (Nat × Value)) (h:Heap) (nx:Nat),DetS (vallocs T tn ops l env h nx)
 |[],env,h,nx=>detS_pure
 |i::r,env,h,nx=>by
  intro K hl
  simp only [vallocs_cons] at hl ⊢
  split at hl
  ·split at hl
   ·exact detS_put (F:=fun e K=>vallocs T tn ops r e _ _ K) (fun e=>det_vallocs r e _ _) K hl
   ·exact hl.elim
  ·exact hl.elim
theorem det_vtail (hC:DetC C)(hY:DetC Y){tn:Nat}{ops:List Oper}{hJ:Heap}:∀ (l:List (Nat × Bool)) (env:List (Nat × Value)) (h:Heap) (nx:Nat),DetS (vtail A T C Y tn ops hJ l env h nx)
 |[],env,h,nx=>detS_pure
 |(i,chk)::r,env,h,nx=>by
  show DetS (fun K=>vtail A T C Y tn ops hJ ((i,chk)::r) env h nx K)
  simp only [vtail_cons]
  cases getL ops i with
  |none=>exact detS_false
  |some o =>
   exact detS_guard (F:=fun e K=>must (asideOK e hJ chk o.op) (vop A T C Y e h nx o.op fun v h' nx'=>vput tn e o.dst v fun env'=>vtail A T C Y tn ops hJ r env' h' nx' K)) (G:=fun e K=>vput tn e o.dst undef fun env'=>vtail A T C Y tn ops hJ r env' h nx K)
    (fun e=>detS_must (detS_bind (F:=fun v h' nx' K=>vput tn e o.dst v fun env'=>vtail A T C Y tn ops hJ r env' h' nx' K) (det_vop hC hY) fun v h' nx'=>detS_put (F:=fun env' K=>vtail A T C Y tn ops hJ r env' h' nx' K) fun e'=>det_vtail hC hY r e' h' nx'))
    (fun e=>detS_put (F:=fun env' K=>vtail A T C Y tn ops hJ r env' h nx K) fun e'=>det_vtail hC hY r e' h nx)
theorem det_vregion (hC:DetC C)(hY:DetC Y){tn:Nat}{ops:List Oper}{p:Plan}{env:List (Nat × Value)}{h:Heap}{nx:Nat}:DetS (vregion A T C Y tn ops p env h nx):=by
 show DetS (fun K=>vregion A T C Y tn ops p env h nx K)
 unfold vregion
 exact detS_bind2 (F:=fun e n K=>vallocs T tn ops p.allocs e h n fun env2 h2 nx2=>vtail A T C Y tn ops (hjOf T ops env p h) p.tail env2 h2 nx2 K) (det_vhead hC p.head env nx) fun e n =>
  detS_bindS (F:=fun env2 h2 nx2 K=>vtail A T C Y tn ops (hjOf T ops env p h) p.tail env2 h2 nx2 K) (det_vallocs p.allocs e h n) fun e2 h2 nx2=>det_vtail hC hY p.tail e2 h2 nx2
end Go.Aw
end
