/-
  Parts of the proof, put together. No condition.
-/
import Derived.Test.YtjahkcbdecgbhaaGreatQAh
set_option linter.unusedSimpArgs false
set_option linter.unusedVariables false
noncomputable section
namespace Go.Aw
open Go.RowKit
section
variable {P:Program}{T:cH}{C:VC}{Y:VY}{ops:Array Oper}{p:eR}
variable {B:Nat}{w0:World}{ιb:Nat→Loc}{nxb tn:Nat}{ds:List Deferred}{ι0:Nat→Loc}{nx0:Nat}{h0 hJ:Heap}{a0:Act}{wS:World}{vals:List (Nat × Value)}{env1:List (Nat × Value)}{K:KS}
def vW (listed:Array Bool)(i:Nat):Prop:=listed.getD i false=true
theorem vW.set {listed:Array Bool}{i:Nat}(hi:i<listed.size):vW (listed.setIfInBounds i true)=EC (vW listed) i:=by
 funext j;unfold vW EC;apply propext;by_cases h:j=i
 ·subst h;simp [hi]
 ·rw [getD_set_ne false (fun e=>h e.symm)];simp [h]
theorem mO {listed:Array Bool}(hs:listed.size=ops.size){i:Nat}:i∈Region.ready .any ops listed↔i<ops.size∧¬ vW listed i∧∀ j∈bZ ops.toList i,vW listed j:=by
 rw [mem_ready];constructor
 ·rintro ⟨h1,o,ho,h2⟩;have hlt:=(Array.getElem?_eq_some_iff.1 ho).1;refine⟨hlt,?_,fun j hj=>?_⟩
  ·unfold vW;have hl:i<listed.size:=(by omega);simp [hl] at h1 ⊢;exact h1
  ·have:fC ops.toList i=some o:=(by rw [dR];simpa using ho);simp only [bZ,this,kY,List.mem_filterMap] at hj;obtain⟨e,he,hj⟩:=hj;split at hj
   ·rename_i hb;injection hj with hj;subst hj;exact h2 e (by simpa using he) hb
   ·cases hj
 ·rintro ⟨hlt,h1,h2⟩;refine⟨?_,ops[i],by simp [hlt],fun e he hb=>?_⟩
  ·have hl:i<listed.size:=(by omega);unfold vW at h1;simp [hl] at h1 ⊢;exact h1
  ·refine h2 e.on ?_;have:fC ops.toList i=some ops[i]:=(by rw [dR];simp [hlt]);simp only [bZ,this,kY,List.mem_filterMap];exact⟨e,by simpa using he,by rw [hb]⟩
def left (n:Nat)(listed:Array Bool):Nat:=((List.range n).filter fun i=>!listed.getD i false).length
theorem yP {n:Nat}{listed:Array Bool}{i:Nat}(hi:i<n)(hs:listed.size=n)(hn:¬ vW listed i):left n (listed.setIfInBounds i true)<left n listed:=by
 unfold left;have:(List.range n).filter (fun j=>!(listed.setIfInBounds i true).getD j false)=((List.range n).filter fun j=>!listed.getD j false).filter (fun j=>decide (j≠i)):=by
  rw [List.filter_filter];apply List.filter_congr;intro j hj;by_cases h:j=i
  ·subst h;have hl:j<listed.size:=(by omega);simp [hl]
  ·rw [getD_set_ne false (fun e=>h e.symm)];simp [h]
 rw [this];refine Nat.lt_of_le_of_ne (List.length_filter_le _ _) fun e=>?_;have:=List.length_filter_eq_length_iff.1 e i (List.mem_filter.2 ⟨by simpa using hi,by unfold vW at hn;simpa using hn⟩);simp at this
theorem I3 (hp:lP ops p){listed:Array Bool}(hs:listed.size=ops.size)(h:Region.ready .any ops listed=[]):∀ i,i<ops.size→vW listed i:=by
 intro i
 induction i using Nat.strongRecOn with
 |_ i ih =>
  intro hi;refine Classical.byContradiction fun hn=>?_;have:i∈Region.ready .any ops listed:=(mO hs).2 ⟨hi,hn,fun j hj=>ih j (hp.lin i hi j hj) (by have:=hp.lin i hi j hj;omega)⟩;rw [h] at this;cases this
theorem OE (X:Ctx P T C Y ops p B w0 ιb nxb tn ds ι0 nx0 h0 hJ a0 wS vals env1 K){L:Nat→Prop}{a:Act}{w:World}(hall:∀ i,i<ops.size→L i)
  (S:GO T ops p tn ds ι0 a0 wS vals L a w∨r8 T C Y ops p B w0 ιb nxb tn ds ι0 nx0 hJ a0 vals K L a w):∃ ι env h nx,K env h nx∧Inv B w0 ιb nxb tn ds ι env h nx a w:=by
 have hin:∀ i∈p.order,L i:=fun i hi=>hall i (X.plan.LB i hi);have S:r8 T C Y ops p B w0 ιb nxb tn ds ι0 nx0 hJ a0 vals K L a w:=by
  rcases S with S|S
  ·exact S.post X (fun i hi=>hin i (gB.2 (.inr (.inl hi)))) (fun i hi _=>hin i (gB.2 (.inl hi)))
  ·exact S
 obtain⟨done,rest,a',ι,env,h,nx,e1,e2,e3,e4,e5,I,J,e6,e7,e8,_,_⟩:=S;cases rest with
 |cons t r=>exact absurd (hin t.1 (gB.2 (.inr (.inr (List.mem_map.2 ⟨t,by rw [e1];simp,rfl⟩))))) (e3 t (by simp))
 |nil =>
  exact⟨ι,env,h,nx,e8,J.env.congr (fun d=>(I.q2 d fun i hi _=>hin i (gB.2 (.inl hi))).symm),J.heap,J.below,J.old,J.le,I.size,I.defers⟩
theorem O4 (X:Ctx P T C Y ops p B w0 ιb nxb tn ds ι0 nx0 h0 hJ a0 wS vals env1 K)(r:Option Nat){Q:Exit→Act→World→Prop}
  (hQ:∀ ι env h nx a w,K env h nx→Inv B w0 ιb nxb tn ds ι env h nx a w→Q .normal a w):∀ (fuel:Nat) (listed:Array Bool) (a:Act) (w:World),listed.size=ops.size→left ops.size listed≤fuel →
  (∀ i,vW listed i→∀ j∈bZ ops.toList i,vW listed j) →
  (GO T ops p tn ds ι0 a0 wS vals (vW listed) a w∨r8 T C Y ops p B w0 ιb nxb tn ds ι0 nx0 hJ a0 vals K (vW listed) a w)→wpAnyIn (Fr r) 0 P .any ops Q fuel listed a w:=by
 have fin:∀ (listed:Array Bool) (a:Act) (w:World),listed.size=ops.size→Region.ready .any ops listed=[] →
   (GO T ops p tn ds ι0 a0 wS vals (vW listed) a w∨r8 T C Y ops p B w0 ιb nxb tn ds ι0 nx0 hJ a0 vals K (vW listed) a w)→Q .normal a w:=by
  intro listed a w hs hr S;obtain⟨ι,env,h,nx,h1,h2⟩:=OE X (I3 X.plan hs hr) S;exact hQ ι env h nx a w h1 h2
 intro fuel
 induction fuel with
 |zero =>
  intro listed a w hs hl cl S;have hr:Region.ready .any ops listed=[]:=by
   refine List.eq_nil_iff_forall_not_mem.2 fun i hi=>?_;obtain⟨h1,h2,_⟩:=(mO hs).1 hi;have:=yP h1 hs h2;omega
  exact⟨hr,fin listed a w hs hr S⟩
 |succ fuel ih =>
  intro listed a w hs hl cl S;refine⟨fun hr=>fin listed a w hs hr S,fun i hi=>?_⟩;obtain⟨h1,h2,h3⟩:=(mO hs).1 hi;have hL:∀ i,vW listed i→i<ops.size:=by
   intro j hj;unfold vW at hj;by_cases h:j<listed.size
   ·omega
   ·simp [h] at hj
  have next:∀ a w,(GO T ops p tn ds ι0 a0 wS vals (EC (vW listed) i) a w∨r8 T C Y ops p B w0 ιb nxb tn ds ι0 nx0 hJ a0 vals K (EC (vW listed) i) a w) →
    wpAnyIn (Fr r) 0 P .any ops Q fuel (listed.setIfInBounds i true) a w:=by
   intro a w S';have hset:=vW.set (listed:=listed) (i:=i) (by omega);refine ih _ a w (by simp [hs]) (by have:=yP h1 hs h2;omega) ?_ (by rw [hset];exact S');rw [hset];rintro j (rfl|hj) k hk
   ·exact .inr (h3 k hk)
   ·exact .inr (cl j hj k hk)
  rcases gB.1 (X.plan.cover i h1) with h|h|h
  ·exact U5 X cl hL h h2 h3 S r _ Q next
  ·rcases S with S|S
   ·exact PS X h h2 S r _ Q fun a w s=>next a w (.inl s)
   ·obtain⟨_,_,_,_,_,_,_,_,_,_,e4,_⟩:=S;exact absurd (e4 i h) h2
  ·have S:r8 T C Y ops p B w0 ιb nxb tn ds ι0 nx0 hJ a0 vals K (vW listed) a w:=by
    rcases S with S|S
    ·have hfirst:=E3 X.plan.tailP (L:=vW listed) (fun t ht=>S.noT _ (List.mem_map.2 ⟨t,ht,rfl⟩)) h cl h3;obtain⟨c,rr,hrr⟩:=hfirst;obtain⟨f1,f2⟩:=X.plan.first i c rr hrr;exact S.post X (fun j hj=>nA cl h3 j (f1 j hj)) (fun j hj hk=>nA cl h3 j (f2 j hj hk))
    ·exact S
   exact VL X h h2 cl h3 S r _ Q fun a w s=>next a w (.inr s)
theorem QX (hT:cD P T)(hC:bE P C)(hY:eC P Y)(hD:dY C)(hm:P.follows .mixedOrders=true)(hp:lP ops p){ι:Nat→Loc}{env:List (Nat × Value)}{h:Heap}{nx:Nat}{a:Act}{w:World}(I:Inv B w0 ιb nxb tn ds ι env h nx a w)
  (hl:oE aC T C Y tn ops.toList p env h nx K) (r:Option Nat) {id:Nat} {Q:Exit→Act→World→Prop} (hQ:∀ ι env h nx a w,K env h nx→Inv B w0 ιb nxb tn ds ι env h nx a w→Q .normal a w) :
  (Code.region id ops true).wpIn (Fr r) 0 P Q a w:=by
 refine wpIn_region_any hm ?_;unfold oE at hl;have H:=I.heap.drawn (w.drawn+1);have hb:gD B w { w with drawn:=w.drawn+1 }:=⟨rfl,rfl,rfl,Nat.le_refl _,fun _ _=>rfl,Nat.le_succ _⟩;have hsub:∀ k o,look (GJ T ops.toList env p h) k=some o→look h k=some o:=fun k o hk=>XO k o hk;obtain⟨vals,env1,ι,nx,k1,hi,hn,k2,k3,k4,k5⟩:=M8 hT hC hD hp.plain p.head env a ι nx (H.sub hsub) hl I.env I.size;have X:Ctx P T C Y ops p B w0 ιb nxb tn ds ι nx h (GJ T ops.toList env p h) a { w with drawn:=w.drawn+1 } vals env1 K :=
  ⟨hT,hC,hY,hp,fun k hk=>(hi k (Nat.lt_of_lt_of_le hk I.le)).trans (I.old k hk),Nat.le_trans I.le hn,I.size,I.defers,H.wide hi hn,I.below.trans hb,hsub,k2,k3,k4,k5,k1⟩
 have hno:∀ i,¬ vW (Array.replicate ops.size false) i:=by
  intro i;unfold vW;by_cases h:i<ops.size <;> simp [h]
 refine O4 X r hQ ops.size _ a _ (by simp) ?_ (fun i hi=>absurd hi (hno i)) (.inl ?_)
 ·unfold left;exact Nat.le_trans (List.length_filter_le _ _) (by simp)
 ·refine⟨fun t _=>hno t,gD.refl _ _,jG ops ι vals a,fun _=>0,?_,fun d _=>rfl,fun i _ hi=>absurd hi (hno i),fun i _ j _ hi=>absurd hi (hno i)⟩;have hmem:∀ i v,(i,v)∈vals→i∈p.head:=fun i v h=>(by rw [← k2];exact List.mem_map.2 ⟨_,h,rfl⟩);have hnd:(vals.map (·.1)).Nodup:=by
   have:=hp.nodup;unfold eR.order at this;rw [List.append_assoc,List.nodup_append] at this;rw [k2];exact this.1
  refine⟨I.size,by rw [sI];exact I.size,I.defers,by rw [vJ];exact I.defers,fun i v d hi hd=>?_,fun d hd=>?_,fun d hd=>?_,fun i d _ _ _=>rfl⟩
  ·exact rY vals a (by rw [I.size];exact k4 _ hi d hd) hi hd (fun q hq h2=>hp.dsts _ _ d (lO h2) (lO hd) h2 hd) hnd
  ·rw [j4];intro q hq hqd;exact hno q.1 (hd q.1 (hmem q.1 q.2 hq) hqd)
  ·rw [j4];intro q hq;exact hd q.1 (.inl (hmem q.1 q.2 hq))
end
def uP {α:Type}(E:(α→Prop)→Prop):Prop:=∀ K,E K→∃ x,K x∧∀ K':α→Prop,K' x→E K'
def eS (E:KE→Prop):Prop:=∀ K:KE,E K→∃ v h nx,K v h nx∧∀ K':KE,K' v h nx→E K'
def kR (E:KS→Prop):Prop:=∀ K:KS,E K→∃ e h nx,K e h nx∧∀ K':KS,K' e h nx→E K'
theorem aFw {b:Bool}{A B:Unit→Prop}:br b A B↔((b=true∧A ())∨(b=false∧B ())):=by
 cases b <;> simp [br]
variable {A:Ar}{T:cH}{h:Heap}{nx:Nat}
theorem jF {α:Type}{x:Option Value}{F:Value→(α→Prop)→Prop}(hF:∀ v,uP (F v)):uP (fun K=>on x (fun v=>F v K)):=by
 intro K hl;cases x with
 |none=>exact hl.elim
 |some v=>exact hF v K hl
theorem iR {x:Option Value}{F:Value→KE→Prop}(hF:∀ v,eS (F v)):eS (fun K=>on x (fun v=>F v K)):=by
 intro K hl;cases x with
 |none=>exact hl.elim
 |some v=>exact hF v K hl
theorem uG {x:Option Value}:uP (on x):=by
 intro K hl;cases x with
 |none=>exact hl.elim
 |some v=>exact⟨v,hl,fun K' h=>h⟩
theorem H3 {t:TypeId}{x:Value}:uP (rS T h t x):=by
 intro K hl;unfold rS at *
 repeat' (split at hl)
 all_goals first|(exact hl.elim)|(exact⟨_,hl,fun K' h=>h⟩)|(exact⟨_,_,_,hl,fun K' h=>h⟩)|(obtain⟨hb,hl⟩:=aF.1 hl;exact⟨_,hl,fun K' h=>aJ hb h⟩)|(obtain⟨hb,hl⟩:=aF.1 hl;exact⟨_,_,_,hl,fun K' h=>aJ hb h⟩)
theorem D6 {t:TypeId}{x:Value}{f:Nat}:uP (iD T t x f):=by
 intro K hl;unfold iD at *
 repeat' (split at hl)
 all_goals first|(exact hl.elim)|(exact⟨_,hl,fun K' h=>h⟩)|(exact⟨_,_,_,hl,fun K' h=>h⟩)|(obtain⟨hb,hl⟩:=aF.1 hl;exact⟨_,hl,fun K' h=>aJ hb h⟩)|(obtain⟨hb,hl⟩:=aF.1 hl;exact⟨_,_,_,hl,fun K' h=>aJ hb h⟩)
theorem ND {α:Type}{b:Bool}{E:(α→Prop)→Prop}(h:uP E):uP (fun K=>dE b (E K)):=by
 intro K hl;obtain⟨hb,hl⟩:=aF.1 hl;obtain⟨x,h1,h2⟩:=h K hl;exact⟨x,h1,fun K' hk=>aJ hb (h2 K' hk)⟩
theorem fL {b:Bool}{E:KE→Prop}(h:eS E):eS (fun K=>dE b (E K)):=by
 intro K hl;obtain⟨hb,hl⟩:=aF.1 hl;obtain⟨x,y,z,h1,h2⟩:=h K hl;exact⟨x,y,z,h1,fun K' hk=>aJ hb (h2 K' hk)⟩
theorem yN {α:Type}{x:α}:uP (fun K:α→Prop=>K x):=fun K hl=>⟨x,hl,fun K' h=>h⟩
theorem cG {v:Value}{h:Heap}{nx:Nat}:eS (fun K=>K v h nx):=fun K hl=>⟨v,h,nx,hl,fun K' h=>h⟩
theorem WO {α:Type}:uP (fun _:α→Prop=>False):=fun K hl=>hl.elim
theorem eY:eS (fun _=>False):=fun K hl=>hl.elim
theorem aEv {α:Type}{b:Bool}{E F:(α→Prop)→Prop}(hE:uP E)(hF:uP F):uP (fun K=>br b (fun _=>E K) (fun _=>F K)):=by
 intro K hl;cases b
 ·exact hF K hl
 ·exact hE K hl
theorem xH {b:Bool}{E F:KE→Prop}(hE:eS E)(hF:eS F):eS (fun K=>br b (fun _=>E K) (fun _=>F K)):=by
 intro K hl;cases b
 ·exact hF K hl
 ·exact hE K hl
theorem DO {t:TypeId}{x i:Value}:uP (gW A T t x i):=by
 intro K hl;unfold gW at *
 repeat' (split at hl)
 all_goals first|(exact hl.elim)|(exact⟨_,hl,fun K' h=>h⟩)|(exact⟨_,_,_,hl,fun K' h=>h⟩)|(obtain⟨hb,hl⟩:=aF.1 hl;exact⟨_,hl,fun K' h=>aJ hb h⟩)|(obtain⟨hb,hl⟩:=aF.1 hl;exact⟨_,_,_,hl,fun K' h=>aJ hb h⟩)
theorem aAj {op:BinOp}{k:IntKind}{a b:Int}:uP (WG A op k a b):=by
 intro K hl;unfold WG at *
 repeat' (split at hl)
 all_goals first|(exact hl.elim)|(exact⟨_,hl,fun K' h=>h⟩)|(exact⟨_,_,_,hl,fun K' h=>h⟩)|(obtain⟨hb,hl⟩:=aF.1 hl;exact⟨_,hl,fun K' h=>aJ hb h⟩)|(obtain⟨hb,hl⟩:=aF.1 hl;exact⟨_,_,_,hl,fun K' h=>aJ hb h⟩)
theorem H4 {t:TypeId}{cs:List Value}{o:Nat}:uP (A9 T t cs o):=by
 intro K hl;unfold A9 at *
 repeat' (split at hl)
 all_goals first|(exact hl.elim)|(exact⟨_,hl,fun K' h=>h⟩)|(exact⟨_,_,_,hl,fun K' h=>h⟩)|(obtain⟨hb,hl⟩:=aF.1 hl;exact⟨_,hl,fun K' h=>aJ hb h⟩)|(obtain⟨hb,hl⟩:=aF.1 hl;exact⟨_,_,_,hl,fun K' h=>aJ hb h⟩)
theorem P8 {t:TypeId}{x:Value}{f:Nat}:uP (tE T t x f):=by
 intro K hl;unfold tE at *
 repeat' (split at hl)
 all_goals first|(exact H4 K hl)|(exact hl.elim)|(exact⟨_,hl,fun K' h=>h⟩)|(exact⟨_,_,_,hl,fun K' h=>h⟩)|(obtain⟨hb,hl⟩:=aF.1 hl;exact⟨_,hl,fun K' h=>aJ hb h⟩)|(obtain⟨hb,hl⟩:=aF.1 hl;exact⟨_,_,_,hl,fun K' h=>aJ hb h⟩)
theorem QU {t:TypeId}{x i:Value}:uP (sP A T t x i):=by
 intro K hl;unfold sP at *
 repeat' (split at hl)
 all_goals first|(exact ND H4 K hl)|(exact hl.elim)|(exact⟨_,hl,fun K' h=>h⟩)|(exact⟨_,_,_,hl,fun K' h=>h⟩)|(obtain⟨hb,hl⟩:=aF.1 hl;exact⟨_,hl,fun K' h=>aJ hb h⟩)|(obtain⟨hb,hl⟩:=aF.1 hl;exact⟨_,_,_,hl,fun K' h=>aJ hb h⟩)
theorem YD {op:BinOp}{t:TypeId}{x y:Value}:uP (QD A T op t x y):=by
 intro K hl;unfold QD at *
 repeat' (split at hl)
 all_goals first|(exact hl.elim)|(exact⟨_,hl,fun K' h=>h⟩)|(exact⟨_,_,_,hl,fun K' h=>h⟩)|(obtain⟨hb,hl⟩:=aF.1 hl;exact⟨_,hl,fun K' h=>aJ hb h⟩)|(obtain⟨hb,hl⟩:=aF.1 hl;exact⟨_,_,_,hl,fun K' h=>aJ hb h⟩)|(exact aAj K hl)
theorem aCp {op:UnOp}{x:Value}:uP (vun A op x):=by
 intro K hl;unfold vun at *
 repeat' (split at hl)
 all_goals first|(exact hl.elim)|(exact⟨_,hl,fun K' h=>h⟩)|(exact⟨_,_,_,hl,fun K' h=>h⟩)|(obtain⟨hb,hl⟩:=aF.1 hl;exact⟨_,hl,fun K' h=>aJ hb h⟩)|(obtain⟨hb,hl⟩:=aF.1 hl;exact⟨_,_,_,hl,fun K' h=>aJ hb h⟩)
theorem QR {t:TypeId}{ps:List (Nat × Value)}:uP (wI T t ps):=by
 intro K hl;unfold wI at *
 repeat' (split at hl)
 all_goals first|(exact hl.elim)|(exact⟨_,hl,fun K' h=>h⟩)|(exact⟨_,_,_,hl,fun K' h=>h⟩)|(obtain⟨hb,hl⟩:=aF.1 hl;exact⟨_,hl,fun K' h=>aJ hb h⟩)|(obtain⟨hb,hl⟩:=aF.1 hl;exact⟨_,_,_,hl,fun K' h=>aJ hb h⟩)
theorem J7 {b:Builtin}{ts:Array TypeId}{vs:List Value}:uP (mY A T b ts vs):=by
 intro K hl;unfold mY at *
 repeat' (split at hl)
 all_goals first|(exact hl.elim)|(exact⟨_,hl,fun K' h=>h⟩)|(exact⟨_,_,_,hl,fun K' h=>h⟩)|(obtain⟨hb,hl⟩:=aF.1 hl;exact⟨_,hl,fun K' h=>aJ hb h⟩)|(obtain⟨hb,hl⟩:=aF.1 hl;exact⟨_,_,_,hl,fun K' h=>aJ hb h⟩)|(exact uG K hl)
theorem ZW {op:BinOp}{t:TypeId}{x:Value}:uP (OW T h op t x):=by
 intro K hl;unfold OW at *
 repeat' (split at hl)
 all_goals first|(exact hl.elim)|(exact⟨_,hl,fun K' h=>h⟩)
theorem HR {env:List (Nat × Value)}{op:Op}:uP (jA A T env h op):=by
 show uP (fun K=>jA A T env h op K);cases op <;> simp only [jA]
 case move x=>exact uG
 case assign x=>exact uG
 case pick c a b =>
  refine jF fun u=>?_;intro K hl;split at hl
  ·exact aEv uG uG K hl
  ·exact hl.elim
 case nilCheck x =>
  refine jF fun u=>?_;intro K hl;split at hl
  all_goals first|(exact hl.elim)|(exact⟨_,hl,fun K' h=>h⟩)
 case load t x=>exact jF fun u=>H3
 case fieldAddr s x f=>exact jF fun u=>D6
 case field s x f=>exact jF fun u=>P8
 case indexAddr t x i=>exact jF fun u=>jF fun j=>DO
 case index t x i=>exact jF fun u=>jF fun j=>QU
 case binOp op t x y yt =>
  refine jF fun u=>jF fun v=>?_;intro K hl;split at hl
  ·exact ZW K hl
  ·exact YD K hl
 case unOp op t x=>exact jF fun u=>aCp
 case convert s d x =>
  refine jF fun u=>?_;intro K hl;split at hl
  ·exact ND yN K hl
  ·exact hl.elim
 case makeFunc fn first cap =>
  intro K hl
  repeat' (split at hl)
  all_goals first|(exact hl.elim)|(exact⟨_,hl,fun K' h=>h⟩)
 case extract x i =>
  refine jF fun u=>?_;intro K hl;split at hl
  ·exact uG K hl
  ·exact hl.elim
 case build t ps =>
  intro K hl;split at hl
  ·exact QR K hl
  ·exact hl.elim
 case call c =>
  intro K hl;split at hl
  ·split at hl
   ·exact J7 K hl
   ·exact hl.elim
  ·exact hl.elim
 all_goals exact WO
theorem UI {E:(Value→Prop)→Prop}(hE:uP E):eS (fun K=>E (fun v=>K v h nx)):=by
 intro K hl;obtain⟨v,h1,h2⟩:=hE _ hl;exact⟨v,h,nx,h1,fun K' hk=>h2 _ hk⟩
theorem QC {t:TypeId}{x v:Value}:eS (m8 T h nx t x v):=by
 intro K hl;unfold m8 at *
 repeat' (split at hl)
 all_goals first|(exact hl.elim)|(exact⟨_,hl,fun K' h=>h⟩)|(exact⟨_,_,_,hl,fun K' h=>h⟩)|(obtain⟨hb,hl⟩:=aF.1 hl;exact⟨_,hl,fun K' h=>aJ hb h⟩)|(obtain⟨hb,hl⟩:=aF.1 hl;exact⟨_,_,_,hl,fun K' h=>aJ hb h⟩)
theorem RL {t:TypeId}:eS (v9 T h nx t):=by
 intro K hl;unfold v9 at *
 repeat' (split at hl)
 all_goals first|(exact hl.elim)|(exact⟨_,hl,fun K' h=>h⟩)|(exact⟨_,_,_,hl,fun K' h=>h⟩)|(obtain⟨hb,hl⟩:=aF.1 hl;exact⟨_,hl,fun K' h=>aJ hb h⟩)|(obtain⟨hb,hl⟩:=aF.1 hl;exact⟨_,_,_,hl,fun K' h=>aJ hb h⟩)
theorem YF {v:Value}:eS (RC h nx v):=by
 intro K hl;unfold RC at *
 repeat' (split at hl)
 all_goals first|(exact hl.elim)|(exact⟨_,hl,fun K' h=>h⟩)|(exact⟨_,_,_,hl,fun K' h=>h⟩)|(obtain⟨hb,hl⟩:=aF.1 hl;exact⟨_,hl,fun K' h=>aJ hb h⟩)|(obtain⟨hb,hl⟩:=aF.1 hl;exact⟨_,_,_,hl,fun K' h=>aJ hb h⟩)
theorem B2 {t:TypeId}{n:Nat}{ps:List (Nat × Value)}:eS (dV T h nx t n ps):=by
 intro K hl;unfold dV at *
 repeat' (split at hl)
 all_goals first|(exact hl.elim)|(exact⟨_,hl,fun K' h=>h⟩)|(exact⟨_,_,_,hl,fun K' h=>h⟩)|(obtain⟨hb,hl⟩:=aF.1 hl;exact⟨_,hl,fun K' h=>aJ hb h⟩)|(obtain⟨hb,hl⟩:=aF.1 hl;exact⟨_,_,_,hl,fun K' h=>aJ hb h⟩)
theorem OQ {t:TypeId}{x:Value}:eS (wO T h nx t x):=by
 intro K hl;unfold wO at *
 repeat' (split at hl)
 all_goals first|(exact hl.elim)|(exact⟨_,hl,fun K' h=>h⟩)|(exact⟨_,_,_,hl,fun K' h=>h⟩)|(obtain⟨hb,hl⟩:=aF.1 hl;exact⟨_,hl,fun K' h=>aJ hb h⟩)|(obtain⟨hb,hl⟩:=aF.1 hl;exact⟨_,_,_,hl,fun K' h=>aJ hb h⟩)
theorem DN {t:TypeId}{x k v:Value}:eS (jT A T h nx t x k v):=by
 intro K hl;unfold jT at *
 repeat' (split at hl)
 all_goals first|(exact hl.elim)|(exact⟨_,hl,fun K' h=>h⟩)|(exact⟨_,_,_,hl,fun K' h=>h⟩)|(obtain⟨hb,hl⟩:=aF.1 hl;exact⟨_,hl,fun K' h=>aJ hb h⟩)|(obtain⟨hb,hl⟩:=aF.1 hl;exact⟨_,_,_,hl,fun K' h=>aJ hb h⟩)
theorem AV {t:TypeId}{x k:Value}{ok:Bool}:uP (oH A T h t x k ok):=by
 intro K hl;unfold oH at *
 repeat' (split at hl)
 all_goals first|(exact hl.elim)|(exact⟨_,hl,fun K' h=>h⟩)|(exact⟨_,_,_,hl,fun K' h=>h⟩)|(obtain⟨hb,hl⟩:=aF.1 hl;exact⟨_,hl,fun K' h=>aJ hb h⟩)|(obtain⟨hb,hl⟩:=aF.1 hl;exact⟨_,_,_,hl,fun K' h=>aJ hb h⟩)
theorem aA7 {n c:Nat}{hi:Option Value}{G:Nat→KE→Prop}(hG:∀ m,eS (G m)):eS (fun K=>vhi A n c hi fun m=>G m K):=by
 intro K hl;unfold vhi at *;split at hl
 ·exact hG _ K hl
 ·exact fL (hG _) K hl
 ·exact hl.elim
theorem FX {t:TypeId}{x:Value}{lo hi mx:Option Value}:eS (sN A T h nx t x lo hi mx):=by
 intro K hl;unfold sN at *;split at hl
 case h_2=>exact hl.elim
 split at hl
 ·exact hl.elim
 split at hl
 ·split at hl
  ·exact cG K hl
  ·exact hl.elim
 ·refine aA7 (fun m=>?_) K hl;intro K hl;split at hl
  ·exact cG K hl
  ·refine fL ?_ K hl;intro K hl;split at hl
   ·exact xH cG cG K hl
   ·exact hl.elim
  ·exact hl.elim
 ·split at hl
  ·exact cG K hl
  ·exact hl.elim
 ·split at hl
  ·exact fL cG K hl
  ·exact fL cG K hl
  ·exact hl.elim
 ·exact hl.elim
theorem U4 {sz:Nat}{x:Value}{G:Nat→List Value→KE→Prop}(hG:∀ m l,eS (G m l)):eS (fun K=>GM h sz x fun m l=>G m l K):=by
 intro K hl;unfold GM at *;split at hl
 ·exact hG _ _ K hl
 ·split at hl
  ·exact fL (hG _ _) K hl
  ·split at hl
   ·exact hG _ _ K hl
   ·exact hl.elim
  ·split at hl
   ·exact hG _ _ K hl
   ·exact hl.elim
  ·exact hl.elim
 ·exact hl.elim
theorem E6 {t:TypeId}{l c:Value}:eS (jU A T h nx t l c):=by
 intro K hl;unfold jU at *;split at hl
 case h_2=>exact hl.elim
 split at hl
 case h_2=>exact hl.elim
 exact fL cG K hl
theorem LR {st xt:TypeId}{s x:Value}:eS (lA A T h nx st xt s x):=by
 intro K hl;unfold lA at *;split at hl
 case h_3=>exact hl.elim
 case h_1 =>
  split at hl
  case h_2=>exact hl.elim
  split at hl
  case h_2=>exact hl.elim
  exact fL cG K hl
 split at hl
 ·exact hl.elim
 split at hl
 ·exact hl.elim
 refine U4 (fun m l=>?_) K hl;intro K hl;split at hl
 ·exact xH cG (fL cG) K hl
 ·split at hl
  ·split at hl
   ·exact xH cG (fL cG) K hl
   ·exact hl.elim
  ·exact xH (fL cG) (fL cG) K hl
  ·exact hl.elim
 ·exact hl.elim
variable {A:Ar}{T:cH}{C:VC}{Y:VY}
theorem CU (hC:dY C)(hY:dY Y){env:List (Nat × Value)}{h:Heap}{nx:Nat}{op:Op}:eS (pK A T C Y env h nx op):=by
 have hlook:eS (fun K=>jA A T env h op (fun v=>K v h nx)):=UI HR;show eS (fun K=>pK A T C Y env h nx op K);cases op
 case store t x y=>exact iR fun p=>iR fun v=>QC
 case alloc t=>exact RL
 case box t x=>exact iR fun v=>YF
 case buildSlice t n ps =>
  simp only [pK];intro K hl;split at hl
  ·exact B2 K hl
  ·exact hl.elim
 case slice t x lo hi mx =>
  simp only [pK];refine iR fun v=>?_;intro K hl;split at hl
  ·exact FX K hl
  ·exact hl.elim
 case makeSlice t l c =>
  simp only [pK];exact iR fun x=>iR fun y=>E6
 case makeMap t r =>
  cases r with
  |none=>exact cG
  |some r=>exact hlook
 case lookup t m k ok=>exact iR fun x=>iR fun y=>UI AV
 case mapUpdate t m k u=>exact iR fun x=>iR fun y=>iR fun v=>DN
 case call c =>
  obtain⟨cal,args,ats⟩:=c;cases cal with
  |invoke r m=>exact eY
  |builtin b =>
   cases b
   case append =>
    simp only [pK];intro K hl;split at hl
    ·exact LR K hl
    ·exact hl.elim
   case clear =>
    simp only [pK];intro K hl;split at hl
    ·exact OQ K hl
    ·exact hl.elim
   all_goals exact hlook
  |value f =>
   simp only [pK];refine iR fun fv=>?_;intro K hl;split at hl
   ·split at hl
    ·split at hl
     ·exact hC _ _ _ _ K hl
     ·exact hl.elim
    ·split at hl
     ·exact hY _ _ _ _ K hl
     ·exact hl.elim
    ·exact hl.elim
   ·exact hl.elim
 all_goals exact hlook
theorem zC {ops:List Oper}{env:List (Nat × Value)}{g:Option (Nat × Bool)}:(∃ e,∀ Yk N,fM A ops env g Yk N=Yk e)∨(∃ e,∀ Yk N,fM A ops env g Yk N=N e)∨(∀ Yk N,fM A ops env g Yk N=False):=by
 unfold fM;cases g with
 |none=>exact .inl ⟨env,fun _ _=>rfl⟩
 |some gw =>
  obtain⟨j,want⟩:=gw;simp only;cases fC ops j with
  |none=>exact .inr (.inr fun _ _=>rfl)
  |some o =>
   simp only;cases o.dst with
   |none=>exact .inr (.inr fun _ _=>rfl)
   |some t =>
    simp only;cases look env t with
    |none=>exact .inr (.inr fun _ _=>rfl)
    |some v =>
     cases v with
     |tuple vs=>exact .inr (.inl ⟨env,fun _ _=>rfl⟩)
     |bool b =>
      simp only;cases A.eqB b want with
      |true=>exact .inl ⟨_,fun _ _=>rfl⟩
      |false=>exact .inr (.inl ⟨_,fun _ _=>rfl⟩)
     |_=>exact .inr (.inr fun _ _=>rfl)
theorem DI {tn:Nat}{env:List (Nat × Value)}{dst:Option Nat}{v:Value}:(∃ e,∀ K,eF tn env dst v K=K e)∨(∀ K,eF tn env dst v K=False):=by
 unfold eF;cases dst with
 |none=>exact .inl ⟨env,fun _=>rfl⟩
 |some d =>
  simp only;cases Nat.blt d tn with
  |true=>exact .inl ⟨_,fun _=>rfl⟩
  |false=>exact .inr fun _=>rfl
theorem mN {e:List (Nat × Value)}{h:Heap}{nx:Nat}:kR (fun K=>K e h nx):=fun K hl=>⟨e,h,nx,hl,fun K' h=>h⟩
theorem wP:kR (fun _=>False):=fun K hl=>hl.elim
theorem vR {ops:List Oper}{env:List (Nat × Value)}{g:Option (Nat × Bool)}{F G:List (Nat × Value)→KS→Prop}(hF:∀ e,kR (F e))(hG:∀ e,kR (G e)):kR (fun K=>fM A ops env g (fun e=>F e K) (fun e=>G e K)):=by
 rcases zC (A:=A) (ops:=ops) (env:=env) (g:=g) with ⟨e,h⟩|⟨e,h⟩|h
 ·simp only [h];exact hF e
 ·simp only [h];exact hG e
 ·simp only [h];exact wP
theorem nJ {tn:Nat}{env:List (Nat × Value)}{dst:Option Nat}{v:Value}{F:List (Nat × Value)→KS→Prop}(hF:∀ e,kR (F e)):kR (fun K=>eF tn env dst v (fun e=>F e K)):=by
 rcases DI (tn:=tn) (env:=env) (dst:=dst) (v:=v) with ⟨e,h⟩|h
 ·simp only [h];exact hF e
 ·simp only [h];exact wP
theorem AK {E:KE→Prop}{F:Value→Heap→Nat→KS→Prop}(hE:eS E)(hF:∀ v h nx,kR (F v h nx)):kR (fun K=>E (fun v h nx=>F v h nx K)):=by
 intro K hl;obtain⟨v,h,nx,h1,h2⟩:=hE _ hl;obtain⟨e,h',nx',h3,h4⟩:=hF v h nx K h1;exact⟨e,h',nx',h3,fun K' hk=>h2 _ (h4 K' hk)⟩
theorem RJ {E:KS→Prop}{F:List (Nat × Value)→Heap→Nat→KS→Prop}(hE:kR E)(hF:∀ v h nx,kR (F v h nx)):kR (fun K=>E (fun v h nx=>F v h nx K)):=by
 intro K hl;obtain⟨v,h,nx,h1,h2⟩:=hE _ hl;obtain⟨e,h',nx',h3,h4⟩:=hF v h nx K h1;exact⟨e,h',nx',h3,fun K' hk=>h2 _ (h4 K' hk)⟩
theorem V3 {b:Bool}{E:KS→Prop}(h:kR E):kR (fun K=>dE b (E K)):=by
 intro K hl;obtain⟨hb,hl⟩:=aF.1 hl;obtain⟨x,y,z,h1,h2⟩:=h K hl;exact⟨x,y,z,h1,fun K' hk=>aJ hb (h2 K' hk)⟩
theorem FF (hC:dY C)(hY:dY Y){tn:Nat}{ops:List Oper}:∀ (l:List Oper) (env:List (Nat × Value)) (h:Heap) (nx:Nat),kR (x6 A T C Y tn ops l env h nx)
 |[],env,h,nx=>mN
 |o::r,env,h,nx=>by
  show kR (fun K=>x6 A T C Y tn ops (o::r) env h nx K);simp only [HG]
  exact vR (F:=fun e K=>pK A T C Y e h nx o.op fun v h' nx'=>eF tn e o.dst v fun env'=>x6 A T C Y tn ops r env' h' nx' K) (G:=fun e K=>eF tn e o.dst undef fun env'=>x6 A T C Y tn ops r env' h nx K)
   (fun e=>AK (F:=fun v h' nx' K=>eF tn e o.dst v fun env'=>x6 A T C Y tn ops r env' h' nx' K) (CU hC hY) fun v h' nx'=>nJ (F:=fun env' K=>x6 A T C Y tn ops r env' h' nx' K) fun e'=>FF hC hY r e' h' nx')
   (fun e=>nJ (F:=fun env' K=>x6 A T C Y tn ops r env' h nx K) fun e'=>FF hC hY r e' h nx)
def qC {α:Type}(E:(α→Nat→Prop)→Prop):Prop:=∀ K,E K→∃ v n,K v n∧∀ K':α→Nat→Prop,K' v n→E K'
theorem RU {E:(Value→Prop)→Prop}{n:Nat}(hE:uP E):qC (fun K=>E (fun v=>K v n)):=by
 intro K hl;obtain⟨v,h1,h2⟩:=hE _ hl;exact⟨v,n,h1,fun K' hk=>h2 _ hk⟩
theorem CQ {x:Option Value}{F:Value→(Value→Nat→Prop)→Prop}(hF:∀ v,qC (F v)):qC (fun K=>on x (fun v=>F v K)):=by
 cases x with
 |none=>exact fun K hl=>hl.elim
 |some v=>exact hF v
theorem OV (hC:dY C){hJ:Heap}{nx:Nat}{env:List (Nat × Value)}{op:Op}:qC (gQ A T C hJ nx env op):=by
 have hlook:∀ hh op',qC (fun K=>jA A T env hh op' (fun v=>K v nx)):=fun _ _=>RU HR;show qC (fun K=>gQ A T C hJ nx env op K);cases op
 case load t x=>simp only [gQ];exact hlook hJ _
 case lookup t m k ok=>exact CQ fun x=>CQ fun y=>RU AV
 case slice t x lo hi mx =>
  simp only [gQ];refine CQ fun v=>?_;intro K hl;split at hl
  ·obtain⟨v,h',nx',h1,h2⟩:=FX _ hl;exact⟨v,nx',h1,fun K' hk=>h2 _ hk⟩
  ·exact hl.elim
 case call c =>
  obtain⟨cal,args,ats⟩:=c;cases cal with
  |invoke r m=>exact fun K hl=>hl.elim
  |builtin b=>simp only [gQ];exact hlook [] _
  |value f =>
   simp only [gQ];refine CQ fun fv=>?_;intro K hl;split at hl
   ·split at hl
    ·split at hl
     ·obtain⟨v,h',nx',h1,h2⟩:=hC _ _ _ _ _ hl;split at h1
      ·rename_i hb;exact⟨v,nx,h1,fun K' hk=>h2 _ (by rw [hb];exact hk)⟩
      ·exact h1.elim
     ·exact hl.elim
    ·exact hl.elim
   ·exact hl.elim
 all_goals (simp only [gQ];exact hlook [] _)
theorem EF {α β:Type}{E:(α→Prop)→Prop}{F:α→(β→Prop)→Prop}(hE:uP E)(hF:∀ v,uP (F v)):uP (fun K=>E (fun v=>F v K)):=by
 intro K hl;obtain⟨v,h1,h2⟩:=hE _ hl;obtain⟨e,h3,h4⟩:=hF v K h1;exact⟨e,h3,fun K' hk=>h2 _ (h4 K' hk)⟩
theorem vS {α:Type}:qC (fun _:α→Nat→Prop=>False):=fun _ hl=>hl.elim
theorem V5 {α:Type}{v:α}{n:Nat}:qC (fun K:α→Nat→Prop=>K v n):=fun _ hl=>⟨v,n,hl,fun _ h=>h⟩
theorem WB {α β:Type}{E:(α→Nat→Prop)→Prop}{F:α→Nat→(β→Nat→Prop)→Prop}(hE:qC E)(hF:∀ v n,qC (F v n)):qC (fun K=>E (fun v n=>F v n K)):=by
 intro K hl;obtain⟨v,n,h1,h2⟩:=hE _ hl;obtain⟨e,m,h3,h4⟩:=hF v n K h1;exact⟨e,m,h3,fun K' hk=>h2 _ (h4 K' hk)⟩
theorem Q4 {α:Type}{ops:List Oper}{env:List (Nat × Value)}{g:Option (Nat × Bool)}{F G:List (Nat × Value)→(α→Nat→Prop)→Prop}(hF:∀ e,qC (F e))(hG:∀ e,qC (G e)):qC (fun K=>fM A ops env g (fun e=>F e K) (fun e=>G e K)):=by
 rcases zC (A:=A) (ops:=ops) (env:=env) (g:=g) with ⟨e,h⟩|⟨e,h⟩|h
 ·simp only [h];exact hF e
 ·simp only [h];exact hG e
 ·simp only [h];exact vS
theorem MT {α:Type}{tn:Nat}{env:List (Nat × Value)}{dst:Option Nat}{v:Value}{F:List (Nat × Value)→(α→Nat→Prop)→Prop}(hF:∀ e,qC (F e)):qC (fun K=>eF tn env dst v (fun e=>F e K)):=by
 rcases DI (tn:=tn) (env:=env) (dst:=dst) (v:=v) with ⟨e,h⟩|h
 ·simp only [h];exact hF e
 ·simp only [h];exact vS
theorem AE (hC:dY C){tn:Nat}{ops:List Oper}{hJ:Heap}:∀ (l:List Nat) (env:List (Nat × Value)) (nx:Nat),qC (oB A T C tn ops hJ l env nx)
 |[],env,nx=>V5
 |i::r,env,nx=>by
  show qC (fun K=>oB A T C tn ops hJ (i::r) env nx K);simp only [wG];cases fC ops i with
  |none=>exact vS
  |some o =>
   exact Q4 (F:=fun e K=>gQ A T C hJ nx e o.op fun v nx'=>eF tn e o.dst v fun env=>oB A T C tn ops hJ r env nx' K) (G:=fun e K=>eF tn e o.dst undef fun env=>oB A T C tn ops hJ r env nx K)
    (fun e=>WB (F:=fun v n K=>eF tn e o.dst v fun env=>oB A T C tn ops hJ r env n K) (OV hC) fun v n=>MT (F:=fun env K=>oB A T C tn ops hJ r env n K) fun e'=>AE hC r e' n)
    (fun e=>MT (F:=fun env K=>oB A T C tn ops hJ r env nx K) fun e'=>AE hC r e' nx)
theorem PQ {E:(List (Nat × Value)→Nat→Prop)→Prop}{F:List (Nat × Value)→Nat→KS→Prop}(hE:qC E)(hF:∀ e n,kR (F e n)):kR (fun K=>E (fun e n=>F e n K)):=by
 intro K hl;obtain⟨e0,n0,h1,h2⟩:=hE _ hl;obtain⟨e,h,nx,h3,h4⟩:=hF e0 n0 K h1;exact⟨e,h,nx,h3,fun K' hk=>h2 _ (h4 K' hk)⟩
theorem BF {tn:Nat}{ops:List Oper}:∀ (l:List Nat) (env:List (Nat × Value)) (h:Heap) (nx:Nat),kR (kW T tn ops l env h nx)
 |[],env,h,nx=>mN
 |i::r,env,h,nx=>by
  intro K hl;simp only [mJ] at hl ⊢;split at hl
  ·split at hl
   ·exact nJ (F:=fun e K=>kW T tn ops r e _ _ K) (fun e=>BF r e _ _) K hl
   ·exact hl.elim
  ·exact hl.elim
theorem zO (hC:dY C)(hY:dY Y){tn:Nat}{ops:List Oper}{hJ:Heap}:∀ (l:List (Nat × Bool)) (env:List (Nat × Value)) (h:Heap) (nx:Nat),kR (jX A T C Y tn ops hJ l env h nx)
 |[],env,h,nx=>mN
 |(i,chk)::r,env,h,nx=>by
  show kR (fun K=>jX A T C Y tn ops hJ ((i,chk)::r) env h nx K);simp only [vN];cases fC ops i with
  |none=>exact wP
  |some o =>
   exact vR (F:=fun e K=>dE (y7 e hJ chk o.op) (pK A T C Y e h nx o.op fun v h' nx'=>eF tn e o.dst v fun env'=>jX A T C Y tn ops hJ r env' h' nx' K)) (G:=fun e K=>eF tn e o.dst undef fun env'=>jX A T C Y tn ops hJ r env' h nx K)
    (fun e=>V3 (AK (F:=fun v h' nx' K=>eF tn e o.dst v fun env'=>jX A T C Y tn ops hJ r env' h' nx' K) (CU hC hY) fun v h' nx'=>nJ (F:=fun env' K=>jX A T C Y tn ops hJ r env' h' nx' K) fun e'=>zO hC hY r e' h' nx'))
    (fun e=>nJ (F:=fun env' K=>jX A T C Y tn ops hJ r env' h nx K) fun e'=>zO hC hY r e' h nx)
theorem N1 (hC:dY C)(hY:dY Y){tn:Nat}{ops:List Oper}{p:eR}{env:List (Nat × Value)}{h:Heap}{nx:Nat}:kR (oE A T C Y tn ops p env h nx):=by
 show kR (fun K=>oE A T C Y tn ops p env h nx K);unfold oE;exact PQ (F:=fun e n K=>kW T tn ops p.allocs e h n fun env2 h2 nx2=>jX A T C Y tn ops (GJ T ops env p h) p.tail env2 h2 nx2 K) (AE hC p.head env nx) fun e n =>
  RJ (F:=fun env2 h2 nx2 K=>jX A T C Y tn ops (GJ T ops env p h) p.tail env2 h2 nx2 K) (BF p.allocs e h n) fun e2 h2 nx2=>zO hC hY p.tail e2 h2 nx2
end Go.Aw
end
