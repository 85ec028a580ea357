/-
  Parts of a proof. No condition.
-/
import Derived.Test.YticajjhjehljpaaGreatQAf
set_option linter.unusedSimpArgs false
set_option linter.unusedVariables false
noncomputable section
namespace Go.Aw
open Go.RowKit
section
variable {P:Program}{T:cF}{C:VC}{Y:VY}{ops:Array Oper}{p:eM}
theorem aO.sub {ι:Nat→Loc}{B nx:Nat}{h h':Heap}{w:World}(H:aO ι B h nx w)(hs:∀ k o,look h' k=some o→look h k=some o):aO ι B h' nx w :=
 ⟨fun k o hk=>H.obj k o (hs k o hk),fun k k' o o' h1 h2=>H.sep k k' o o' (hs _ _ h1) (hs _ _ h2),fun k o hk=>H.low k o (hs k o hk),H.size,fun k o hk=>H.sc k o (hs k o hk)⟩
theorem aO.back {ι ι0:Nat→Loc}{B nx nx0:Nat}{h hJ:Heap}{w wS:World}(H:aO ι B h nx w)(HS:aO ι0 B hJ nx0 wS)(hs:∀ k o,look hJ k=some o→look h k=some o)(hi:∀ k,k<nx0→ι k=ι0 k):aO ι0 B hJ nx0 w:=by
 refine⟨fun k o hk=>?_,HS.sep,HS.low,H.size,HS.sc⟩;have h1:=H.obj k o (hs k o hk);have h2:SK ι nx0 o:=(HS.sc k o hk).mono (Nat.le_refl _) hi;have h3:=h1.names h2 (ι':=ι0) (fun j hj=>(hi j hj).symm)
 rwa [hi k (HS.low k o hk)] at h3
theorem W5 {o:Oper}{a b:Act}{w:World}{u:Value}(hr:aCX P (execOp b.eval o) w u)(he:execOp a.eval o=execOp b.eval o)(hd:∀ c,o.op≠.defer c)(r:Option Nat)(next:Act→World→Prop)(Q:Exit→Act→World→Prop)
  (hn:∀ w',fQ w.heap.size w w'→next (a.put o.dst u) w'):o.wpIn (Fr r) 0 P a w next Q:=by
 refine⟨fun _ _=>trivial,?_⟩;rw [semAt_eq hd,he];rcases hr with h|⟨f,args,h,hc⟩
 ·rw [h];exact hn w (fQ.refl _ _)
 ·rw [h];refine⟨fun hdep=>absurd hdep (by simp [Fr,Fence.wide]),?_⟩;refine CallsIn.mono (F:=Fence.wide) hc fun e w' hret=>?_;obtain⟨rfl,hb⟩:=hret;exact hn w' hb
def TG (T:cF)(ops:Array Oper)(wS:World)(i b:Nat)(a:Act)(w:World):Prop :=
 wS.heap.size≤b∧∃ o t d ti,eO ops.toList i=some o∧o.op=.alloc t∧o.dst=some d∧look T t=some ti∧w.heap[b]? = some (.cells ti.zv.cells t (0,0))∧a.tmps[d]? = some (.pointer (some ⟨b,0,none⟩))
theorem uF {tn:Nat}{l:List Oper}{K:KS}:∀ {al:List Nat} {env:List (Nat × Value)} {h:Heap} {nx:Nat},kS T tn l al env h nx K →
  ∀ i∈al,∃ o t d ti,eO l i=some o∧o.op=.alloc t∧o.dst=some d∧d<tn∧look T t=some ti
 |[],_,_,_,_,i,hi=>by cases hi
 |j::r,env,h,nx,hl,i,hi=>by
  simp only [lN] at hl;split at hl
  case h_2=>exact hl.elim
  rename_i d t ty pos after gd ho;split at hl
  case h_2=>exact hl.elim
  rename_i ti hti;have hd:=I4 hl d rfl;rcases List.mem_cons.1 hi with rfl|hi
  ·exact⟨_,t,d,ti,ho,rfl,rfl,hd,hti⟩
  ·simp only [dZ] at hl;split at hl
   ·exact uF hl i hi
   ·exact hl.elim
theorem cT.congr {ι:Nat→Loc}{n:Nat}{env:List (Nat × Value)}{a a':Act}(he:cT ι n env a)(h:∀ d:Nat,a.tmps[d]? = a'.tmps[d]?):cT ι n env a':=fun t v hv=>by
 rw [← h t];exact he t v hv
theorem EX (hT:cA P T){tn B:Nat}{wS w:World}(hB:B≤wS.heap.size){K:KS}{a':Act}{bs:Nat→Nat}:∀ (al:List Nat) (ι:Nat→Loc) (env:List (Nat × Value)) (h:Heap) (nx:Nat) (a:Act),
  kS T tn ops.toList al env h nx K→cT ι nx env a→a.tmps.size=tn→aO ι B h nx w→(∀ i∈al,TG T ops wS i (bs i) a' w)→al.Nodup→(∀ i∈al,∀ j∈al,bs i=bs j→i=j) →
  (∀ k o b,look h k=some o→(ι k).BM=some b→∀ i∈al,b≠bs i)→(∀ d,(∀ i∈al,bU ops.toList i≠some d)→a.tmps[d]? = a'.tmps[d]?) →
  ∃ ι' env' h' nx',K env' h' nx'∧cT ι' nx' env' a'∧aO ι' B h' nx' w∧(∀ k,k<nx→ι' k=ι k)∧nx≤nx'∧∀ k,k<nx→look h' k=look h k
 |[],ι,env,h,nx,a,hl,he,hs,H,hal,hnd,hinj,hsep,hd=>⟨ι,env,h,nx,hl,he.congr (fun d=>hd d (by simp)),H,fun _ _=>rfl,Nat.le_refl _,fun _ _=>rfl⟩
 |i::r,ι,env,h,nx,a,hl,he,hs,H,hal,hnd,hinj,hsep,hd=>by
  simp only [lN] at hl;split at hl
  case h_2=>exact hl.elim
  rename_i d t ty pos after gd ho;split at hl
  case h_2=>exact hl.elim
  rename_i ti hti;obtain⟨hb,o',t',d',ti',h1,h2,h3,h4,h5,h6⟩:=hal i (by simp);rw [ho] at h1;injection h1 with h1;subst h1;simp only at h2 h3;injection h2 with h2;injection h3 with h3;subst h2;subst h3;rw [hti] at h4;injection h4 with h4;subst h4;have hz:=o7 hT hti;have hdi:bU ops.toList i=some d:=(by simp [bU,ho]);have hadd:=H.add (.cells true false 1 ti.zv.cells.toList) (.lay (bs i) 0 0) (by
   refine⟨Nat.le_trans hB hb,by simp,ti.zv.cells,t,h5,by simp,fun j v hv=>?_⟩;rw [Nat.zero_add,← Array.getElem?_toList,hv,mT (hz v (List.mem_of_getElem? hv))]) (fun v hv=>cD (hz v hv)) (by
   intro k o' hk _ b hb' e;have:bs i=b:=(by simpa [Loc.BM] using hb');exact hsep k o' b hk e i (by simp) this.symm)
  have hsc:eG (ins ι nx (.lay (bs i) 0 0)) (nx+1) (.pointer (some ⟨nx,0,none⟩)):=(by simp [eG,j0,fV,mW,bC,Loc.gC]);obtain⟨env',k1,k2,k3,_⟩:=nG (he.names (ι':=ins ι nx (.lay (bs i) 0 0)) (m:=nx+1) (by omega) (fun k hk=>bY _ _ hk)) hs hl hsc;have htr:tr (ins ι nx (.lay (bs i) 0 0)) (.pointer (some ⟨nx,0,none⟩))=.pointer (some ⟨bs i,0,none⟩):=(by simp [eS,bC]);rw [htr] at k2 k3;rw [List.nodup_cons] at hnd;obtain⟨ι',env2,h2,nx2,q1,q2,q3,q4,q5,q6⟩:=EX hT hB r _ env' _ (nx+1) _ k1 k2 k3 hadd (fun j hj=>hal j (by simp [hj])) hnd.2 (fun x hx y hy=>hinj x (by simp [hx]) y (by simp [hy])) (by
   intro k o' b hk hkb j hj e;rw [kA] at hk;by_cases hkn:k=nx
   ·subst hkn;rw [bC] at hkb;have:bs i=b:=(by simpa [Loc.BM] using hkb);have:=hinj i (by simp) j (by simp [hj]) (this.trans e);exact hnd.1 (this▸hj)
   ·rw [if_neg hkn] at hk;rw [DE _ _ hkn] at hkb;exact hsep k o' b hk hkb j (by simp [hj]) e) (by
   intro d2 h2;by_cases e:d2=d
   ·subst e;rw [pP (by have:=I4 hl d2 rfl;omega)];exact h6.symm
   ·rw [fJ (fun e'=>e (Option.some.inj e').symm)];refine hd d2 fun j hj=>?_;rcases List.mem_cons.1 hj with rfl|hj
    ·rw [hdi];exact fun e'=>e (Option.some.inj e').symm
    ·exact h2 j hj)
  exact⟨ι',env2,h2,nx2,q1,q2,q3,fun k hk=>(q4 k (by omega)).trans (bY _ _ hk),by omega,fun k hk=>(q6 k (by omega)).trans (iD _ _ (by omega))⟩
structure Ctx (P:Program) (T:cF) (C:VC) (Y:VY) (ops:Array Oper) (p:eM) (B:Nat) (w0:World) (ιb:Nat→Loc) (nxb tn:Nat) (ds:List Deferred) (ι0:Nat→Loc) (nx0:Nat) (h0 hJ:Heap) (a0:Act) (wS:World)
  (vals:List (Nat × Value)) (env1:List (Nat × Value)) (K:KS):Prop where
 tab:cA P T
 calls:bF P C
 yields:dW P Y
 plan:lH ops p
 old:∀ k,k<nxb→ι0 k=ιb k
 le:nxb≤nx0
 size:a0.tmps.size=tn
 defers:a0.defers=ds
 heap:aO ι0 B h0 nx0 wS
 below:fQ B w0 wS
 sub:∀ k o,look hJ k=some o→look h0 k=some o
 heads:vals.map (·.1)=p.head
 env:cT ι0 nx0 env1 (iO ops ι0 vals a0)
 dlt:∀ q∈vals,∀ d,bU ops.toList q.1=some d→d<tn
 yld:∀ pre i v post,vals=pre++(i,v)::post→Yld P ops ι0 B nx0 hJ wS i v (iO ops ι0 pre a0)
 rest:kS T tn ops.toList p.allocs env1 h0 nx0 fun env h nx=>jG aG T C Y tn ops.toList hJ p.tail env h nx K
structure F5 (T:cF) (ops:Array Oper) (p:eM) (tn:Nat) (ds:List Deferred) (ι0:Nat→Loc) (a0:Act) (wS:World) (vals:List (Nat × Value)) (L:Nat→Prop) (a:Act) (w:World):Prop where
 noT:∀ t∈p.tail.map (·.1),¬ L t
 below:fQ wS.heap.size wS w
 on:∃ (a':Act) (bs:Nat→Nat),yP ops p ι0 vals tn ds a0 L a a'∧(∀ d,(∀ i∈p.allocs,L i→bU ops.toList i≠some d)→(iO ops ι0 vals a0).tmps[d]? = a'.tmps[d]?) ∧
  (∀ i∈p.allocs,L i→TG T ops wS i (bs i) a' w)∧(∀ i∈p.allocs,∀ j∈p.allocs,L i→L j→bs i=bs j→i=j)
def rT (T:cF)(C:VC)(Y:VY)(ops:Array Oper)(p:eM)(B:Nat)(w0:World)(ιb:Nat→Loc)(nxb tn:Nat)(ds:List Deferred)(ι0:Nat→Loc)(nx0:Nat)(hJ:Heap)(a0:Act)(vals:List (Nat × Value))(K:KS)(L:Nat→Prop)(a:Act)(w:World):Prop :=
 ∃ done rest a' ι env h nx,p.tail=done++rest∧(∀ t∈done,L t.1)∧(∀ t∈rest,¬ L t.1)∧(∀ i∈p.allocs,L i)∧(∀ i∈p.head,kY mF ops.toList i=true→L i) ∧
   yP ops p ι0 vals tn ds a0 L a a'∧Inv B w0 ιb nxb tn ds ι env h nx a' w∧(∀ k,k<nx0→ι k=ι0 k)∧nx0≤nx ∧
   jG aG T C Y tn ops.toList hJ rest env h nx K ∧
   (∃ last got,pT ops.toList (p.head.filter (fun i=>!kY kC ops.toList i)) last got rest=true∧(∀ x∈got,L x)∧(∀ l,last=some l↔∃ d c,done=d++[(l,c)])) ∧
   ((∀ i∈p.head,kY kC ops.toList i=false→L i)∨(aO ι0 B hJ nx0 w∧∀ k o,look hJ k=some o→look h k=some o))
variable {B:Nat}{w0:World}{ιb:Nat→Loc}{nxb tn:Nat}{ds:List Deferred}{ι0:Nat→Loc}{nx0:Nat}{h0 hJ:Heap}{a0:Act}{wS:World}{vals:List (Nat × Value)}{env1:List (Nat × Value)}{K:KS}{L:Nat→Prop}{a:Act}{w:World}
theorem F5.post (X:Ctx P T C Y ops p B w0 ιb nxb tn ds ι0 nx0 h0 hJ a0 wS vals env1 K)(S:F5 T ops p tn ds ι0 a0 wS vals L a w)(hall:∀ i∈p.allocs,L i)(hst:∀ i∈p.head,kY mF ops.toList i=true→L i) :
  rT T C Y ops p B w0 ιb nxb tn ds ι0 nx0 hJ a0 vals K L a w:=by
 obtain⟨a',bs,I,r1,r2,r3⟩:=S.on;have hw:aO ι0 B h0 nx0 w:=X.heap.ext S.below;have hnd:p.allocs.Nodup:=by
  have:=X.plan.nodup;unfold eM.order at this;rw [List.append_assoc,List.nodup_append,List.nodup_append] at this;exact this.2.1.1
 obtain⟨ι,env,h,nx,k1,k2,k3,k4,k5,k6⟩:=EX X.tab X.heap.size p.allocs ι0 env1 h0 nx0 (iO ops ι0 vals a0) X.rest X.env (by rw [qS];exact X.size) hw (fun i hi=>r2 i hi (hall i hi)) hnd (fun i hi j hj=>r3 i hi j hj (hall i hi) (hall j hj)) (by
  intro k o b hk hb i hi e;have h1:=(X.heap.obj k o hk).lt hb;have h2:=(r2 i hi (hall i hi)).1;omega) (fun d hd=>r1 d (fun i hi _=>hd i hi))
 refine⟨[],p.tail,a',ι,env,h,nx,rfl,by simp,fun t ht=>S.noT _ (List.mem_map.2 ⟨t,ht,rfl⟩),hall,hst,I,⟨k2,k3,X.below.trans (S.below.mono X.heap.size),fun k hk=>(k4 k (Nat.lt_of_lt_of_le hk X.le)).trans (X.old k hk),Nat.le_trans X.le k5,I.size',I.defers'⟩,k4,k5,k1,⟨none,[],X.plan.tailP,by simp,by simp⟩,.inr ⟨(X.heap.sub X.sub).ext S.below,fun k o hk=>(k6 k (X.heap.low k o (X.sub k o hk))).trans (X.sub k o hk)⟩⟩
theorem V4 (X:Ctx P T C Y ops p B w0 ιb nxb tn ds ι0 nx0 h0 hJ a0 wS vals env1 K)(cl:∀ i,L i→∀ j∈bW ops.toList i,L j)(hL:∀ i,L i→i<ops.size){i:Nat}(hi:i∈p.head)(hn:¬ L i)(hr:∀ j∈bW ops.toList i,L j)
  (S:F5 T ops p tn ds ι0 a0 wS vals L a w∨rT T C Y ops p B w0 ιb nxb tn ds ι0 nx0 hJ a0 vals K L a w) (r:Option Nat) (next:Act→World→Prop) (Q:Exit→Act→World→Prop)
  (hnext:∀ a w,(F5 T ops p tn ds ι0 a0 wS vals (E4 L i) a w∨rT T C Y ops p B w0 ιb nxb tn ds ι0 nx0 hJ a0 vals K (E4 L i) a w)→next a w):wpOpIn (Fr r) 0 P ops Q i next a w:=by
 have hiv:i∈vals.map (·.1):=(by rw [X.heads];exact hi);obtain⟨q,hq,hqi⟩:=List.mem_map.1 hiv;obtain⟨i',v⟩:=q;simp only at hqi;subst hqi;obtain⟨pre,post,hsplit⟩:=List.append_of_mem hq;obtain⟨o,ho,hsc,hdef,hy⟩:=X.yld pre i' v post hsplit;have hdst:bU ops.toList i'=o.dst:=(by simp [bU,dO,ho]);have hlt:=(Array.getElem?_eq_some_iff.1 ho).1;have hget:eO ops.toList i'=some o:=(by rw [dO];simpa using ho);have hsel:∀ cs b,o.op≠.select cs b:=by
  intro cs b e;have:=X.plan.plain i' hlt;simp [kY,hget,e,pB] at this
 obtain⟨a',I⟩:∃ a',yP ops p ι0 vals tn ds a0 L a a':=by
  rcases S with S|⟨done,rest,a',ι,env,h,nx,_,_,_,_,_,I,_⟩
  ·obtain⟨a',_,I,_⟩:=S.on;exact⟨a',I⟩
  ·exact⟨a',I⟩
 have hsee:=I.aJj X.plan X.heads X.dlt X.size cl hL hsplit hn hr;have hlook:oF ops i'=o.looksAt ops:=(by simp [oF,hget]);rw [hlook] at hsee;obtain⟨he,hw⟩:=vY hsel hsee
 -- what is known qH it
 have hpast:∀ w',fQ w.heap.size w w'→next (a.put o.dst (tr ι0 v)) w':=by
  intro w' hb;refine hnext _ _ ?_;rw [← hdst];rcases S with S|S
  ·refine .inl ?_;obtain⟨a',bs,I,r1,r2,r3⟩:=S.on;have hne:∀ j,j∈p.allocs→j≠i':=fun j hj e=>(X.plan.apart hi).1 (e▸hj);refine⟨fun t ht=>?_,S.below.trans (hb.mono S.below.size),a',bs,I.head X.plan X.heads X.dlt hq,fun d hd=>r1 d (fun j hj hjL=>hd j hj (.inr hjL)),fun j hj hjL=>?_,fun j hj k hk hjL hkL=>r3 j hj k hk (hjL.resolve_left (hne j hj)) (hkL.resolve_left (hne k hk))⟩
   ·rintro (rfl|h)
    ·exact (X.plan.apart hi).2 ht
    ·exact S.noT t ht h
   ·obtain⟨hb1,o2,t2,d2,ti2,e1,e2,e3,e4,e5,e6⟩:=r2 j hj (hjL.resolve_left (hne j hj));exact⟨hb1,o2,t2,d2,ti2,e1,e2,e3,e4,(hb.block _ (Array.getElem?_eq_some_iff.1 e5).1).trans e5,e6⟩
  ·refine .inr ?_;obtain⟨done,rest,a',ι,env,h,nx,e1,e2,e3,e4,e5,I,J,e6,e7,e8,⟨last,got,e9,e10,e11⟩,e12⟩:=S;refine⟨done,rest,a',ι,env,h,nx,e1,fun t ht=>.inr (e2 t ht),fun t ht=>?_,fun j hj=>.inr (e4 j hj),fun j hj hk=>.inr (e5 j hj hk),I.head X.plan X.heads X.dlt hq,⟨J.env,J.heap.ext hb,J.below.trans (hb.mono J.heap.size),J.old,J.le,J.size,J.defers⟩,e6,e7,e8,⟨last,got,e9,fun x hx=>.inr (e10 x hx),e11⟩,?_⟩
   ·rintro (rfl|h)
    ·exact (X.plan.apart hi).2 (by rw [e1];exact List.mem_map.2 ⟨t,List.mem_append_right _ ht,rfl⟩)
    ·exact e3 t ht h
   ·rcases e12 with e12|⟨e12,e13⟩
    ·exact .inl fun j hj hk=>.inr (e12 j hj hk)
    ·exact .inr ⟨e12.ext hb,e13⟩
 unfold wpOpIn;simp only [ho];rcases hy with ⟨hw',rfl⟩|⟨hw',hrun⟩
 ·rw [hw,hw'];refine⟨fun _ _=>trivial,?_⟩;have:=hpast w (fQ.refl _ _)
  rwa [fU (show gT undef=true from rfl)] at this
 ·rw [hw,hw',if_pos rfl];refine W5 (hrun w ?_ ?_) he hdef r _ Q hpast
  ·cases hk:kC o.op with
   |true=>simp only [lG,hk];exact aO.none (by
    rcases S with S|⟨done,rest,a',ι,env,h,nx,_,_,_,_,_,_,J,_⟩
    ·exact Nat.le_trans X.heap.size S.below.size
    ·exact J.heap.size)
   |false =>
    simp only [lG,hk];rcases S with S|⟨done,rest,a',ι,env,h,nx,_,_,_,_,_,_,_,_,_,_,_,e12⟩
    ·exact (X.heap.sub X.sub).ext S.below
    ·rcases e12 with e12|e12
     ·exact absurd (e12 i' hi (by simp [kY,hget,hk])) hn
     ·exact e12.1
  ·intro hk;rcases S with S|⟨done,rest,a',ι,env,h,nx,_,_,_,_,e5,_⟩
   ·exact S.below
   ·exact absurd (e5 i' hi (by simp [kY,hget,hk])) hn
theorem QG (X:Ctx P T C Y ops p B w0 ιb nxb tn ds ι0 nx0 h0 hJ a0 wS vals env1 K){i:Nat}(hi:i∈p.allocs)(hn:¬ L i)
  (S:F5 T ops p tn ds ι0 a0 wS vals L a w) (r:Option Nat) (next:Act→World→Prop) (Q:Exit→Act→World→Prop)
  (hnext:∀ a w,F5 T ops p tn ds ι0 a0 wS vals (E4 L i) a w→next a w):wpOpIn (Fr r) 0 P ops Q i next a w:=by
 obtain⟨o,t,d,ti,ho,hop,hod,hd,hti⟩:=uF X.rest i hi;obtain⟨o2,ho2,hal⟩:=X.plan.allocs i hi;have hoo:ops[i]? = some o:=(by rw [dO] at ho;simpa using ho);rw [hoo] at ho2;injection ho2 with ho2;subst ho2;have hguard:o.guard=none:=by
  unfold II at hal;split at hal
  ·rfl
  ·cases hal
 have hdi:bU ops.toList i=some d:=(by simp [bU,ho,hod]);obtain⟨a',bs,I,r1,r2,r3⟩:=S.on;have hnh:i∉p.head:=fun h=>(X.plan.apart h).1 hi;unfold wpOpIn;simp only [hoo];rw [if_pos (by simp [Region.wanted,hguard])];refine⟨fun _ _=>trivial,?_⟩;rw [semAt_eq (fun c e=>by rw [hop] at e;cases e)];have hz:=(X.tab t ti hti).zero w;have hrun:(execOp a.eval o).run P w=.ok (.value (.pointer (some ⟨w.heap.size,0,none⟩))) (w.alloc (.cells ti.zv.cells t)):=by
  simp [execOp,hop,Instr.alloc,hz,newVar,newRow]
 rw [hrun];refine hnext _ _ ?_;have hbl:=c7 w (.cells ti.zv.cells t);have hbig:∀ j∈p.allocs,L j→bs j<w.heap.size:=fun j hj hjL=>by
  obtain⟨_,_,_,_,_,_,_,_,_,e5,_⟩:=r2 j hj hjL;exact (Array.getElem?_eq_some_iff.1 e5).1
 refine⟨fun t ht=>?_,S.below.trans (hbl.mono S.below.size),a'.put (some d) (.pointer (some ⟨w.heap.size,0,none⟩)),fun j=>if j=i then w.heap.size else bs j,?_,fun d2 h2=>?_,fun j hj hjL=>?_,fun j hj k hk hjL hkL e=>?_⟩
 ·rintro (rfl|h)
  ·exact X.plan.aFB hi ht
  ·exact S.noT t ht h
 ·have:=I.other X.plan X.heads hnh (.pointer (some ⟨w.heap.size,0,none⟩));rw [hdi] at this;rw [hod];exact this
 ·by_cases e:d2=d
  ·subst e;exact absurd hdi (h2 i hi (.inl rfl))
  ·rw [fJ (fun e'=>e (Option.some.inj e').symm)];exact r1 d2 fun j hj hjL=>h2 j hj (.inr hjL)
 ·by_cases e:j=i
  ·subst e;simp only [if_true];exact⟨S.below.size,o,t,d,ti,ho,hop,hod,hti,(MapKept.heap_alloc w _).1,pP (by rw [I.size'];exact hd)⟩
  ·simp only [if_neg e];have hjL:=hjL.resolve_left e;obtain⟨hb1,o2,t2,d2,ti2,e1,e2,e3,e4,e5,e6⟩:=r2 j hj hjL;refine⟨hb1,o2,t2,d2,ti2,e1,e2,e3,e4,(hbl.block _ (hbig j hj hjL)).trans e5,?_⟩;rw [fJ (fun e'=>e (X.plan.dsts j i d2 (X.plan.K5 j (fR.2 (.inr (.inl hj)))) (X.plan.K5 i (fR.2 (.inr (.inl hi)))) (by simp [bU,e1,e3]) (hdi.trans e')))];exact e6
 ·simp only at e;by_cases e1:j=i <;> by_cases e2:k=i
  ·rw [e1,e2]
  ·rw [if_pos e1,if_neg e2] at e;have:=hbig k hk (hkL.resolve_left e2);omega
  ·rw [if_neg e1,if_pos e2] at e;have:=hbig j hj (hjL.resolve_left e1);omega
  ·rw [if_neg e1,if_neg e2] at e;exact r3 j hj k hk (hjL.resolve_left e1) (hkL.resolve_left e2) e
end
section
variable {P:Program}{T:cF}{C:VC}{Y:VY}{ops:Array Oper}{p:eM}
theorem MC {h:Heap}{nx:Nat}{t:TypeId}{x v:Value}{K:KE}{hJ:Heap}{ad:Addr}(hx:x=.pointer (some ad))(hn:look hJ ad.block=none)(hs:∀ k o,look hJ k=some o→look h k=some o)
  (hl:mU T h nx t x v K):mU T h nx t x v (fun v h' nx'=>K v h' nx'∧∀ k o,look hJ k=some o→look h' k=some o):=by
 subst hx;unfold mU at *;split at hl
 case h_2=>exact hl.elim
 rename_i k o heq;injection heq with heq;injection heq with heq;subst heq;simp only at hn ⊢;split at hl
 case h_2=>exact hl.elim
 rename_i ti g sz cs ht hk
 try rw [ht,hk]
 try simp only
 split at hl
 case h_2=>exact hl.elim
 rename_i hsz htup
 try rw [hsz,htup]
 try simp only
 obtain⟨hb,hK⟩:=aD.1 hl;refine aJ hb ⟨hK,fun j o' hj=>?_⟩;have hne:j≠k:=fun e=>(by rw [e,hn] at hj;cases hj);rw [jK _ _ hne];exact hs j o' hj
theorem I5 {b:Bool}{X Y:Unit→Prop}(h:br b X Y)(hb:b=true):X ():=by subst hb;exact h
theorem EF {b:Bool}{X Y:Unit→Prop}(h:br b X Y)(hb:b=false):Y ():=by subst hb;exact h
theorem VI {h:Heap}{sz:Nat}{x:Value}{G G':Nat→List Value→Prop}(hG:∀ m l,G m l→G' m l)(hl:GD h sz x G):GD h sz x G':=by
 unfold GD at *;split at hl
 ·exact hG _ _ hl
 ·split at hl
  ·exact aJ (aD.1 hl).1 (hG _ _ (aD.1 hl).2)
  ·split at hl
   ·exact hG _ _ hl
   ·exact hl.elim
  ·split at hl
   ·exact hG _ _ hl
   ·exact hl.elim
  ·exact hl.elim
 ·exact hl.elim
theorem y6 {h:Heap}{nx:Nat}{t:TypeId}{n:Nat}{l:List (Nat × Value)}{K:KE}{hJ:Heap}(hf:∀ k o,look hJ k=some o→k<nx)(hs:∀ k o,look hJ k=some o→look h k=some o)
  (hl:dQ T h nx t n l K):dQ T h nx t n l (fun v h' nx'=>K v h' nx'∧∀ k o,look hJ k=some o→look h' k=some o):=by
 have key:∀ o',∀ k o,look hJ k=some o→look (cC h nx o') k=some o:=fun o' k o hk=>by
  have:=hf k o hk;rw [iD _ _ (by omega)];exact hs k o hk
 unfold dQ at *;split at hl
 case h_2=>exact hl.elim
 split at hl
 case h_2=>exact hl.elim
 split at hl
 case h_2=>exact hl.elim
 split at hl
 case h_2=>exact hl.elim
 first|exact⟨hl,key _⟩|(simp only [*];exact⟨hl,key _⟩)
theorem JM {h:Heap}{nx:Nat}{st xt:TypeId}{s x:Value}{K:KE}{hJ:Heap}(hf:∀ k o,look hJ k=some o→k<nx)(hk:∀ ad n c,s=.slice (some ad) n c→look hJ ad.block=none)(hs:∀ k o,look hJ k=some o→look h k=some o)
  (hl:kM aG T h nx st xt s x K):kM aG T h nx st xt s x (fun v h' nx'=>K v h' nx'∧∀ k o,look hJ k=some o→look h' k=some o):=by
 have key:∀ o',∀ k o,look hJ k=some o→look (cC h nx o') k=some o:=fun o' k o hk=>by
  have:=hf k o hk;rw [iD _ _ (by omega)];exact hs k o hk
 have must_k:∀ {b:Bool} {v:Value} {h':Heap} {nx':Nat},(∀ k o,look hJ k=some o→look h' k=some o)→dI b (K v h' nx')→dI b (K v h' nx'∧∀ k o,look hJ k=some o→look h' k=some o):=fun hh hm=>aJ (aD.1 hm).1 ⟨(aD.1 hm).2,hh⟩;unfold kM at *;split at hl
 ·split at hl
  ·split at hl
   ·first|exact must_k (key _) hl|(simp only [*];exact must_k (key _) hl)
   ·exact hl.elim
  ·exact hl.elim
 ·split at hl
  ·exact hl.elim
  ·split at hl
   ·exact hl.elim
   ·refine VI (fun m src hG=>?_) hl;split at hG
    ·exact XY (fun hb=>⟨I5 hG hb,hs⟩) (fun hb=>must_k (key _) (EF hG hb))
    ·rename_i k o n c;have hkk:=hk _ _ _ rfl;simp only at hkk;have hne:∀ j o',look hJ j=some o'→j≠k:=fun j o' hj e=>(by rw [e,hkk] at hj;cases hj);split at hG
     ·split at hG
      ·exact XY (fun hb=>⟨I5 hG hb,hs⟩) (fun hb=>must_k (key _) (EF hG hb))
      ·exact hG.elim
     ·refine XY (fun hb=>must_k (fun j o' hj=>?_) (I5 hG hb)) (fun hb=>must_k (fun j o' hj=>?_) (EF hG hb))
      ·rw [jK _ _ (hne j o' hj)];exact hs j o' hj
      ·have:=hf j o' hj;rw [iD _ _ (by omega),dF,if_neg (hne j o' hj)];exact hs j o' hj
     ·exact hG.elim
    ·exact hG.elim
 ·exact hl.elim
theorem wC {l:List Oper}{loads:List Nat}:∀ {rest:List (Nat × Bool)} {last:Option Nat} {got:List Nat},pT l loads last got rest=true→∀ pre t c i c' post,rest=pre++(t,c)::(i,c')::post→t∈nW l i
 |[],_,_,_,pre,t,c,i,c',post,e=>by simp at e
 |(x,cx)::r,last,got,h,pre,t,c,i,c',post,e=>by
  simp only [pT,Bool.and_eq_true] at h;cases pre with
  |nil =>
   simp only [List.nil_append,List.cons.injEq,Prod.mk.injEq] at e;obtain⟨⟨rfl,rfl⟩,rfl⟩:=e;have h2:=h.2;simp only [pT,Bool.and_eq_true] at h2;exact dC.1 h2.1.1
  |cons q pre =>
   simp only [List.cons_append,List.cons.injEq] at e;obtain⟨rfl,rfl⟩:=e;exact wC h.2 pre t c i c' post rfl
theorem C6 {l:List Oper}{loads:List Nat}{rest:List (Nat × Bool)}{last:Option Nat}{got:List Nat}(h:pT l loads last got rest=true){L:Nat→Prop}(hn:∀ t∈rest,¬ L t.1){i:Nat}(hi:i∈rest.map (·.1))(cl:∀ i,L i→∀ j∈bW l i,L j)(hr:∀ j∈bW l i,L j) :
  ∃ c r,rest=(i,c)::r:=by
 obtain⟨q,hq,rfl⟩:=List.mem_map.1 hi;obtain⟨i,c⟩:=q;obtain⟨pre,post,rfl⟩:=List.append_of_mem hq;rcases List.eq_nil_or_concat pre with rfl|⟨pre',⟨t,ct⟩,rfl⟩
 ·exact⟨c,post,rfl⟩
 ·have:=wC h pre' t ct i c post (by simp);exact absurd (mO cl hr t this) (hn (t,ct) (by simp))
variable {B:Nat}{w0:World}{ιb:Nat→Loc}{nxb tn:Nat}{ds:List Deferred}{ι0:Nat→Loc}{nx0:Nat}{h0 hJ:Heap}{a0:Act}{wS:World}{vals:List (Nat × Value)}{env1:List (Nat × Value)}{K:KS}{L:Nat→Prop}{a:Act}{w:World}
theorem VS (X:Ctx P T C Y ops p B w0 ιb nxb tn ds ι0 nx0 h0 hJ a0 wS vals env1 K){i:Nat}(hi:i∈p.tail.map (·.1))(hn:¬ L i)(cl:∀ i,L i→∀ j∈bW ops.toList i,L j)(hr:∀ j∈bW ops.toList i,L j)
  (S:rT T C Y ops p B w0 ιb nxb tn ds ι0 nx0 hJ a0 vals K L a w) (r:Option Nat) (next:Act→World→Prop) (Q:Exit→Act→World→Prop)
  (hnext:∀ a w,rT T C Y ops p B w0 ιb nxb tn ds ι0 nx0 hJ a0 vals K (E4 L i) a w→next a w):wpOpIn (Fr r) 0 P ops Q i next a w:=by
 obtain⟨done,rest,a',ι,env,h,nx,e1,e2,e3,e4,e5,I,J,e6,e7,e8,⟨last,got,e9,e10,e11⟩,e12⟩:=S;have hir:i∈rest.map (·.1):=by
  rw [e1,List.map_append] at hi;rcases List.mem_append.1 hi with h|h
  ·obtain⟨t,ht,rfl⟩:=List.mem_map.1 h;exact absurd (e2 t ht) hn
  ·exact h
 obtain⟨chk,rr,rfl⟩:=C6 e9 e3 hir cl hr;have hnh:i∉p.head:=fun h=>(X.plan.apart h).2 hi;have hin:i<ops.size:=X.plan.K5 i (fR.2 (.inr (.inr hi)));simp only [uK] at e8;split at e8
 ·exact e8.elim
 rename_i o ho;have hoo:ops[i]? = some o:=(by rw [dO] at ho;simpa using ho);have hdst:bU ops.toList i=o.dst:=(by simp [bU,ho]);have hlook:oF ops i=o.looksAt ops:=(by simp [oF,ho]);have hpl:=X.plan.plain i hin;have hsel:∀ cs b,o.op≠.select cs b:=by
  intro cs b e;simp [kY,ho,e,pB] at hpl
 have hdef:∀ c,o.op≠.defer c:=by
  intro c e;simp [kY,ho,e,pB] at hpl
 have hsee:=I.aIg X.plan hnh hin hr;rw [hlook] at hsee;obtain⟨he,hw⟩:=vY hsel hsee;obtain⟨env1',he1,hcase⟩:=tA J.env e8;have hnodup:∀ t∈rr,t.1≠i:=by
  intro t ht e;have:=X.plan.nodup;unfold eM.order at this;rw [e1,List.map_append,List.nodup_append] at this;have h2:=this.2.1;rw [List.nodup_append] at h2;have:=h2.2.1;simp only [List.map_cons,List.nodup_cons] at this;exact this.1 (List.mem_map.2 ⟨t,ht,e⟩)
 have htail:=e9;simp only [pT,Bool.and_eq_true] at htail;obtain⟨⟨_,hloads⟩,htail⟩:=htail
 -- what is known qH it
 have hpast:∀ v env2 h' nx' ι' w',jG aG T C Y tn ops.toList hJ rr env2 h' nx' K→cT ι' nx' env2 (a'.put o.dst (tr ι' v))→aO ι' B h' nx' w'→fQ B w w'→(∀ k,k<nx→ι' k=ι k)→nx≤nx' →
   (chk=true→(∀ k o,look hJ k=some o→look h k=some o)→∀ k o,look hJ k=some o→look h' k=some o)→next (a.put o.dst (tr ι' v)) w':=by
  intro v env2 h' nx' ι' w' k1 k2 k3 k4 k5 k6 k7;refine hnext _ _ ?_;have hI:=I.other X.plan X.heads hnh (tr ι' v);rw [hdst] at hI;refine⟨done++[(i,chk)],rr,a'.put o.dst (tr ι' v),ι',env2,h',nx',by rw [e1];simp,fun t ht=>?_,fun t ht=>?_,fun j hj=>.inr (e4 j hj),fun j hj hk=>.inr (e5 j hj hk),hI,J.step k2 k3 k4 k5 k6 (by rw [oT];exact J.size) (put_defers _ _ _),fun k hk=>(k5 k (Nat.lt_of_lt_of_le hk e7)).trans (e6 k hk),Nat.le_trans e7 k6,k1,⟨some i,nW ops.toList i++got,htail,fun x hx=>?_,fun l=>?_⟩,?_⟩
  ·rcases List.mem_append.1 ht with ht|ht
   ·exact .inr (e2 t ht)
   ·simp at ht;subst ht;exact .inl rfl
  ·rintro (h|h)
   ·exact hnodup t ht h
   ·exact e3 t (by simp [ht]) h
  ·rcases List.mem_append.1 hx with hx|hx
   ·exact .inr (mO cl hr x hx)
   ·exact .inr (e10 x hx)
  ·constructor
   ·intro h;injection h with h;subst h;exact⟨done,chk,rfl⟩
   ·rintro ⟨d,c,hd⟩;have:=List.append_inj' hd rfl;simp at this;rw [this.2.1]
  ·cases chk with
   |false =>
    refine .inl fun j hj hk=>.inr ?_;simp only [Bool.false_or] at hloads;have:=sQ hloads j (List.mem_filter.2 ⟨hj,by simp [hk]⟩);rcases List.mem_append.1 this with h|h
    ·exact mO cl hr j h
    ·exact e10 j h
   |true =>
    rcases e12 with e12|⟨e12,e13⟩
    ·exact .inl fun j hj hk=>.inr (e12 j hj hk)
    ·have hs:=k7 rfl e13;exact .inr ⟨k3.back (X.heap.sub X.sub) hs (fun k hk=>(k5 k (Nat.lt_of_lt_of_le hk e7)).trans (e6 k hk)),hs⟩
 unfold wpOpIn;simp only [hoo];rcases hcase with ⟨hwa,hl⟩|⟨hwa,hl⟩
 ·rw [hw,hwa,if_pos rfl];obtain⟨has,hl1⟩:=aD.1 hl;clear hl
  -- the operation,with what it keeps
  have hl2:oZ aG T C Y env1' h nx o.op (fun v h' nx'=>(dZ tn env1' o.dst v fun env'=>jG aG T C Y tn ops.toList hJ rr env' h' nx' K) ∧
    (chk=true→(∀ k o,look hJ k=some o→look h k=some o)→∀ k o,look hJ k=some o→look h' k=some o)):=by
   cases chk with
   |false =>
    have:(fun v h' nx'=>(dZ tn env1' o.dst v fun env'=>jG aG T C Y tn ops.toList hJ rr env' h' nx' K) ∧
      (false=true→(∀ k o,look hJ k=some o→look h k=some o)→∀ k o,look hJ k=some o→look h' k=some o))=(fun v h' nx'=>dZ tn env1' o.dst v fun env'=>jG aG T C Y tn ops.toList hJ rr env' h' nx' K):=by
     funext v h' nx';simp
    rw [this];exact hl1
   |true =>
    unfold xE at has;simp only at has;have hfr:∀ k o,look hJ k=some o→k<nx:=fun k o hk=>Nat.lt_of_lt_of_le ((X.heap.sub X.sub).low k o hk) e7;split at has
    case h_5=>cases has
    case h_3 =>
     rename_i t n ps hop;rw [hop] at hl1 ⊢;simp only [oZ] at hl1 ⊢;split at hl1
     case h_2=>exact hl1.elim
     rename_i l hps;by_cases hs:∀ k o,look hJ k=some o→look h k=some o
     ·refine cast ?_ (y6 hfr hs hl1);congr 1;funext v h' nx';exact propext ⟨fun q=>⟨q.1,fun _ _=>q.2⟩,fun q=>⟨q.1,q.2 (by trivial) hs⟩⟩
     ·refine cast ?_ hl1;congr 1;funext v h' nx';exact propext ⟨fun q=>⟨q,fun _ h=>absurd h hs⟩,fun q=>q.1⟩
    case h_4 =>
     rename_i c hop;obtain⟨cal,cargs,cats⟩:=c;simp only at has;split at has
     case h_2=>cases has
     split at has
     case h_2=>cases has
     rename_i s x' hva;rw [hop] at hl1 ⊢;simp only [oZ,hva] at hl1 ⊢;split at hl1
     case h_2=>exact hl1.elim
     rename_i st xt s1 x1 hat hsx;injection hsx with hsx;injection hsx with e1 hsx;injection hsx with e2;subst e1 e2;have hkk:∀ ad n c,s=.slice (some ad) n c→look hJ ad.block=none:=by
      rintro ad n c rfl;simp only at has;split at has
      ·assumption
      ·cases has
     by_cases hs:∀ k o,look hJ k=some o→look h k=some o
     ·refine cast ?_ (JM hfr hkk hs hl1);congr 1;funext v h' nx';exact propext ⟨fun q=>⟨q.1,fun _ _=>q.2⟩,fun q=>⟨q.1,q.2 (by trivial) hs⟩⟩
     ·refine cast ?_ hl1;congr 1;funext v h' nx';exact propext ⟨fun q=>⟨q,fun _ h=>absurd h hs⟩,fun q=>q.1⟩
    case h_2 =>
     rename_i t x hop;rw [hop] at hl1 ⊢;simp only [oZ] at hl1 ⊢;refine cast ?_ hl1;congr 1;funext v;exact propext ⟨fun q=>⟨q,fun _ h=>h⟩,fun q=>q.1⟩
    rename_i t x y hop;split at has
    case h_2=>cases has
    rename_i ad hx;split at has
    case h_2=>cases has
    rename_i hlk;rw [hop] at hl1 ⊢;simp only [oZ] at hl1 ⊢;obtain⟨px,hpx,hl⟩:=cR hl1;obtain⟨v,hv,hl⟩:=cR hl;rw [hpx,hv];simp only [on];rw [hpx] at hx;injection hx with hx;by_cases hs:∀ k o,look hJ k=some o→look h k=some o
    ·have:=MC hx hlk hs hl;refine (?_:mU T h nx t px v _);refine cast ?_ this;congr 1;funext v h' nx';exact propext ⟨fun q=>⟨q.1,fun _ _=>q.2⟩,fun q=>⟨q.1,q.2 (by trivial) hs⟩⟩
    ·refine cast ?_ hl;congr 1;funext v h' nx';exact propext ⟨fun q=>⟨q,fun _ h=>absurd h hs⟩,fun q=>q.1⟩
  refine (QR X.tab X.calls X.yields he1 J.heap hl2).upon hdef he r next Q fun v h' nx' ι' w' k1 k2 k3 k4 k5 k6=>?_;obtain⟨env2,k7,k8,k9,k10⟩:=nG (he1.names k6 k5) J.size k1.1 k2;exact hpast v env2 h' nx' ι' w' k7 k8 k3 k4 k5 k6 k1.2
 ·rw [hw,hwa];refine⟨fun _ _=>trivial,?_⟩;obtain⟨env2,k7,k8,k9,k10⟩:=nG he1 J.size hl (v:=undef) (dD rfl);have:=hpast undef env2 h nx ι w k7 k8 J.heap (fQ.refl _ _) (fun _ _=>rfl) (Nat.le_refl _) (fun _ hs=>hs)
  rwa [fU (show gT undef=true from rfl)] at this
end
section
variable {P:Program}{T:cF}{C:VC}{Y:VY}{ops:Array Oper}{p:eM}
variable {B:Nat}{w0:World}{ιb:Nat→Loc}{nxb tn:Nat}{ds:List Deferred}{ι0:Nat→Loc}{nx0:Nat}{h0 hJ:Heap}{a0:Act}{wS:World}{vals:List (Nat × Value)}{env1:List (Nat × Value)}{K:KS}
def vB (listed:Array Bool)(i:Nat):Prop:=listed.getD i false=true
theorem vB.set {listed:Array Bool}{i:Nat}(hi:i<listed.size):vB (listed.setIfInBounds i true)=E4 (vB listed) i:=by
 funext j;unfold vB E4;apply propext;by_cases h:j=i
 ·subst h;simp [hi]
 ·rw [getD_set_ne false (fun e=>h e.symm)];simp [h]
theorem lW {listed:Array Bool}(hs:listed.size=ops.size){i:Nat}:i∈Region.ready .any ops listed↔i<ops.size∧¬ vB listed i∧∀ j∈bW ops.toList i,vB listed j:=by
 rw [mem_ready];constructor
 ·rintro ⟨h1,o,ho,h2⟩;have hlt:=(Array.getElem?_eq_some_iff.1 ho).1;refine⟨hlt,?_,fun j hj=>?_⟩
  ·unfold vB;have hl:i<listed.size:=(by omega);simp [hl] at h1 ⊢;exact h1
  ·have:eO ops.toList i=some o:=(by rw [dO];simpa using ho);simp only [bW,this,kP,List.mem_filterMap] at hj;obtain⟨e,he,hj⟩:=hj;split at hj
   ·rename_i hb;injection hj with hj;subst hj;exact h2 e (by simpa using he) hb
   ·cases hj
 ·rintro ⟨hlt,h1,h2⟩;refine⟨?_,ops[i],by simp [hlt],fun e he hb=>?_⟩
  ·have hl:i<listed.size:=(by omega);unfold vB at h1;simp [hl] at h1 ⊢;exact h1
  ·refine h2 e.on ?_;have:eO ops.toList i=some ops[i]:=(by rw [dO];simp [hlt]);simp only [bW,this,kP,List.mem_filterMap];exact⟨e,by simpa using he,by rw [hb]⟩
def left (n:Nat)(listed:Array Bool):Nat:=((List.range n).filter fun i=>!listed.getD i false).length
theorem wW {n:Nat}{listed:Array Bool}{i:Nat}(hi:i<n)(hs:listed.size=n)(hn:¬ vB listed i):left n (listed.setIfInBounds i true)<left n listed:=by
 unfold left;have:(List.range n).filter (fun j=>!(listed.setIfInBounds i true).getD j false)=((List.range n).filter fun j=>!listed.getD j false).filter (fun j=>decide (j≠i)):=by
  rw [List.filter_filter];apply List.filter_congr;intro j hj;by_cases h:j=i
  ·subst h;have hl:j<listed.size:=(by omega);simp [hl]
  ·rw [getD_set_ne false (fun e=>h e.symm)];simp [h]
 rw [this];refine Nat.lt_of_le_of_ne (List.length_filter_le _ _) fun e=>?_;have:=List.length_filter_eq_length_iff.1 e i (List.mem_filter.2 ⟨by simpa using hi,by unfold vB at hn;simpa using hn⟩);simp at this
theorem JH (hp:lH ops p){listed:Array Bool}(hs:listed.size=ops.size)(h:Region.ready .any ops listed=[]):∀ i,i<ops.size→vB listed i:=by
 intro i
 induction i using Nat.strongRecOn with
 |_ i ih =>
  intro hi;refine Classical.byContradiction fun hn=>?_;have:i∈Region.ready .any ops listed:=(lW hs).2 ⟨hi,hn,fun j hj=>ih j (hp.lin i hi j hj) (by have:=hp.lin i hi j hj;omega)⟩;rw [h] at this;cases this
theorem LH (X:Ctx P T C Y ops p B w0 ιb nxb tn ds ι0 nx0 h0 hJ a0 wS vals env1 K){L:Nat→Prop}{a:Act}{w:World}(hall:∀ i,i<ops.size→L i)
  (S:F5 T ops p tn ds ι0 a0 wS vals L a w∨rT T C Y ops p B w0 ιb nxb tn ds ι0 nx0 hJ a0 vals K L a w):∃ ι env h nx,K env h nx∧Inv B w0 ιb nxb tn ds ι env h nx a w:=by
 have hin:∀ i∈p.order,L i:=fun i hi=>hall i (X.plan.K5 i hi);have S:rT T C Y ops p B w0 ιb nxb tn ds ι0 nx0 hJ a0 vals K L a w:=by
  rcases S with S|S
  ·exact S.post X (fun i hi=>hin i (fR.2 (.inr (.inl hi)))) (fun i hi _=>hin i (fR.2 (.inl hi)))
  ·exact S
 obtain⟨done,rest,a',ι,env,h,nx,e1,e2,e3,e4,e5,I,J,e6,e7,e8,_,_⟩:=S;cases rest with
 |cons t r=>exact absurd (hin t.1 (fR.2 (.inr (.inr (List.mem_map.2 ⟨t,by rw [e1];simp,rfl⟩))))) (e3 t (by simp))
 |nil =>
  exact⟨ι,env,h,nx,e8,J.env.congr (fun d=>(I.q2 d fun i hi _=>hin i (fR.2 (.inl hi))).symm),J.heap,J.below,J.old,J.le,I.size,I.defers⟩
theorem QK (X:Ctx P T C Y ops p B w0 ιb nxb tn ds ι0 nx0 h0 hJ a0 wS vals env1 K)(r:Option Nat){Q:Exit→Act→World→Prop}
  (hQ:∀ ι env h nx a w,K env h nx→Inv B w0 ιb nxb tn ds ι env h nx a w→Q .normal a w):∀ (fuel:Nat) (listed:Array Bool) (a:Act) (w:World),listed.size=ops.size→left ops.size listed≤fuel →
  (∀ i,vB listed i→∀ j∈bW ops.toList i,vB listed j) →
  (F5 T ops p tn ds ι0 a0 wS vals (vB listed) a w∨rT T C Y ops p B w0 ιb nxb tn ds ι0 nx0 hJ a0 vals K (vB listed) a w)→wpAnyIn (Fr r) 0 P .any ops Q fuel listed a w:=by
 have fin:∀ (listed:Array Bool) (a:Act) (w:World),listed.size=ops.size→Region.ready .any ops listed=[] →
   (F5 T ops p tn ds ι0 a0 wS vals (vB listed) a w∨rT T C Y ops p B w0 ιb nxb tn ds ι0 nx0 hJ a0 vals K (vB listed) a w)→Q .normal a w:=by
  intro listed a w hs hr S;obtain⟨ι,env,h,nx,h1,h2⟩:=LH X (JH X.plan hs hr) S;exact hQ ι env h nx a w h1 h2
 intro fuel
 induction fuel with
 |zero =>
  intro listed a w hs hl cl S;have hr:Region.ready .any ops listed=[]:=by
   refine List.eq_nil_iff_forall_not_mem.2 fun i hi=>?_;obtain⟨h1,h2,_⟩:=(lW hs).1 hi;have:=wW h1 hs h2;omega
  exact⟨hr,fin listed a w hs hr S⟩
 |succ fuel ih =>
  intro listed a w hs hl cl S;refine⟨fun hr=>fin listed a w hs hr S,fun i hi=>?_⟩;obtain⟨h1,h2,h3⟩:=(lW hs).1 hi;have hL:∀ i,vB listed i→i<ops.size:=by
   intro j hj;unfold vB at hj;by_cases h:j<listed.size
   ·omega
   ·simp [h] at hj
  have next:∀ a w,(F5 T ops p tn ds ι0 a0 wS vals (E4 (vB listed) i) a w∨rT T C Y ops p B w0 ιb nxb tn ds ι0 nx0 hJ a0 vals K (E4 (vB listed) i) a w) →
    wpAnyIn (Fr r) 0 P .any ops Q fuel (listed.setIfInBounds i true) a w:=by
   intro a w S';have hset:=vB.set (listed:=listed) (i:=i) (by omega);refine ih _ a w (by simp [hs]) (by have:=wW h1 hs h2;omega) ?_ (by rw [hset];exact S');rw [hset];rintro j (rfl|hj) k hk
   ·exact .inr (h3 k hk)
   ·exact .inr (cl j hj k hk)
  rcases fR.1 (X.plan.cover i h1) with h|h|h
  ·exact V4 X cl hL h h2 h3 S r _ Q next
  ·rcases S with S|S
   ·exact QG X h h2 S r _ Q fun a w s=>next a w (.inl s)
   ·obtain⟨_,_,_,_,_,_,_,_,_,_,e4,_⟩:=S;exact absurd (e4 i h) h2
  ·have S:rT T C Y ops p B w0 ιb nxb tn ds ι0 nx0 hJ a0 vals K (vB listed) a w:=by
    rcases S with S|S
    ·have hfirst:=C6 X.plan.tailP (L:=vB listed) (fun t ht=>S.noT _ (List.mem_map.2 ⟨t,ht,rfl⟩)) h cl h3;obtain⟨c,rr,hrr⟩:=hfirst;obtain⟨f1,f2⟩:=X.plan.first i c rr hrr;exact S.post X (fun j hj=>mO cl h3 j (f1 j hj)) (fun j hj hk=>mO cl h3 j (f2 j hj hk))
    ·exact S
   exact VS X h h2 cl h3 S r _ Q fun a w s=>next a w (.inr s)
theorem Q2 (hT:cA P T)(hC:bF P C)(hY:dW P Y)(hD:dM C)(hm:P.follows .mixedOrders=true)(hp:lH ops p){ι:Nat→Loc}{env:List (Nat × Value)}{h:Heap}{nx:Nat}{a:Act}{w:World}(I:Inv B w0 ιb nxb tn ds ι env h nx a w)
  (hl:nO aG T C Y tn ops.toList p env h nx K) (r:Option Nat) {id:Nat} {Q:Exit→Act→World→Prop} (hQ:∀ ι env h nx a w,K env h nx→Inv B w0 ιb nxb tn ds ι env h nx a w→Q .normal a w) :
  (Code.region id ops true).wpIn (Fr r) 0 P Q a w:=by
 refine wpIn_region_any hm ?_;unfold nO at hl;have H:=I.heap.drawn (w.drawn+1);have hb:fQ B w { w with drawn:=w.drawn+1 }:=⟨rfl,rfl,rfl,Nat.le_refl _,fun _ _=>rfl,Nat.le_succ _⟩;have hsub:∀ k o,look (F0 T ops.toList env p h) k=some o→look h k=some o:=fun k o hk=>XW k o hk;obtain⟨vals,env1,ι,nx,k1,hi,hn,k2,k3,k4,k5⟩:=NR hT hC hD hp.plain p.head env a ι nx (H.sub hsub) hl I.env I.size;have X:Ctx P T C Y ops p B w0 ιb nxb tn ds ι nx h (F0 T ops.toList env p h) a { w with drawn:=w.drawn+1 } vals env1 K :=
  ⟨hT,hC,hY,hp,fun k hk=>(hi k (Nat.lt_of_lt_of_le hk I.le)).trans (I.old k hk),Nat.le_trans I.le hn,I.size,I.defers,H.wide hi hn,I.below.trans hb,hsub,k2,k3,k4,k5,k1⟩
 have hno:∀ i,¬ vB (Array.replicate ops.size false) i:=by
  intro i;unfold vB;by_cases h:i<ops.size <;> simp [h]
 refine QK X r hQ ops.size _ a _ (by simp) ?_ (fun i hi=>absurd hi (hno i)) (.inl ?_)
 ·unfold left;exact Nat.le_trans (List.length_filter_le _ _) (by simp)
 ·refine⟨fun t _=>hno t,fQ.refl _ _,iO ops ι vals a,fun _=>0,?_,fun d _=>rfl,fun i _ hi=>absurd hi (hno i),fun i _ j _ hi=>absurd hi (hno i)⟩;have hmem:∀ i v,(i,v)∈vals→i∈p.head:=fun i v h=>(by rw [← k2];exact List.mem_map.2 ⟨_,h,rfl⟩);have hnd:(vals.map (·.1)).Nodup:=by
   have:=hp.nodup;unfold eM.order at this;rw [List.append_assoc,List.nodup_append] at this;rw [k2];exact this.1
  refine⟨I.size,by rw [qS];exact I.size,I.defers,by rw [tW];exact I.defers,fun i v d hi hd=>?_,fun d hd=>?_,fun d hd=>?_,fun i d _ _ _=>rfl⟩
  ·exact rV vals a (by rw [I.size];exact k4 _ hi d hd) hi hd (fun q hq h2=>hp.dsts _ _ d (lL h2) (lL hd) h2 hd) hnd
  ·rw [jF];intro q hq hqd;exact hno q.1 (hd q.1 (hmem q.1 q.2 hq) hqd)
  ·rw [jF];intro q hq;exact hd q.1 (.inl (hmem q.1 q.2 hq))
end
end Go.Aw
end
