/-
  Parts of a proof. No condition.
-/
import Derived.Test.YtoekkmbbbllogaaGreatQAp
set_option linter.unusedSimpArgs false
set_option linter.unusedVariables false
noncomputable section
namespace Go.Aw
open Go.RowKit
def shO (n:Nat):AObj→AObj
 |.cells wr g sz cs=>.cells wr g sz (cs.map (ren1 (fun k=>n+k)))
 |o=>o
def shH (n:Nat):Heap→Heap
 |[]=>[]
 |(k,o)::r=>(n+k,shO n o)::shH n r
theorem look_shH {n:Nat}(h:Heap){k:Nat}{o:AObj}(hl:look (shH n h) k=some o):∃ j o',k=n+j∧look h j=some o'∧o=shO n o':=by
 induction h with
 |nil=>cases hl
 |cons x r ih =>
  obtain⟨j,q⟩:=x
  simp only [shH,look_cons] at hl
  split at hl
  ·rename_i hb
   injection hl with hl
   exact⟨j,q,(beq_true hb).symm,by rw [look_cons,show Nat.beq j j=true from Nat.beq_refl j],hl.symm⟩
  ·rename_i hb
   obtain⟨j',o',h1,h2,h3⟩:=ih hl
   refine⟨j',o',h1,?_,h3⟩
   have:Nat.beq j j'=false:=by
    cases hb':Nat.beq j j' with
    |false=>rfl
    |true =>
     have:=beq_true hb'
     subst this
     rw [h1,Nat.beq_refl] at hb
     cases hb
   rw [look_cons,this]
   exact h2
def isOwn:AObj→Bool
 |.cells true _ _ _=>true
 |_=>false
def ownH:Heap→Bool
 |[]=>true
 |(_,o)::r=>isOwn o&&ownH r
theorem ownH_look {h:Heap}(hh:ownH h=true){k:Nat}{o:AObj}(hl:look h k=some o):∃ g sz cs,o=.cells true g sz cs:=by
 induction h with
 |nil=>cases hl
 |cons x r ih =>
  obtain⟨j,q⟩:=x
  simp only [ownH,Bool.and_eq_true] at hh
  rw [look_cons] at hl
  split at hl
  ·injection hl with hl
   subst hl
   cases q with
   |cells wr g sz cs =>
    cases wr with
    |true=>exact⟨g,sz,cs,rfl⟩
    |false=>simp [isOwn] at hh
   |_=>simp [isOwn] at hh
  ·exact ih hh.2 hl
def isCells:AObj→Bool
 |.cells _ _ _ _=>true
 |_=>false
def cellsH:Heap→Bool
 |[]=>true
 |(_,o)::r=>isCells o&&cellsH r
theorem cellsH_look {h:Heap}(hh:cellsH h=true){k:Nat}{o:AObj}(hl:look h k=some o):∃ wr g sz cs,o=.cells wr g sz cs:=by
 induction h with
 |nil=>cases hl
 |cons x r ih =>
  obtain⟨j,q⟩:=x
  simp only [cellsH,Bool.and_eq_true] at hh
  rw [look_cons] at hl
  split at hl
  ·injection hl with hl
   subst hl
   cases q with
   |cells wr g sz cs=>exact⟨wr,g,sz,cs,rfl⟩
   |_=>simp [isCells] at hh
  ·exact ih hh.2 hl
theorem closed_alone (o:AObj):o.closed.alone=false:=by cases o <;> rfl
section
variable {ι:Nat→Loc}{σ:Nat→Nat}{n m:Nat}
theorem scP_into {v:Value}(h:scP (fun k=>ι (σ k)) m v)(hs:∀ k,k<m→σ k<n):scP ι n (trP (at0 σ) v):=by
 cases v with
 |pointer a=>cases a with
  |none=>trivial
  |some a=>exact⟨hs _ h.1,h.2⟩
 |slice a l c=>cases a with
  |none=>trivial
  |some a=>exact⟨hs _ h.1,fun hf=>h.2 hf⟩
 |map a=>cases a with
  |none=>trivial
  |some a=>exact⟨hs _ h.1,h.2⟩
 |agg c=>exact h.elim
 |tuple c=>exact h.elim
 |_=>trivial
theorem scS_into {v:Value}(h:scS (fun k=>ι (σ k)) m v)(hs:∀ k,k<m→σ k<n):scS ι n (trS (at0 σ) v):=by
 cases v with
 |func f a c =>
  refine⟨?_,fun x hx=>?_⟩
  ·have h1:=h.1
   cases f with
   |yield l=>exact⟨hs _ h1.1,h1.2⟩
   |_=>trivial
  ·simp only [Array.toList_map,List.mem_map] at hx
   obtain⟨y,hy,rfl⟩:=hx
   exact scP_into (h.2 y hy) hs
 |pointer a=>have:=scP_into (ι:=ι) (σ:=σ) (n:=n) (m:=m) (v:=.pointer a);cases a <;> exact this h hs
 |slice a l c=>have:=scP_into (ι:=ι) (σ:=σ) (n:=n) (m:=m) (v:=.slice a l c);cases a <;> exact this h hs
 |map a=>have:=scP_into (ι:=ι) (σ:=σ) (n:=n) (m:=m) (v:=.map a);cases a <;> exact this h hs
 |agg c=>exact h.elim
 |tuple c=>exact h.elim
 |_=>trivial
theorem scA_into {v:Value}(h:scA (fun k=>ι (σ k)) m v)(hs:∀ k,k<m→σ k<n):scA ι n (trA (at0 σ) v):=by
 cases v with
 |agg cs =>
  intro x hx
  simp only [Array.toList_map,List.mem_map] at hx
  obtain⟨y,hy,rfl⟩:=hx
  exact scS_into (h y hy) hs
 |pointer a=>have:=scS_into (ι:=ι) (σ:=σ) (n:=n) (m:=m) (v:=.pointer a);cases a <;> exact this h hs
 |slice a l c=>have:=scS_into (ι:=ι) (σ:=σ) (n:=n) (m:=m) (v:=.slice a l c);cases a <;> exact this h hs
 |map a=>have:=scS_into (ι:=ι) (σ:=σ) (n:=n) (m:=m) (v:=.map a);cases a <;> exact this h hs
 |func f a c=>exact scS_into (ι:=ι) (σ:=σ) (n:=n) (m:=m) (v:=.func f a c) h hs
 |tuple c=>exact h.elim
 |_=>trivial
theorem scT_into {v:Value}(h:scT (fun k=>ι (σ k)) m v)(hs:∀ k,k<m→σ k<n):scT ι n (ren σ v):=by
 unfold ren
 cases v with
 |tuple cs =>
  intro x hx
  simp only [Array.toList_map,List.mem_map] at hx
  obtain⟨y,hy,rfl⟩:=hx
  exact scA_into (h y hy) hs
 |pointer a=>have:=scA_into (ι:=ι) (σ:=σ) (n:=n) (m:=m) (v:=.pointer a);cases a <;> exact this h hs
 |slice a l c=>have:=scA_into (ι:=ι) (σ:=σ) (n:=n) (m:=m) (v:=.slice a l c);cases a <;> exact this h hs
 |map a=>have:=scA_into (ι:=ι) (σ:=σ) (n:=n) (m:=m) (v:=.map a);cases a <;> exact this h hs
 |func f a c=>exact scA_into (ι:=ι) (σ:=σ) (n:=n) (m:=m) (v:=.func f a c) h hs
 |agg c=>exact scA_into (ι:=ι) (σ:=σ) (n:=n) (m:=m) (v:=.agg c) h hs
 |_=>trivial
theorem gS_sh {v:Value}(h:gS v=true):gS (trS (at0 σ) v)=true:=by rw [trS_g h];exact h
end
theorem ret_into {B nx n0 m:Nat}{w w':World}{ι ι0:Nat→Loc}{h h1:Heap}{v1:Value}{K Q:KE}{u:Value}(H:RelH ι B h nx w)
  (hQ:∀ v h' nx',Q v h' nx'→∃ ρ,RenOK 0 ρ [(0,v1)] h1 m [(0,v)] h' nx') (how:cellsH h1=true) (hal:ownH h1=true∨∀ k o,look h k=some o→o.alone=false) (hK:K (ren (fun k=>nx+k) v1) (app (shH nx h1) h) (nx+m))
  (hr:Ret w.heap.size w ι0 n0 Q (.returned u) w'):Ret B w ι nx K (.returned u) w':=by
 obtain⟨v,h',nx',ι',q1,q2,q3,q4,q5,q6,q7⟩:=hr
 obtain⟨ρ,r⟩:=hQ v h' nx' q1
 have hv:v=ren ρ v1∧nmT m v1:=by
  obtain⟨e1,e2⟩:=r.env 0 v1 rfl
  injection e1 with e1
  exact⟨e1,e2⟩
 obtain⟨rfl,hnm⟩:=hv
 obtain⟨ιN,hloc,hold⟩:∃ ιN:Nat→Loc,(∀ j,ιN (nx+j)=ι' (ρ j))∧∀ k,k<nx→ιN k=ι k :=
  ⟨fun k=>if k<nx then ι k else ι' (ρ (k - nx)),fun j=>by
   have:¬ (nx+j<nx):=by omega
   simp only [if_neg this,Nat.add_sub_cancel_left],fun k hk=>if_pos hk⟩
 have hι:(fun k=>ιN (nx+k))=fun k=>ι' (ρ k):=funext hloc
 have hsm:scT (fun k=>ι' (ρ k)) m v1:=scT_ren q2 hnm
 have R1:=r.relH q3
 have H':RelH ι B h nx w':=H.ext q4
 have hscn:scT ιN (nx+m) (ren (fun k=>nx+k) v1):=by
  refine scT_into (m:=m) ?_ (fun k hk=>by omega)
  rw [hι];exact hsm
 have hcase:∀ k o,look (app (shH nx h1) h) k=some o→(look h k=some o∧k<nx)∨(∃ j wr g sz cs,k=nx+j∧look h1 j=some (.cells wr g sz cs)∧o=.cells wr g sz (cs.map (ren1 (fun k=>nx+k)))):=by
  intro k o hk
  rw [look_app] at hk
  split at hk
  ·rename_i o' ho
   injection hk with hk
   subst hk
   obtain⟨j,o',e1,e2,e3⟩:=look_shH h1 ho
   obtain⟨wr,g,sz,cs,rfl⟩:=cellsH_look how e2
   exact .inr ⟨j,wr,g,sz,cs,e1,e2,e3⟩
  ·exact .inl ⟨hk,H.low k _ hk⟩
 refine⟨ren (fun k=>nx+k) v1,_,_,ιN,hK,hscn,⟨?_,?_,?_,H'.size,?_⟩,q4.mono H.size,hold,by omega,?_⟩
 ·intro k o hk
  rcases hcase k o hk with ⟨h2,h3⟩|⟨j,wr,g,sz,cs,rfl,h2,rfl⟩
  ·rw [hold k h3]
   exact (H'.obj k o h2).names (H'.sc k o h2) hold
  ·rw [hloc]
   have ho:=R1.obj j _ h2
   have hsc:=R1.sc j _ h2
   cases hl:ι' (ρ j) with
   |nil p =>
    rw [hl] at ho
    have hcz:cs=[]∧(sz=0∨wr=true→p.isSome=true):=by cases wr <;> exact ho
    obtain⟨hc0,hz⟩:=hcz
    subst hc0
    cases wr <;> exact⟨rfl,hz⟩
   |lay b off e =>
    rw [hl] at ho
    have hcell:∀ {Φ:Nat→Value→Prop},(∀ (i:Nat) y,cs[i]? = some y→Φ i (trS (fun k=>ι' (ρ k)) y))→∀ (i:Nat) v,(cs.map (ren1 (fun k=>nx+k)))[i]? = some v→Φ i (trS ιN v):=by
     intro Φ hΦ i v hv
     rw [List.getElem?_map] at hv
     cases hy:cs[i]? with
     |none=>rw [hy] at hv;cases hv
     |some y =>
      rw [hy] at hv
      injection hv with hv
      subst hv
      have hsy:=hsc y (List.mem_of_getElem? hy)
      have hin:scS ιN (nx+m) (trS (at0 (fun k=>nx+k)) y):=by
       refine scS_into (m:=m) ?_ (fun k hk=>by omega)
       rw [hι];exact hsy
      have:=hΦ i y hy
      rw [← hι,← trS_ren hin] at this
      exact this
    have hgg:∀ {b:Bool},(b=true→allG cs=true)→b=true→allG (cs.map (ren1 (fun k=>nx+k)))=true:=fun h hg=>allG_of fun v hv=>by
     obtain⟨y,hy,rfl⟩:=List.mem_map.1 hv
     exact gS_sh (allG_mem (h hg) hy)
    cases wr with
    |true =>
     obtain⟨a1,a2,arr,t,a3,a4,a5⟩:=ho
     exact⟨Nat.le_trans H.size a1,hgg a2,arr,t,a3,by simpa using a4,hcell (Φ:=fun i v=>arr[off+i]? = some v) a5⟩
    |false =>
     obtain⟨a1,a2,a5⟩:=ho
     exact⟨a1,hgg a2,hcell (Φ:=fun i v=>w'.cell? ⟨b,off+i,none⟩=some v) a5⟩
 ·intro k k' o o' hk hk' hne ha b hb
  rcases hcase k o hk with ⟨h2,h3⟩|⟨j,wr,g,sz,cs,rfl,h2,rfl⟩
  ·rw [hold k h3] at hb
   rcases hcase k' o' hk' with ⟨h4,h5⟩|⟨j',wr',g',sz',cs',rfl,h4,rfl⟩
   ·rw [hold k' h5]
    exact H'.sep k k' o o' h2 h4 hne ha b hb
   ·rw [hloc]
    intro hb'
    have hlt:=(H.obj k o h2).lt hb
    rcases hal with how2|hal
    ·obtain⟨g2,sz2,cs2,e2⟩:=ownH_look how2 h4
     have ho:=R1.obj j' _ h4
     cases hl:ι' (ρ j') with
     |nil p=>rw [hl] at hb';cases hb'
     |lay b2 off e =>
      rw [hl] at hb'
      rw [hl,e2] at ho
      have:b2=b:=by simpa [Loc.blk] using hb'
      have:=ho.1
      omega
    ·rw [hal k o h2] at ha
     cases ha
  ·rw [hloc] at hb
   rcases hcase k' o' hk' with ⟨h4,h5⟩|⟨j',wr',g',sz',cs',rfl,h4,rfl⟩
   ·rw [hold k' h5]
    intro hb'
    have hlt:=(H.obj k' o' h4).lt hb'
    have ho:=R1.obj j _ h2
    cases hl:ι' (ρ j) with
    |nil p=>rw [hl] at hb;cases hb
    |lay b2 off e =>
     rw [hl] at ho hb
     have:b2=b:=by simpa [Loc.blk] using hb
     have hwr:wr=true:=ha
     subst hwr
     have:=ho.1
     omega
   ·rw [hloc]
    exact R1.sep j j' _ _ h2 h4 (fun e=>hne (by rw [e])) ha b hb
 ·intro k o hk
  rcases hcase k o hk with ⟨h2,h3⟩|⟨j,wr,g,sz,cs,rfl,h2,rfl⟩
  ·omega
  ·have:=R1.low j _ h2
   omega
 ·intro k o hk
  rcases hcase k o hk with ⟨h2,h3⟩|⟨j,wr,g,sz,cs,rfl,h2,rfl⟩
  ·exact (H'.sc k o h2).mono (by omega) hold
  ·intro v hv
   obtain⟨y,hy,rfl⟩:=List.mem_map.1 hv
   refine scS_into (m:=m) ?_ (fun k hk=>by omega)
   rw [hι]
   exact R1.sc j _ h2 y hy
 ·rw [q7,tr_ren q2,tr_ren hscn,hι]
def In (args0:List Value)(h0:Heap)(n0:Nat)(args:List Value)(h:Heap)(nx:Nat):Prop :=
 ∀ ι B w,RelH ι B h nx w→(∀ v∈args,scT ι nx v)→∃ ι0,args.map (tr ι)=args0.map (tr ι0)∧(∀ v∈args0,scT ι0 n0 v)∧RelH ι0 w.heap.size h0 n0 w
abbrev Sp:=List Value→Heap→Nat→Value→Heap→Nat→Prop
def past (h1 h:Heap):Heap:=match ownH h1 with|true=>h|false=>shutH h
def xOf (S:Sp):List Value→Heap→Nat→KE→Prop:=fun args h nx K =>
 ∃ args0 h0 n0 v1 h1 m,S args0 h0 n0 v1 h1 m∧In args0 h0 n0 args h nx∧K (ren (fun k=>nx+k) v1) (app (shH nx h1) (past h1 h)) (nx+m)
def Outc (v1:Value)(h1:Heap)(m:Nat):KE:=fun v h' nx'=>∃ ρ,RenOK 0 ρ [(0,v1)] h1 m [(0,v)] h' nx'
theorem xOf_ok {P:Program}{C:VC}{f:Nat}{S:Sp}(hC:CallsOK P C)(hS:∀ args0 h0 n0 v1 h1 m,S args0 h0 n0 v1 h1 m→cellsH h1=true∧∃ Q:KE,C f args0 h0 n0 Q∧∀ v h nx,Q v h nx→Outc v1 h1 m v h nx):XOK P f (xOf S):=by
 refine⟨fun args h nx K hx ι B w H hs=>?_,fun args h nx K hx=>?_⟩
 ·obtain⟨args0,h0,n0,v1,h1,m,s1,s2,s3⟩:=hx
  obtain⟨how,Q,hc,hq⟩:=hS _ _ _ _ _ _ s1
  obtain⟨ι0,e1,e2,e3⟩:=s2 ι B w H hs
  obtain⟨c1,c2⟩:=hC f args0 h0 n0 _ hc ι0 w.heap.size w e3 e2
  refine⟨c1,?_⟩
  rw [e1]
  refine CallsIn.mono c2 fun e w' hr=>?_
  cases e with
  |returned u =>
   unfold past at s3
   cases ho:ownH h1 with
   |true=>rw [ho] at s3;exact ret_into H (fun v h' nx' q=>hq v h' nx' q) how (.inl ho) s3 hr
   |false =>
    rw [ho] at s3
    refine ret_into (H.shut.down H.size) (fun v h' nx' q=>hq v h' nx' q) how (.inr fun k o hk=>?_) s3 hr
    rw [look_shutH] at hk
    cases hq:look h k with
    |none=>rw [hq] at hk;cases hk
    |some q =>
     rw [hq] at hk
     injection hk with hk
     subst hk
     exact closed_alone q
  |_=>exact hr.elim
 ·obtain⟨args0,h0,n0,v1,h1,m,s1,s2,s3⟩:=hx
  exact⟨_,_,_,s3,fun K' hk=>⟨args0,h0,n0,v1,h1,m,s1,s2,hk⟩⟩
theorem noLook {α:Type}{k:Nat}{o:α}{p:Prop}(h:look [] k=some o):p:=by cases h
theorem Outc_g {v:Value}(hv:gT v=true){h':Heap}{nx':Nat}:Outc v [] 0 v h' nx' :=
 ⟨id,⟨fun t u hu=>by
  rw [look_cons] at hu
  split at hu
  ·rename_i hb
   injection hu with hu
   subst hu
   exact⟨by rw [look_cons,hb];show some v=some (ren id v);rw [ren,tr_g hv],scT_g hv⟩
  ·exact noLook hu,fun k o hk=>noLook hk,fun k k' o o' hk=>noLook hk,fun k hk=>rfl,Nat.le_refl _⟩⟩
theorem ren_g {σ:Nat→Nat}{v:Value}(hv:gT v=true):ren σ v=v:=tr_g hv
theorem In_g {args:List Value}(hg:∀ v∈args,gT v=true){h:Heap}{nx:Nat}:In args [] 0 args h nx:=by
 intro ι B w H hs
 refine⟨ι,rfl,fun v hv=>scT_g (hg v hv),⟨fun k o hk=>noLook hk,fun k k' o o' hk=>noLook hk,fun k o hk=>noLook hk,Nat.le_refl _,fun k o hk=>noLook hk⟩⟩
end Go.Aw
end

noncomputable section
namespace Go.Aw
open Go.RowKit
structure Clo where
 f:Nat
 sl:Option (Nat × Nat × List Value)
 rest:List Value
 v1:Value
 h1:Heap
 m:Nat
 ρ:List (Nat × Nat)
def Clo.args (E:Clo):List Value:=match E.sl with|some (n,_,_)=>.slice (some ⟨0,0,none⟩) n n::E.rest|none=>E.rest
def Clo.h0 (E:Clo):Heap:=match E.sl with|some (_,sz,cs)=>[(0,.cells false true sz cs)]|none=>[]
def Clo.n0 (E:Clo):Nat:=match E.sl with|some _=>1|none=>0
def objB (ρ:List (Nat × Nat))(m:Nat)(h':Heap):Heap→Bool
 |[]=>true
 |(k,.cells wr g sz cs)::r=>Nat.blt k m&&nmLB m cs&&(match look h' (nm ρ k) with
  |some (.cells wr' g' sz' cs')=>sameB wr wr'&&sameB g g'&&Nat.beq sz sz'&&sameL cs' (cs.map (ren1 (nm ρ)))
  |_=>false)&&objB ρ m h' r
 |_=>false
def outB (E:Clo):KEB:=fun v h' _=>sameT v (ren (nm E.ρ) E.v1)&&nmTB E.m E.v1&&objB E.ρ E.m h' E.h1
theorem objB_ok {ρ:List (Nat × Nat)}{m:Nat}{h':Heap}:∀ {h1:Heap},objB ρ m h' h1=true→(cellsH h1=true∧∀ k o,look h1 k=some o→k<m∧∃ o',look h' (nm ρ k)=some o'∧ObjRen (nm ρ) m o o')
 |[],_=>⟨rfl,fun k o hk=>noLook hk⟩
 |(k,.cells wr g sz cs)::r,h=>by
  simp only [objB,Bool.and_eq_true] at h
  obtain⟨⟨⟨h1,h2⟩,h3⟩,h4⟩:=h
  obtain⟨i1,i2⟩:=objB_ok h4
  refine⟨by simp only [cellsH,isCells,i1,Bool.and_self],fun j o hj=>?_⟩
  rw [look_cons] at hj
  split at hj
  ·rename_i hb
   have:=beq_true hb
   subst this
   injection hj with hj
   subst hj
   refine⟨Nat.le_of_ble_eq_true h1,?_⟩
   split at h3
   case h_2=>cases h3
   rename_i wr' g' sz' cs' hl
   simp only [Bool.and_eq_true] at h3
   obtain⟨⟨⟨a0,a1⟩,a2⟩,a3⟩:=h3
   exact⟨_,hl,sameB_eq a0,sameB_eq a1,beq_true a2,sameL_eq a3,nmLB_ok h2⟩
  ·exact i2 j o hj
 |(k,.map es)::r,h=>by cases h
 |(k,.loop l)::r,h=>by cases h
 |(k,.deferred)::r,h=>by cases h
 |(k,.zero)::r,h=>by cases h
 |(k,.iter _ _ _ _)::r,h=>by cases h
theorem outB_ok {E:Clo}{v:Value}{h':Heap}{nx':Nat}(hinj:∀ k k' o o',look E.h1 k=some o→look E.h1 k'=some o'→nm E.ρ k=nm E.ρ k'→k=k')(h:outB E v h' nx'=true):cellsH E.h1=true∧Outc E.v1 E.h1 E.m v h' nx':=by
 simp only [outB,Bool.and_eq_true] at h
 obtain⟨⟨h1,h2⟩,h3⟩:=h
 obtain⟨h4,h5⟩:=objB_ok h3
 refine⟨h4,nm E.ρ,⟨fun t u hu=>?_,h5,hinj,fun k hk=>absurd hk (Nat.not_lt_zero k),Nat.zero_le _⟩⟩
 rw [look_cons] at hu
 split at hu
 ·rename_i hb
  injection hu with hu
  subst hu
  exact⟨by rw [look_cons,hb,sameT_eq h1],nmTB_ok h2⟩
 ·exact noLook hu
def injL (ρ:List (Nat × Nat))(h1:Heap):Bool:=h1.all fun p=>h1.all fun q=>!(Nat.beq (nm ρ p.1) (nm ρ q.1)) || Nat.beq p.1 q.1
theorem look_mem {α:Type}{l:List (Nat × α)}{k:Nat}{o:α}(h:look l k=some o):(k,o)∈l:=by
 induction l with
 |nil=>exact noLook h
 |cons x r ih =>
  obtain⟨j,q⟩:=x
  rw [look_cons] at h
  split at h
  ·rename_i hb
   have:=beq_true hb
   subst this
   injection h with h
   subst h
   exact .head _
  ·exact .tail _ (ih h)
theorem injL_ok {ρ:List (Nat × Nat)}{h1:Heap}(h:injL ρ h1=true):∀ k k' o o',look h1 k=some o→look h1 k'=some o'→nm ρ k=nm ρ k'→k=k':=by
 intro k k' o o' a b e
 have h2:=List.all_eq_true.1 (List.all_eq_true.1 h _ (look_mem a)) _ (look_mem b)
 simp only [Bool.or_eq_true,Bool.not_eq_true'] at h2
 rcases h2 with h2|h2
 ·exact absurd e (beq_false h2)
 ·exact beq_true h2
def cloS (L:List Clo)(f:Nat):Sp:=fun args0 h0 n0 v1 h1 m=>∃ E∈L,E.f=f∧args0=E.args∧h0=E.h0∧n0=E.n0∧v1=E.v1∧h1=E.h1∧m=E.m
def hasF (f:Nat):List Clo→Bool
 |[]=>false
 |E::r=>match Nat.beq E.f f with|true=>true|false=>hasF f r
def cloX (L:List Clo)(f:Nat):Option (List Value→Heap→Nat→KE→Prop):=match hasF f L with|true=>some (xOf (cloS L f))|false=>none
def fitB (E:Clo)(args:List Value)(h:Heap):Bool:=match E.sl with
 |none=>sameAL args E.rest&&allGA E.rest
 |some (n,sz,cs0)=>(match args with
  |.slice (some ⟨k,o,none⟩) n' c'::r=>Nat.beq n n'&&Nat.beq n c'&&sameAL r E.rest&&allGA E.rest&&allG cs0&&(match look h k with
   |some (.cells _ _ _ cs)=>Nat.ble 1 sz&&sameL ((cs.drop o).take cs0.length) cs0
   |_=>false)
  |_=>false)
def cloB (f:Nat):List Clo→List Value→Heap→Nat→KEB→Bool
 |[],_,_,_,_=>false
 |E::r,args,h,nx,K=>match Nat.beq E.f f&&fitB E args h with
  |true=>K (ren (fun k=>nx+k) E.v1) (app (shH nx E.h1) (past E.h1 h)) (nx+E.m)
  |false=>cloB f r args h nx K
def cloXB (L:List Clo)(f:Nat):Option (List Value→Heap→Nat→KEB→Bool):=match hasF f L with|true=>some (cloB f L)|false=>none
theorem allGA_mem {l:List Value}(h:allGA l=true){v:Value}(hv:v∈l):gT v=true:=by
 induction l with
 |nil=>cases hv
 |cons x r ih =>
  simp only [allGA,Bool.and_eq_true] at h
  cases hv with
  |head =>
   have:=h.1
   cases v <;> first|exact this|(simp [gA,gS] at this)
  |tail _ hm=>exact ih h.2 hm
theorem In_sl {k o n c:Nat}{r:List Value}(hr:allGA r=true){h:Heap}{nx:Nat}{wr g:Bool}{sz0:Nat}{cs:List Value}(hk:look h k=some (.cells wr g sz0 cs)){cs0:List Value}(hcs:(cs.drop o).take cs0.length=cs0)(hg:allG cs0=true)(g0:Bool)(sz:Nat)(hz:sz≠0) :
  In (.slice (some ⟨0,0,none⟩) n c::r) [(0,.cells false g0 sz cs0)] 1 (.slice (some ⟨k,o,none⟩) n c::r) h nx:=by
 intro ι B w H hs
 have hx:k<nx∧((ι k).isAt=false→n=0∧c=0):=hs _ (.head _)
 have hmap:∀ ι1 ι2:Nat→Loc,r.map (tr ι1)=r.map (tr ι2):=fun ι1 ι2=>List.map_congr_left fun v hv=>by rw [tr_g (allGA_mem hr hv),tr_g (allGA_mem hr hv)]
 have hsc:∀ ι0:Nat→Loc,∀ v∈r,scT ι0 1 v:=fun ι0 v hv=>scT_g (allGA_mem hr hv)
 have ho:=H.obj k _ hk
 cases hι:ι k with
 |nil p =>
  rw [hι] at ho
  have hnil:cs=[]:=by cases wr <;> exact ho.1
  subst hnil
  have h0:cs0=[]:=by rw [← hcs];simp
  subst h0
  refine⟨fun _=>.nil p,?_,?_,⟨?_,?_,?_,Nat.le_refl _,?_⟩⟩
  ·rw [List.map_cons,List.map_cons,hmap ι]
   congr 1
   simp [tr,trA,trS,trP,hι]
  ·intro v hv
   cases hv with
   |head=>exact⟨Nat.one_pos,fun _=>hx.2 (by rw [hι];rfl)⟩
   |tail _ hm=>exact hsc _ v hm
  ·intro j q hq
   rw [look_cons] at hq
   split at hq
   ·injection hq with hq;subst hq;exact⟨rfl,fun h=>h.elim (fun h=>absurd h hz) (fun h=>by cases h)⟩
   ·exact noLook hq
  ·intro j j' q q' hq hq' hne ha b hb
   cases hb
  ·intro j q hq
   rw [look_cons] at hq
   split at hq
   ·rename_i hb;rw [← beq_true hb];exact Nat.one_pos
   ·exact noLook hq
  ·intro j q hq
   rw [look_cons] at hq
   split at hq
   ·injection hq with hq;subst hq;intro v hv;cases hv
   ·exact noLook hq
 |lay b off e =>
  have hlt:b<w.heap.size:=ho.lt (by rw [hι];rfl)
  refine⟨fun _=>.lay b (off+o) e,?_,?_,⟨?_,?_,?_,Nat.le_refl _,?_⟩⟩
  ·rw [List.map_cons,List.map_cons,hmap ι]
   congr 1
   simp [tr,trA,trS,trP,hι]
  ·intro v hv
   cases hv with
   |head=>exact⟨Nat.one_pos,fun h=>by cases h⟩
   |tail _ hm=>exact hsc _ v hm
  ·intro j q hq
   rw [look_cons] at hq
   split at hq
   ·injection hq with hq
    subst hq
    refine⟨hlt,fun _=>hg,fun i v hv=>?_⟩
    have hv2:cs[o+i]? = some v:=by
     rw [← hcs] at hv
     rw [List.getElem?_take] at hv
     split at hv
     ·rw [List.getElem?_drop] at hv;exact hv
     ·cases hv
    obtain⟨b',off',e',hι',hc⟩:=H.cell hk hv2
    rw [hι] at hι'
    injection hι' with e1 e2 e3
    subst e1;subst e2
    have hgv:=allG_mem hg (List.mem_of_getElem? hv)
    rw [Nat.add_assoc,hc,trS_g hgv,trS_g hgv]
   ·exact noLook hq
  ·intro j j' q q' hq hq' hne ha b hb
   rw [look_cons] at hq hq'
   split at hq
   ·rename_i hb1
    split at hq'
    ·rename_i hb2;exact absurd ((beq_true hb1).symm.trans (beq_true hb2)) hne
    ·exact noLook hq'
   ·exact noLook hq
  ·intro j q hq
   rw [look_cons] at hq
   split at hq
   ·rename_i hb;rw [← beq_true hb];exact Nat.one_pos
   ·exact noLook hq
  ·intro j q hq
   rw [look_cons] at hq
   split at hq
   ·injection hq with hq;subst hq;exact fun v hv=>scS_g (allG_mem hg hv)
   ·exact noLook hq
theorem fitB_ok {E:Clo}{args:List Value}{h:Heap}{nx:Nat}(hf:fitB E args h=true):In E.args E.h0 E.n0 args h nx:=by
 unfold fitB at hf
 unfold Clo.args Clo.h0 Clo.n0
 split at hf
 ·rename_i hs
  simp only [Bool.and_eq_true] at hf
  rw [hs]
  rw [sameAL_eq hf.1]
  exact In_g fun v hv=>allGA_mem hf.2 hv
 ·rename_i n sz cs0 hs
  rw [hs]
  split at hf
  case h_2=>cases hf
  rename_i k o n' c' r
  simp only [Bool.and_eq_true] at hf
  obtain⟨⟨⟨⟨⟨h1,h2⟩,h3⟩,h4⟩,h5⟩,h6⟩:=hf
  have:=beq_true h1
  subst this
  have:=beq_true h2
  subst this
  have:=sameAL_eq h3
  subst this
  split at h6
  case h_2=>cases h6
  rename_i wr g sz0 cs hk
  simp only [Bool.and_eq_true] at h6
  have h7:=Nat.le_of_ble_eq_true h6.1
  exact In_sl h4 hk (sameL_eq h6.2) h5 true sz (by omega)
theorem cloB_ok {f:Nat}(L0:List Clo){args:List Value}{h:Heap}{nx:Nat}{K:KEB}{K':KE}(hK:∀ v h nx,K v h nx=true→K' v h nx):∀ (L:List Clo),(∀ E∈L,E∈L0)→cloB f L args h nx K=true→xOf (cloS L0 f) args h nx K'
 |[],_,hl=>by cases hl
 |E::r,hsub,hl=>by
  simp only [cloB] at hl
  split at hl
  ·rename_i hb
   simp only [Bool.and_eq_true] at hb
   exact⟨E.args,E.h0,E.n0,E.v1,E.h1,E.m,⟨E,hsub E (.head _),beq_true hb.1,rfl,rfl,rfl,rfl,rfl,rfl⟩,fitB_ok hb.2,hK _ _ _ hl⟩
  ·exact cloB_ok L0 hK r (fun E hE=>hsub E (.tail _ hE)) hl
theorem cloTwX {c:Cfg}{L:List Clo}(hc:c.X=cloX L):TwX c (cloXB L):=by
 intro f x xb hx hxb args h nx K K' hK hl
 rw [hc] at hx
 unfold cloX at hx
 unfold cloXB at hxb
 split at hx
 ·rename_i hh
  rw [hh] at hxb
  injection hx with hx
  injection hxb with hxb
  subst hx;subst hxb
  exact cloB_ok L hK L (fun _ h=>h) hl
 ·cases hx
def CloOK (c:Cfg)(d:Nat)(E:Clo):Prop:=wcall c (fun _=>none) d false E.f E.args E.h0 E.n0 (outB E)=true∧injL E.ρ E.h1=true
theorem cloXOK {P:Program}{c:Cfg}(hc:CfgOK P c)(hx:c.X=fun _=>none){d:Nat}{L:List Clo}(hL:∀ E∈L,CloOK c d E):∀ f x,cloX L f=some x→XOK P f x:=by
 intro f x hfx
 unfold cloX at hfx
 split at hfx
 case h_2=>cases hfx
 injection hfx with hfx
 subst hfx
 refine xOf_ok (vcall_ok hc d).1 fun args0 h0 n0 v1 h1 m hs=>?_
 obtain⟨E,hE,rfl,rfl,rfl,rfl,rfl,rfl,rfl⟩:=hs
 obtain⟨t1,t2⟩:=hL E hE
 have hX:TwX c (fun _=>none):=fun f x xb hx2=>by rw [hx] at hx2;cases hx2
 have hv:=wcall_tw hX d false E.f E.args E.h0 E.n0 (outB E) (fun v h nx=>cellsH E.h1=true∧Outc E.v1 E.h1 E.m v h nx) (fun v h nx ho=>outB_ok (injL_ok t2) ho) t1
 obtain⟨v,h',nx',k1,k2⟩:=(vcall_ok hc d).2.2.1 _ _ _ _ _ hv
 exact⟨k1.1,_,k2 _ k1.2,fun _ _ _ q=>q⟩
end Go.Aw
end

noncomputable section
namespace Go.Aw
def ltF:Int→Int→Bool
 |.ofNat m,.ofNat n=>Nat.blt m n
 |.ofNat _,.negSucc _=>false
 |.negSucc _,.ofNat _=>true
 |.negSucc m,.negSucc n=>Nat.blt n m
def leF:Int→Int→Bool
 |.ofNat m,.ofNat n=>Nat.ble m n
 |.ofNat _,.negSucc _=>false
 |.negSucc _,.ofNat _=>true
 |.negSucc m,.negSucc n=>Nat.ble n m
def eqF:Int→Int→Bool
 |.ofNat m,.ofNat n=>Nat.beq m n
 |.ofNat _,.negSucc _=>false
 |.negSucc _,.ofNat _=>false
 |.negSucc m,.negSucc n=>Nat.beq m n
def fitsF:IntKind→Int→Bool
 |.i64,.ofNat m=>Nat.ble m 9223372036854775807
 |.i64,.negSucc m=>Nat.ble m 9223372036854775807
 |k,n=>fitsK k n
theorem blt_dec (m n:Nat):Nat.blt m n=decide (m<n):=by
 cases h:Nat.blt m n with
 |true=>exact (decide_eq_true (blt_true h)).symm
 |false =>
  refine (decide_eq_false fun hl=>?_).symm
  have:Nat.blt m n=true:=Nat.ble_eq_true_of_le hl
  rw [h] at this;cases this
theorem ble_dec (m n:Nat):Nat.ble m n=decide (m≤n):=by
 cases h:Nat.ble m n with
 |true=>exact (decide_eq_true (Nat.le_of_ble_eq_true h)).symm
 |false =>
  refine (decide_eq_false fun hl=>?_).symm
  have:Nat.ble m n=true:=Nat.ble_eq_true_of_le hl
  rw [h] at this;cases this
theorem beq_dec (m n:Nat):Nat.beq m n=decide (m=n):=by
 cases h:Nat.beq m n with
 |true=>exact (decide_eq_true (beq_true h)).symm
 |false=>exact (decide_eq_false (beq_false h)).symm
theorem ltF_eq (a b:Int):ltF a b=decide (a<b):=by
 rw [Bool.eq_iff_iff]
 cases a <;> cases b <;> simp only [ltF,blt_dec,decide_eq_true_eq,Int.ofNat_eq_natCast,Int.negSucc_eq,Bool.false_eq_true,false_iff,true_iff] <;> omega
theorem leF_eq (a b:Int):leF a b=decide (a≤b):=by
 rw [Bool.eq_iff_iff]
 cases a <;> cases b <;> simp only [leF,ble_dec,decide_eq_true_eq,Int.ofNat_eq_natCast,Int.negSucc_eq,Bool.false_eq_true,false_iff,true_iff] <;> omega
theorem eqF_eq (a b:Int):eqF a b=decide (a=b):=by
 rw [Bool.eq_iff_iff]
 cases a <;> cases b <;> simp only [eqF,beq_dec,decide_eq_true_eq,Int.ofNat_eq_natCast,Int.negSucc_eq,Bool.false_eq_true,false_iff,true_iff] <;> omega
theorem fitsF_eq (k:IntKind)(n:Int):fitsF k n=fitsK k n:=by
 cases k <;> try rfl
 rw [Bool.eq_iff_iff]
 cases n <;> simp only [fitsF,fitsK,ble_dec,Bool.and_eq_true,decide_eq_true_eq,Int.ofNat_eq_natCast,Int.negSucc_eq] <;> omega
def fastA:Ar:={ std with
 add:=Int.add,sub:=Int.sub,mul:=Int.mul
 lt:=ltF,le:=leF,eq:=eqF,fits:=fitsF
 ix:=fun o i s=>Nat.add o (Nat.mul i.toNat s)
 num:=Int.ofNat,toN:=Int.toNat,subN:=Nat.sub }
theorem fastA_eq:fastA=std:=by
 unfold fastA
 rw [show ltF=std.lt from funext fun a=>funext fun b=>ltF_eq a b,show leF=std.le from funext fun a=>funext fun b=>leF_eq a b,
  show eqF=std.eq from funext fun a=>funext fun b=>eqF_eq a b,show fitsF=std.fits from funext fun a=>funext fun b=>fitsF_eq a b]
 rfl
end Go.Aw
end

noncomputable section
namespace Go.Aw
open Go.RowKit
theorem bm {b:Bool}{X Y:Prop}(h1:b=true→X)(h2:b=false→Y):(match (generalizing:=false) b with|true=>X|false=>Y):=by
 cases b
 ·exact h2 rfl
 ·exact h1 rfl
theorem boL {x:Option (List Value)}{v:List Value}{G:List Value→Prop}(h:x=some v)(k:G v):(match (generalizing:=false) x with|some v=>G v|none=>False):=by
 subst h
 exact k
theorem boV {x:Option Value}{v:Value}{G:Value→Prop}(h:x=some v)(k:G v):(match (generalizing:=false) x with|some v=>G v|none=>False):=by
 subst h
 exact k
abbrev XF:=List Value→Heap→Nat→KE→Prop
def CX (X:Nat→Option XF):VC:=fun f args h nx K=>match X f with|some x=>x args h nx K|none=>False
def noY:VY:=fun _ _ _ _ _=>False
theorem CX_ok {P:Program}{X:Nat→Option XF}(hX:∀ f x,X f=some x→XOK P f x):CallsOK P (CX X):=by
 intro f args h nx K hl ι B w H hs
 unfold CX at hl
 split at hl
 ·rename_i x hx
  exact (hX f x hx).1 args h nx K hl ι B w H hs
 ·exact hl.elim
theorem CX_det {P:Program}{X:Nat→Option XF}(hX:∀ f x,X f=some x→XOK P f x):DetC (CX X):=by
 intro f args h nx K hl
 unfold CX at hl
 split at hl
 ·rename_i x hx
  obtain⟨v,h',nx',k1,k2⟩:=(hX f x hx).2 args h nx K hl
  exact⟨v,h',nx',k1,fun K' hk=>by unfold CX;rw [hx];exact k2 K' hk⟩
 ·exact hl.elim
theorem noY_ok {P:Program}:YieldsOK P noY:=fun _ _ _ _ _ hl=>hl.elim
theorem noY_det:DetC noY:=fun _ _ _ _ _ hl=>hl.elim
theorem XOK.mono {P:Program}{f:Nat}{x x':XF}(h:XOK P f x)(hm:∀ args h nx K,x' args h nx K→x args h nx K)(hd:∀ args h nx,DetE (x' args h nx)):XOK P f x' :=
 ⟨fun args hh nx K hx=>h.1 args hh nx K (hm _ _ _ _ hx),hd⟩
def gX (s:List Value→Option (Bool × Value)):XF:=fun args h nx K=>match s args with|some p=>must p.1 (K p.2 h nx)|none=>False
theorem app_nil (h:Heap):app h []=h:=by
 induction h with
 |nil=>rfl
 |cons x r ih=>simp only [app,ih]
theorem gX_ok {P:Program}{C:VC}{f:Nat}{s:List Value→Option (Bool × Value)}(hC:CallsOK P C)
  (hs:∀ args v,s args=some (true,v)→allGA args=true∧gT v=true∧C f args [] 0 (fun u _ _=>u=v)):XOK P f (gX s):=by
 refine (xOf_ok (S:=fun args0 h0 n0 v1 h1 m=>s args0=some (true,v1)∧h0=[]∧n0=0∧h1=[]∧m=0) hC ?_).mono ?_ ?_
 ·rintro args0 h0 n0 v1 h1 m ⟨e1,rfl,rfl,rfl,rfl⟩
  obtain⟨a1,a2,a3⟩:=hs args0 v1 e1
  refine⟨rfl,?_⟩
  exact⟨_,a3,fun v h nx e=>by rw [e];exact Outc_g a2⟩
 ·intro args h nx K hx
  unfold gX at hx
  split at hx
  ·rename_i p e1
   obtain⟨b,v⟩:=p
   obtain⟨rfl,hx⟩:=must_iff.1 hx
   obtain⟨a1,a2,a3⟩:=hs args v e1
   refine⟨args,[],0,v,[],0,⟨e1,rfl,rfl,rfl,rfl⟩,In_g fun u hu=>allGA_mem a1 hu,?_⟩
   simp only [past,ownH,shH,app_nil,ren_g a2,Nat.add_zero]
   exact hx
  ·exact hx.elim
 ·intro args h nx K hx
  unfold gX at hx
  split at hx
  ·rename_i p e1
   obtain⟨hb,hx⟩:=must_iff.1 hx
   exact⟨p.2,h,nx,hx,fun K' hk=>by unfold gX;rw [e1];exact must_of hb hk⟩
  ·exact hx.elim
theorem ObjRen_g {ρ:Nat→Nat}{n sz:Nat}{wr g:Bool}{cs:List Value}(hg:allG cs=true):ObjRen ρ n (.cells wr g sz cs) (.cells wr g sz cs) :=
 ⟨rfl,rfl,rfl,(map_trS_g hg).symm,fun v hv=>scS_g (allG_mem hg hv)⟩
theorem Into_id {b n0 nx:Nat}{I:KS}{e0 e:List (Nat × Value)}{h0 h:Heap}(hI:I e0 h0 n0)(he:∀ p∈e0,look e p.1=some (ren id p.2)∧nmT n0 p.2)
  (hh:∀ p∈h0,p.1<n0∧∃ o',look h (id p.1)=some o'∧ObjRen id n0 p.2 o') (hb:b≤n0):Into b I e h nx :=
 ⟨e0,h0,n0,id,hI,fun t v hv=>he (t,v) (look_mem hv),fun k o hk=>hh (k,o) (look_mem hk),fun k k' o o' _ _ e=>e,fun k _=>rfl,hb⟩
def flat {α:Type}(fl:α→List Value):List α→List Value
 |[]=>[]
 |a::r=>fl a++flat fl r
structure El (α:Type) where
 fl:α→List Value
 sz:Nat
 len:∀ a,(fl a).length=sz
 gr:∀ a,allG (fl a)=true
 pos:sz≠0:=by decide
section
variable {α:Type}(E:El α)
theorem flat_len (l:List α):(flat E.fl l).length=l.length*E.sz:=by
 induction l with
 |nil=>simp [flat]
 |cons a r ih=>simp only [flat,List.length_append,E.len,ih,List.length_cons,Nat.succ_mul];omega
theorem flat_g (l:List α):allG (flat E.fl l)=true:=by
 induction l with
 |nil=>rfl
 |cons a r ih=>simp only [flat,allG_append,E.gr,ih,Bool.and_self]
theorem getN_eq {l:List Value}{o n:Nat}(h:o+n≤l.length):getN l o n=some ((l.drop o).take n):=by
 induction n generalizing o with
 |zero=>simp [getN]
 |succ n ih =>
  have hlt:o<l.length:=by omega
  simp only [getN,nth_eq,List.getElem?_eq_getElem hlt,ih (o:=o+1) (by omega)]
  congr 1
  rw [List.drop_eq_getElem_cons hlt]
  rfl
theorem flat_at (l:List α)(i:Nat)(hi:i<l.length):((flat E.fl l).drop (i*E.sz)).take E.sz=E.fl l[i]:=by
 induction l generalizing i with
 |nil=>simp at hi
 |cons a r ih =>
  cases i with
  |zero =>
   simp only [flat,Nat.zero_mul,List.drop_zero,List.getElem_cons_zero]
   rw [List.take_append_of_le_length (by rw [E.len];exact Nat.le_refl _),List.take_of_length_le (by rw [E.len];exact Nat.le_refl _)]
  |succ i =>
   have hl:(fl:List Value)→True:=fun _=>trivial
   simp only [flat,List.getElem_cons_succ]
   rw [show (i+1)*E.sz=(E.fl a).length+i*E.sz by rw [E.len,Nat.succ_mul];omega,List.drop_append,Nat.add_sub_cancel_left,List.drop_eq_nil_of_le (by omega),List.nil_append]
   exact ih i (by simpa using hi)
theorem flat_get (l:List α){i o:Nat}(hi:i<l.length)(ho:o=i*E.sz):getN (flat E.fl l) o E.sz=some (E.fl l[i]):=by
 subst ho
 have h1:(i+1)*E.sz≤l.length*E.sz:=Nat.mul_le_mul_right _ hi
 rw [getN_eq (by rw [flat_len];rw [Nat.succ_mul] at h1;exact h1),flat_at E l i hi]
def LsAt (h:Heap)(v:Value)(l:List α):Prop :=
 match v with
 |.slice none n c=>n=0∧c=0∧l=[]
 |.slice (some ⟨k,o,none⟩) n _=>n=l.length∧∃ wr g sz cs,look h k=some (.cells wr g sz cs)∧(cs.drop o).take (flat E.fl l).length=flat E.fl l
 |_=>False
def lX (s:List α→List Value→Option (Bool × Value)):XF:=fun args h nx K=>match args with
 |v::r=>∃ l,LsAt E h v l∧(match s l r with|some p=>must p.1 (K p.2 h nx)|none=>False)
 |_=>False
theorem In_nil {r:List Value}(hr:allGA r=true){h:Heap}{nx:Nat}(g0:Bool)(sz:Nat)(hz:sz≠0):In (.slice (some ⟨0,0,none⟩) 0 0::r) [(0,.cells false g0 sz [])] 1 (.slice none 0 0::r) h nx:=by
 intro ι B w H hs
 have hmap:∀ ι1 ι2:Nat→Loc,r.map (tr ι1)=r.map (tr ι2):=fun ι1 ι2=>List.map_congr_left fun v hv=>by rw [tr_g (allGA_mem hr hv),tr_g (allGA_mem hr hv)]
 refine⟨fun _=>.nil none,?_,?_,⟨?_,?_,?_,Nat.le_refl _,?_⟩⟩
 ·rw [List.map_cons,List.map_cons,hmap ι]
  rfl
 ·intro v hv
  cases hv with
  |head=>exact⟨Nat.one_pos,fun _=>⟨rfl,rfl⟩⟩
  |tail _ hm=>exact scT_g (allGA_mem hr hm)
 ·intro j q hq
  rw [look_cons] at hq
  split at hq
  ·injection hq with hq;subst hq;exact⟨rfl,fun h=>h.elim (fun h=>absurd h hz) (fun h=>by cases h)⟩
  ·exact noLook hq
 ·intro j j' q q' hq hq' hne ha b hb
  cases hb
 ·intro j q hq
  rw [look_cons] at hq
  split at hq
  ·rename_i hb;rw [← beq_true hb];exact Nat.one_pos
  ·exact noLook hq
 ·intro j q hq
  rw [look_cons] at hq
  split at hq
  ·injection hq with hq;subst hq;intro v hv;cases hv
  ·exact noLook hq
theorem lX_ok {P:Program}{C:VC}{f:Nat}{s:List α→List Value→Option (Bool × Value)}(hC:CallsOK P C)
  (hs:∀ l r v,s l r=some (true,v)→allGA r=true∧gT v=true∧∀ c,C f (.slice (some ⟨0,0,none⟩) l.length c::r) [(0,.cells false true E.sz (flat E.fl l))] 1 (fun u _ _=>u=v)):XOK P f (lX E s):=by
 refine (xOf_ok (S:=fun args0 h0 n0 v1 h1 m=>∃ l r c,s l r=some (true,v1)∧args0=.slice (some ⟨0,0,none⟩) l.length c::r∧h0=[(0,.cells false true E.sz (flat E.fl l))]∧n0=1∧h1=[]∧m=0) hC ?_).mono ?_ ?_
 ·rintro args0 h0 n0 v1 h1 m ⟨l,r,c,e1,rfl,rfl,rfl,rfl,rfl⟩
  obtain⟨a1,a2,a3⟩:=hs l r v1 e1
  exact⟨rfl,_,a3 c,fun v h nx e=>by rw [e];exact Outc_g a2⟩
 ·intro args h nx K hx
  unfold lX at hx
  split at hx
  case h_2=>exact hx.elim
  rename_i v r
  obtain⟨l,hl,hx⟩:=hx
  split at hx
  case h_2=>exact hx.elim
  rename_i p e1
  obtain⟨b,u⟩:=p
  obtain⟨rfl,hx⟩:=must_iff.1 hx
  obtain⟨a1,a2,a3⟩:=hs l r u e1
  have hK:K (ren (fun k=>nx+k) u) (app (shH nx []) (past [] h)) (nx+0):=by
   simp only [past,ownH,shH,app_nil,ren_g a2,Nat.add_zero]
   exact hx
  unfold LsAt at hl
  split at hl
  ·rename_i n c
   obtain⟨rfl,rfl,rfl⟩:=hl
   exact⟨_,_,1,u,[],0,⟨[],r,0,e1,rfl,rfl,rfl,rfl,rfl⟩,In_nil a1 true E.sz E.pos,hK⟩
  ·rename_i k o n c
   obtain⟨rfl,wr,g,sz,cs,hk,hcs⟩:=hl
   exact⟨_,_,1,u,[],0,⟨l,r,c,e1,rfl,rfl,rfl,rfl,rfl⟩,In_sl a1 hk hcs (flat_g E l) true E.sz E.pos,hK⟩
  ·exact hl.elim
 ·intro args h nx K hx
  unfold lX at hx
  split at hx
  case h_2=>exact hx.elim
  rename_i v r
  obtain⟨l,hl,hx⟩:=hx
  split at hx
  case h_2=>exact hx.elim
  rename_i p e1
  obtain⟨hb,hx⟩:=must_iff.1 hx
  exact⟨p.2,h,nx,hx,fun K' hk=>⟨l,hl,by rw [e1];exact must_of hb hk⟩⟩
end
end Go.Aw
end

noncomputable section
namespace Go.Aw
open Go.RowKit
def mv (k0 q:Nat):Nat→Nat:=fun k=>match Nat.beq k k0 with|true=>q|false=>k
theorem mv_ne {k0 q k:Nat}(h:k≠k0):mv k0 q k=k:=by
 unfold mv
 split
 ·rename_i hb;exact absurd (beq_true hb) h
 ·rfl
theorem mv_eq (k0 q:Nat):mv k0 q k0=q:=by
 unfold mv
 rw [Nat.beq_refl]
theorem Into_mv {b n0 nx:Nat}{I:KS}{e0 e:List (Nat × Value)}{h0 h:Heap}(k0 q:Nat)(hb:b≤k0)(hbn:b≤n0)(hI:I e0 h0 n0)(he:∀ p∈e0,look e p.1=some (ren (mv k0 q) p.2)∧nmT n0 p.2)
  (hh:∀ p∈h0,p.1<n0∧∃ o',look h (mv k0 q p.1)=some o'∧ObjRen (mv k0 q) n0 p.2 o') (hq:∀ p∈h0,p.1≠k0→p.1≠q):Into b I e h nx:=by
 refine⟨e0,h0,n0,mv k0 q,hI,fun t v hv=>he (t,v) (look_mem hv),fun k o hk=>hh (k,o) (look_mem hk),fun k k' o o' hk hk' e=>?_,fun k hk=>mv_ne (by omega),hbn⟩
 by_cases h1:k=k0
 ·by_cases h2:k'=k0
  ·rw [h1,h2]
  ·subst h1
   rw [mv_eq,mv_ne h2] at e
   exact absurd e.symm (hq (k',o') (look_mem hk') h2)
 ·by_cases h2:k'=k0
  ·subst h2
   rw [mv_eq,mv_ne h1] at e
   exact absurd e (hq (k,o) (look_mem hk) h1)
  ·rw [mv_ne h1,mv_ne h2] at e
   exact e
def wrapV:Option Int→Value→Value
 |none,v=>v
 |some e,v=>.tuple #[v,.int .i64 e]
section
variable {α:Type}(E:El α)
def fX (s:List Value→Option (Bool × List α × Option Int)):XF:=fun args h nx K=>match s args with
 |some p=>must p.1 (match p.2.1 with
  |[]=>K (wrapV p.2.2 (.slice none 0 0)) h nx
  |a::r=>K (wrapV p.2.2 (.slice (some ⟨nx,0,none⟩) (a::r).length (a::r).length)) (hput h nx (.cells true false E.sz (flat E.fl (a::r)))) (nx+1))
 |none=>False
def Yields (l:List α)(e:Option Int):KE:=fun v h _=>match l with
 |[]=>v=wrapV e (.slice none 0 0)
 |a::r=>∃ q,v=wrapV e (.slice (some ⟨q,0,none⟩) (a::r).length (a::r).length)∧look h q=some (.cells true false E.sz (flat E.fl (a::r)))
theorem wrapV_ren {ρ:Nat→Nat}(e:Option Int){k n c:Nat}:ren ρ (wrapV e (.slice (some ⟨k,0,none⟩) n c))=wrapV e (.slice (some ⟨ρ k,0,none⟩) n c):=by
 cases e with
 |none=>rfl
 |some e=>simp [wrapV,ren,tr,trA,trS,trP,at0]
theorem wrapV_nil (e:Option Int):gT (wrapV e (.slice none 0 0))=true:=by cases e <;> rfl
theorem wrapV_nm (e:Option Int)(n c:Nat):nmT 1 (wrapV e (.slice (some ⟨0,0,none⟩) n c)):=by
 cases e with
 |none=>exact⟨Nat.one_pos,fun h=>by cases h⟩
 |some e =>
  intro v hv
  simp at hv
  rcases hv with rfl|rfl
  ·exact⟨Nat.one_pos,fun h=>by cases h⟩
  ·trivial
end
end Go.Aw
end

noncomputable section
namespace Go.Aw
theorem ObjRen_j {ρ:Nat→Nat}{n sz:Nat}{wr g:Bool}{cs cs':List Value}(hg:allG cs=true)(e:cs'=cs):ObjRen ρ n (.cells wr g sz cs) (.cells wr g sz cs'):=by
 subst e
 exact ObjRen_g hg
theorem flat_append {α:Type}(fl:α→List Value)(l m:List α):flat fl (l++m)=flat fl l++flat fl m:=by
 induction l with
 |nil=>rfl
 |cons a r ih=>simp only [List.cons_append,flat,ih,List.append_assoc]
theorem Yields_own {α:Type}(E:El α){l:List α}{e:Option Int}{h:Heap}{q nx:Nat}(hl:0<l.length)(hq:look h q=some (.cells true false E.sz (flat E.fl l))):Yields E l e (wrapV e (.slice (some ⟨q,0,none⟩) l.length l.length)) h nx:=by
 cases l with
 |nil=>cases hl
 |cons a r=>exact⟨q,rfl,hq⟩
end Go.Aw
end
