/-
  Parts of the proof, put together. No condition.
-/
import Derived.Test.YtjahkcbdecgbhaaGreatQAn
import Derived.Test.YtjahkcbdecgbhaaGreatQAq
set_option linter.unusedSimpArgs false
set_option linter.unusedVariables false
noncomputable section
namespace Go.Aw
open Go.RowKit
def R8 (n:Nat):aV→aV
 |.cells wr g sz cs=>.cells wr g sz (cs.map (bO (fun k=>n+k)))
 |o=>o
def l8 (n:Nat):Heap→Heap
 |[]=>[]
 |(k,o)::r=>(n+k,R8 n o)::l8 n r
theorem lJ {n:Nat}(h:Heap){k:Nat}{o:aV}(hl:look (l8 n h) k=some o):∃ j o',k=n+j∧look h j=some o'∧o=R8 n o':=by
 induction h with
 |nil=>cases hl
 |cons x r ih =>
  obtain⟨j,q⟩:=x;simp only [l8,aD] at hl;split at hl
  ·rename_i hb;injection hl with hl;exact⟨j,q,(beq_true hb).symm,by rw [aD,show Nat.beq j j=true from Nat.beq_refl j],hl.symm⟩
  ·rename_i hb;obtain⟨j',o',h1,h2,h3⟩:=ih hl;refine⟨j',o',h1,?_,h3⟩;have:Nat.beq j j'=false:=by
    cases hb':Nat.beq j j' with
    |false=>rfl
    |true =>
     have:=beq_true hb';subst this;rw [h1,Nat.beq_refl] at hb;cases hb
   rw [aD,this];exact h2
def UO:aV→Bool
 |.cells true _ _ _=>true
 |_=>false
def rI:Heap→Bool
 |[]=>true
 |(_,o)::r=>UO o&&rI r
theorem VI {h:Heap}(hh:rI h=true){k:Nat}{o:aV}(hl:look h k=some o):∃ g sz cs,o=.cells true g sz cs:=by
 induction h with
 |nil=>cases hl
 |cons x r ih =>
  obtain⟨j,q⟩:=x;simp only [rI,Bool.and_eq_true] at hh;rw [aD] at hl;split at hl
  ·injection hl with hl;subst hl;cases q with
   |cells wr g sz cs =>
    cases wr with
    |true=>exact⟨g,sz,cs,rfl⟩
    |false=>simp [UO] at hh
   |_=>simp [UO] at hh
  ·exact ih hh.2 hl
def I6:aV→Bool
 |.cells _ _ _ _=>true
 |_=>false
def iI:Heap→Bool
 |[]=>true
 |(_,o)::r=>I6 o&&iI r
theorem s8 {h:Heap}(hh:iI h=true){k:Nat}{o:aV}(hl:look h k=some o):∃ wr g sz cs,o=.cells wr g sz cs:=by
 induction h with
 |nil=>cases hl
 |cons x r ih =>
  obtain⟨j,q⟩:=x;simp only [iI,Bool.and_eq_true] at hh;rw [aD] at hl;split at hl
  ·injection hl with hl;subst hl;cases q with
   |cells wr g sz cs=>exact⟨wr,g,sz,cs,rfl⟩
   |_=>simp [I6] at hh
  ·exact ih hh.2 hl
theorem IX (o:aV):o.closed.alone=false:=by cases o <;> rfl
section
variable {ι:Nat→Loc}{σ:Nat→Nat}{n m:Nat}
theorem y8 {v:Value}(h:oG (fun k=>ι (σ k)) m v)(hs:∀ k,k<m→σ k<n):oG ι n (dS (lH σ) v):=by
 cases v with
 |pointer a=>cases a with
  |none=>trivial
  |some a=>exact⟨hs _ h.1,h.2⟩
 |slice a l c=>cases a with
  |none=>trivial
  |some a=>exact⟨hs _ h.1,fun hf=>h.2 hf⟩
 |map a=>cases a with
  |none=>trivial
  |some a=>exact⟨hs _ h.1,h.2⟩
 |agg c=>exact h.elim
 |tuple c=>exact h.elim
 |_=>trivial
theorem jP {v:Value}(h:gN (fun k=>ι (σ k)) m v)(hs:∀ k,k<m→σ k<n):gN ι n (bS (lH σ) v):=by
 cases v with
 |func f a c =>
  refine⟨?_,fun x hx=>?_⟩
  ·have h1:=h.1;cases f with
   |yield l=>exact⟨hs _ h1.1,h1.2⟩
   |_=>trivial
  ·simp only [Array.toList_map,List.mem_map] at hx;obtain⟨y,hy,rfl⟩:=hx;exact y8 (h.2 y hy) hs
 |pointer a=>have:=y8 (ι:=ι) (σ:=σ) (n:=n) (m:=m) (v:=.pointer a);cases a <;> exact this h hs
 |slice a l c=>have:=y8 (ι:=ι) (σ:=σ) (n:=n) (m:=m) (v:=.slice a l c);cases a <;> exact this h hs
 |map a=>have:=y8 (ι:=ι) (σ:=σ) (n:=n) (m:=m) (v:=.map a);cases a <;> exact this h hs
 |agg c=>exact h.elim
 |tuple c=>exact h.elim
 |_=>trivial
theorem o6 {v:Value}(h:kH (fun k=>ι (σ k)) m v)(hs:∀ k,k<m→σ k<n):kH ι n (dO (lH σ) v):=by
 cases v with
 |agg cs =>
  intro x hx;simp only [Array.toList_map,List.mem_map] at hx;obtain⟨y,hy,rfl⟩:=hx;exact jP (h y hy) hs
 |pointer a=>have:=jP (ι:=ι) (σ:=σ) (n:=n) (m:=m) (v:=.pointer a);cases a <;> exact this h hs
 |slice a l c=>have:=jP (ι:=ι) (σ:=σ) (n:=n) (m:=m) (v:=.slice a l c);cases a <;> exact this h hs
 |map a=>have:=jP (ι:=ι) (σ:=σ) (n:=n) (m:=m) (v:=.map a);cases a <;> exact this h hs
 |func f a c=>exact jP (ι:=ι) (σ:=σ) (n:=n) (m:=m) (v:=.func f a c) h hs
 |tuple c=>exact h.elim
 |_=>trivial
theorem ZZ {v:Value}(h:eL (fun k=>ι (σ k)) m v)(hs:∀ k,k<m→σ k<n):eL ι n (jH σ v):=by
 unfold jH;cases v with
 |tuple cs =>
  intro x hx;simp only [Array.toList_map,List.mem_map] at hx;obtain⟨y,hy,rfl⟩:=hx;exact o6 (h y hy) hs
 |pointer a=>have:=o6 (ι:=ι) (σ:=σ) (n:=n) (m:=m) (v:=.pointer a);cases a <;> exact this h hs
 |slice a l c=>have:=o6 (ι:=ι) (σ:=σ) (n:=n) (m:=m) (v:=.slice a l c);cases a <;> exact this h hs
 |map a=>have:=o6 (ι:=ι) (σ:=σ) (n:=n) (m:=m) (v:=.map a);cases a <;> exact this h hs
 |func f a c=>exact o6 (ι:=ι) (σ:=σ) (n:=n) (m:=m) (v:=.func f a c) h hs
 |agg c=>exact o6 (ι:=ι) (σ:=σ) (n:=n) (m:=m) (v:=.agg c) h hs
 |_=>trivial
theorem aDW {v:Value}(h:gS v=true):gS (bS (lH σ) v)=true:=by rw [lF h];exact h
end
theorem L8 {B nx n0 m:Nat}{w w':World}{ι ι0:Nat→Loc}{h h1:Heap}{v1:Value}{K Q:KE}{u:Value}(H:aQ ι B h nx w)
  (hQ:∀ v h' nx',Q v h' nx'→∃ ρ,pC 0 ρ [(0,v1)] h1 m [(0,v)] h' nx') (how:iI h1=true) (hal:rI h1=true∨∀ k o,look h k=some o→o.alone=false) (hK:K (jH (fun k=>nx+k) v1) (app (l8 nx h1) h) (nx+m))
  (hr:Ret w.heap.size w ι0 n0 Q (.returned u) w'):Ret B w ι nx K (.returned u) w':=by
 obtain⟨v,h',nx',ι',q1,q2,q3,q4,q5,q6,q7⟩:=hr;obtain⟨ρ,r⟩:=hQ v h' nx' q1;have hv:v=jH ρ v1∧BM m v1:=by
  obtain⟨e1,e2⟩:=r.env 0 v1 rfl;injection e1 with e1;exact⟨e1,e2⟩
 obtain⟨rfl,hnm⟩:=hv;obtain⟨ιN,hloc,hold⟩:∃ ιN:Nat→Loc,(∀ j,ιN (nx+j)=ι' (ρ j))∧∀ k,k<nx→ιN k=ι k :=
  ⟨fun k=>if k<nx then ι k else ι' (ρ (k - nx)),fun j=>by
   have:¬ (nx+j<nx):=(by omega);simp only [if_neg this,Nat.add_sub_cancel_left],fun k hk=>if_pos hk⟩
 have hι:(fun k=>ιN (nx+k))=fun k=>ι' (ρ k):=funext hloc;have hsm:eL (fun k=>ι' (ρ k)) m v1:=CB q2 hnm;have R1:=r.aED q3;have H':aQ ι B h nx w':=H.ext q4;have hscn:eL ιN (nx+m) (jH (fun k=>nx+k) v1):=by
  refine ZZ (m:=m) ?_ (fun k hk=>by omega);rw [hι];exact hsm
 have hcase:∀ k o,look (app (l8 nx h1) h) k=some o→(look h k=some o∧k<nx)∨(∃ j wr g sz cs,k=nx+j∧look h1 j=some (.cells wr g sz cs)∧o=.cells wr g sz (cs.map (bO (fun k=>nx+k)))):=by
  intro k o hk;rw [fY] at hk;split at hk
  ·rename_i o' ho;injection hk with hk;subst hk;obtain⟨j,o',e1,e2,e3⟩:=lJ h1 ho;obtain⟨wr,g,sz,cs,rfl⟩:=s8 how e2;exact .inr ⟨j,wr,g,sz,cs,e1,e2,e3⟩
  ·exact .inl ⟨hk,H.low k _ hk⟩
 refine⟨jH (fun k=>nx+k) v1,_,_,ιN,hK,hscn,⟨?_,?_,?_,H'.size,?_⟩,q4.mono H.size,hold,by omega,?_⟩
 ·intro k o hk;rcases hcase k o hk with ⟨h2,h3⟩|⟨j,wr,g,sz,cs,rfl,h2,rfl⟩
  ·rw [hold k h3];exact (H'.obj k o h2).names (H'.sc k o h2) hold
  ·rw [hloc];have ho:=R1.obj j _ h2;have hsc:=R1.sc j _ h2;cases hl:ι' (ρ j) with
   |nil p =>
    rw [hl] at ho;have hcz:cs=[]∧(sz=0∨wr=true→p.isSome=true):=(by cases wr <;> exact ho);obtain⟨hc0,hz⟩:=hcz;subst hc0;cases wr <;> exact⟨rfl,hz⟩
   |lay b off e =>
    rw [hl] at ho;have hcell:∀ {Φ:Nat→Value→Prop},(∀ (i:Nat) y,cs[i]? = some y→Φ i (bS (fun k=>ι' (ρ k)) y))→∀ (i:Nat) v,(cs.map (bO (fun k=>nx+k)))[i]? = some v→Φ i (bS ιN v):=by
     intro Φ hΦ i v hv;rw [List.getElem?_map] at hv;cases hy:cs[i]? with
     |none=>rw [hy] at hv;cases hv
     |some y =>
      rw [hy] at hv;injection hv with hv;subst hv;have hsy:=hsc y (List.mem_of_getElem? hy);have hin:gN ιN (nx+m) (bS (lH (fun k=>nx+k)) y):=by
       refine jP (m:=m) ?_ (fun k hk=>by omega);rw [hι];exact hsy
      have:=hΦ i y hy;rw [← hι,← iO hin] at this;exact this
    have hgg:∀ {b:Bool},(b=true→c7 cs=true)→b=true→c7 (cs.map (bO (fun k=>nx+k)))=true:=fun h hg=>uM fun v hv=>by
     obtain⟨y,hy,rfl⟩:=List.mem_map.1 hv;exact aDW (bA (h hg) hy)
    cases wr with
    |true =>
     obtain⟨a1,a2,arr,t,a3,a4,a5⟩:=ho;exact⟨Nat.le_trans H.size a1,hgg a2,arr,t,a3,by simpa using a4,hcell (Φ:=fun i v=>arr[off+i]? = some v) a5⟩
    |false =>
     obtain⟨a1,a2,a5⟩:=ho;exact⟨a1,hgg a2,hcell (Φ:=fun i v=>w'.cell? ⟨b,off+i,none⟩=some v) a5⟩
 ·intro k k' o o' hk hk' hne ha b hb;rcases hcase k o hk with ⟨h2,h3⟩|⟨j,wr,g,sz,cs,rfl,h2,rfl⟩
  ·rw [hold k h3] at hb;rcases hcase k' o' hk' with ⟨h4,h5⟩|⟨j',wr',g',sz',cs',rfl,h4,rfl⟩
   ·rw [hold k' h5];exact H'.sep k k' o o' h2 h4 hne ha b hb
   ·rw [hloc];intro hb';have hlt:=(H.obj k o h2).lt hb;rcases hal with how2|hal
    ·obtain⟨g2,sz2,cs2,e2⟩:=VI how2 h4;have ho:=R1.obj j' _ h4;cases hl:ι' (ρ j') with
     |nil p=>rw [hl] at hb';cases hb'
     |lay b2 off e =>
      rw [hl] at hb';rw [hl,e2] at ho;have:b2=b:=(by simpa [Loc.CA] using hb');have:=ho.1;omega
    ·rw [hal k o h2] at ha;cases ha
  ·rw [hloc] at hb;rcases hcase k' o' hk' with ⟨h4,h5⟩|⟨j',wr',g',sz',cs',rfl,h4,rfl⟩
   ·rw [hold k' h5];intro hb';have hlt:=(H.obj k' o' h4).lt hb';have ho:=R1.obj j _ h2;cases hl:ι' (ρ j) with
    |nil p=>rw [hl] at hb;cases hb
    |lay b2 off e =>
     rw [hl] at ho hb;have:b2=b:=(by simpa [Loc.CA] using hb);have hwr:wr=true:=ha;subst hwr;have:=ho.1;omega
   ·rw [hloc];exact R1.sep j j' _ _ h2 h4 (fun e=>hne (by rw [e])) ha b hb
 ·intro k o hk;rcases hcase k o hk with ⟨h2,h3⟩|⟨j,wr,g,sz,cs,rfl,h2,rfl⟩
  ·omega
  ·have:=R1.low j _ h2;omega
 ·intro k o hk;rcases hcase k o hk with ⟨h2,h3⟩|⟨j,wr,g,sz,cs,rfl,h2,rfl⟩
  ·exact (H'.sc k o h2).mono (by omega) hold
  ·intro v hv;obtain⟨y,hy,rfl⟩:=List.mem_map.1 hv;refine jP (m:=m) ?_ (fun k hk=>by omega);rw [hι];exact R1.sc j _ h2 y hy
 ·rw [q7,DQ q2,DQ hscn,hι]
def In (args0:List Value)(h0:Heap)(n0:Nat)(args:List Value)(h:Heap)(nx:Nat):Prop :=
 ∀ ι B w,aQ ι B h nx w→(∀ v∈args,eL ι nx v)→∃ ι0,args.map (tr ι)=args0.map (tr ι0)∧(∀ v∈args0,eL ι0 n0 v)∧aQ ι0 w.heap.size h0 n0 w
abbrev Sp:=List Value→Heap→Nat→Value→Heap→Nat→Prop
def nT (h1 h:Heap):Heap:=match rI h1 with|true=>h|false=>dW h
def xOf (S:Sp):List Value→Heap→Nat→KE→Prop:=fun args h nx K =>
 ∃ args0 h0 n0 v1 h1 m,S args0 h0 n0 v1 h1 m∧In args0 h0 n0 args h nx∧K (jH (fun k=>nx+k) v1) (app (l8 nx h1) (nT h1 h)) (nx+m)
def JJ (v1:Value)(h1:Heap)(m:Nat):KE:=fun v h' nx'=>∃ ρ,pC 0 ρ [(0,v1)] h1 m [(0,v)] h' nx'
theorem gF {P:Program}{C:VC}{f:Nat}{S:Sp}(hC:bE P C)(hS:∀ args0 h0 n0 v1 h1 m,S args0 h0 n0 v1 h1 m→iI h1=true∧∃ Q:KE,C f args0 h0 n0 Q∧∀ v h nx,Q v h nx→JJ v1 h1 m v h nx):cE P f (xOf S):=by
 refine⟨fun args h nx K hx ι B w H hs=>?_,fun args h nx K hx=>?_⟩
 ·obtain⟨args0,h0,n0,v1,h1,m,s1,s2,s3⟩:=hx;obtain⟨how,Q,hc,hq⟩:=hS _ _ _ _ _ _ s1;obtain⟨ι0,e1,e2,e3⟩:=s2 ι B w H hs;obtain⟨c1,c2⟩:=hC f args0 h0 n0 _ hc ι0 w.heap.size w e3 e2;refine⟨c1,?_⟩;rw [e1];refine CallsIn.mono c2 fun e w' hr=>?_;cases e with
  |returned u =>
   unfold nT at s3;cases ho:rI h1 with
   |true=>rw [ho] at s3;exact L8 H (fun v h' nx' q=>hq v h' nx' q) how (.inl ho) s3 hr
   |false =>
    rw [ho] at s3;refine L8 (H.shut.down H.size) (fun v h' nx' q=>hq v h' nx' q) how (.inr fun k o hk=>?_) s3 hr;rw [fT] at hk;cases hq:look h k with
    |none=>rw [hq] at hk;cases hk
    |some q =>
     rw [hq] at hk;injection hk with hk;subst hk;exact IX q
  |_=>exact hr.elim
 ·obtain⟨args0,h0,n0,v1,h1,m,s1,s2,s3⟩:=hx;exact⟨_,_,_,s3,fun K' hk=>⟨args0,h0,n0,v1,h1,m,s1,s2,hk⟩⟩
theorem bX {α:Type}{k:Nat}{o:α}{p:Prop}(h:look [] k=some o):p:=by cases h
theorem kP {v:Value}(hv:gT v=true){h':Heap}{nx':Nat}:JJ v [] 0 v h' nx' :=
 ⟨id,⟨fun t u hu=>by
  rw [aD] at hu;split at hu
  ·rename_i hb;injection hu with hu;subst hu;exact⟨by rw [aD,hb];show some v=some (jH id v);rw [jH,gJ hv],dL hv⟩
  ·exact bX hu,fun k o hk=>bX hk,fun k k' o o' hk=>bX hk,fun k hk=>rfl,Nat.le_refl _⟩⟩
theorem pQ {σ:Nat→Nat}{v:Value}(hv:gT v=true):jH σ v=v:=gJ hv
theorem aG2 {args:List Value}(hg:∀ v∈args,gT v=true){h:Heap}{nx:Nat}:In args [] 0 args h nx:=by
 intro ι B w H hs;refine⟨ι,rfl,fun v hv=>dL (hg v hv),⟨fun k o hk=>bX hk,fun k k' o o' hk=>bX hk,fun k o hk=>bX hk,Nat.le_refl _,fun k o hk=>bX hk⟩⟩
theorem a8 {α:Type}{l:List (Nat × α)}{k:Nat}{o:α}(h:look l k=some o):(k,o)∈l:=by
 induction l with
 |nil=>exact bX h
 |cons x r ih =>
  obtain⟨j,q⟩:=x;rw [aD] at h;split at h
  ·rename_i hb;have:=beq_true hb;subst this;injection h with h;subst h;exact .head _
  ·exact .tail _ (ih h)
theorem bY {l:List Value}(h:dU l=true){v:Value}(hv:v∈l):gT v=true:=by
 induction l with
 |nil=>cases hv
 |cons x r ih =>
  simp only [dU,Bool.and_eq_true] at h;cases hv with
  |head =>
   have:=h.1;cases v <;> first|exact this|(simp [gA,gS] at this)
  |tail _ hm=>exact ih h.2 hm
theorem Z7 {k o n c:Nat}{r:List Value}(hr:dU r=true){h:Heap}{nx:Nat}{wr g:Bool}{sz0:Nat}{cs:List Value}(hk:look h k=some (.cells wr g sz0 cs)){cs0:List Value}(hcs:(cs.drop o).take cs0.length=cs0)(hg:c7 cs0=true)(g0:Bool)(sz:Nat)(hz:sz≠0) :
  In (.slice (some ⟨0,0,none⟩) n c::r) [(0,.cells false g0 sz cs0)] 1 (.slice (some ⟨k,o,none⟩) n c::r) h nx:=by
 intro ι B w H hs;have hx:k<nx∧((ι k).gG=false→n=0∧c=0):=hs _ (.head _);have hmap:∀ ι1 ι2:Nat→Loc,r.map (tr ι1)=r.map (tr ι2):=fun ι1 ι2=>List.map_congr_left fun v hv=>(by rw [gJ (bY hr hv),gJ (bY hr hv)]);have hsc:∀ ι0:Nat→Loc,∀ v∈r,eL ι0 1 v:=fun ι0 v hv=>dL (bY hr hv);have ho:=H.obj k _ hk;cases hι:ι k with
 |nil p =>
  rw [hι] at ho;have hnil:cs=[]:=(by cases wr <;> exact ho.1);subst hnil;have h0:cs0=[]:=(by rw [← hcs];simp);subst h0;refine⟨fun _=>.nil p,?_,?_,⟨?_,?_,?_,Nat.le_refl _,?_⟩⟩
  ·rw [List.map_cons,List.map_cons,hmap ι];congr 1;simp [tr,dO,bS,dS,hι]
  ·intro v hv;cases hv with
   |head=>exact⟨Nat.one_pos,fun _=>hx.2 (by rw [hι];rfl)⟩
   |tail _ hm=>exact hsc _ v hm
  ·intro j q hq;rw [aD] at hq;split at hq
   ·injection hq with hq;subst hq;exact⟨rfl,fun h=>h.elim (fun h=>absurd h hz) (fun h=>by cases h)⟩
   ·exact bX hq
  ·intro j j' q q' hq hq' hne ha b hb;cases hb
  ·intro j q hq;rw [aD] at hq;split at hq
   ·rename_i hb;rw [← beq_true hb];exact Nat.one_pos
   ·exact bX hq
  ·intro j q hq;rw [aD] at hq;split at hq
   ·injection hq with hq;subst hq;intro v hv;cases hv
   ·exact bX hq
 |lay b off e =>
  have hlt:b<w.heap.size:=ho.lt (by rw [hι];rfl);refine⟨fun _=>.lay b (off+o) e,?_,?_,⟨?_,?_,?_,Nat.le_refl _,?_⟩⟩
  ·rw [List.map_cons,List.map_cons,hmap ι];congr 1;simp [tr,dO,bS,dS,hι]
  ·intro v hv;cases hv with
   |head=>exact⟨Nat.one_pos,fun h=>by cases h⟩
   |tail _ hm=>exact hsc _ v hm
  ·intro j q hq;rw [aD] at hq;split at hq
   ·injection hq with hq;subst hq;refine⟨hlt,fun _=>hg,fun i v hv=>?_⟩;have hv2:cs[o+i]? = some v:=by
     rw [← hcs] at hv;rw [List.getElem?_take] at hv;split at hv
     ·rw [List.getElem?_drop] at hv;exact hv
     ·cases hv
    obtain⟨b',off',e',hι',hc⟩:=H.cell hk hv2;rw [hι] at hι';injection hι' with e1 e2 e3;subst e1;subst e2;have hgv:=bA hg (List.mem_of_getElem? hv);rw [Nat.add_assoc,hc,lF hgv,lF hgv]
   ·exact bX hq
  ·intro j j' q q' hq hq' hne ha b hb;rw [aD] at hq hq';split at hq
   ·rename_i hb1;split at hq'
    ·rename_i hb2;exact absurd ((beq_true hb1).symm.trans (beq_true hb2)) hne
    ·exact bX hq'
   ·exact bX hq
  ·intro j q hq;rw [aD] at hq;split at hq
   ·rename_i hb;rw [← beq_true hb];exact Nat.one_pos
   ·exact bX hq
  ·intro j q hq;rw [aD] at hq;split at hq
   ·injection hq with hq;subst hq;exact fun v hv=>cM (bA hg hv)
   ·exact bX hq
end Go.Aw
end

noncomputable section
namespace Go.Aw
def ltF:Int→Int→Bool
 |.ofNat m,.ofNat n=>Nat.blt m n
 |.ofNat _,.negSucc _=>false
 |.negSucc _,.ofNat _=>true
 |.negSucc m,.negSucc n=>Nat.blt n m
def leF:Int→Int→Bool
 |.ofNat m,.ofNat n=>Nat.ble m n
 |.ofNat _,.negSucc _=>false
 |.negSucc _,.ofNat _=>true
 |.negSucc m,.negSucc n=>Nat.ble n m
def eqF:Int→Int→Bool
 |.ofNat m,.ofNat n=>Nat.beq m n
 |.ofNat _,.negSucc _=>false
 |.negSucc _,.ofNat _=>false
 |.negSucc m,.negSucc n=>Nat.beq m n
def TF:IntKind→Int→Bool
 |.i64,.ofNat m=>Nat.ble m 9223372036854775807
 |.i64,.negSucc m=>Nat.ble m 9223372036854775807
 |k,n=>aH k n
theorem aCo (m n:Nat):Nat.blt m n=decide (m<n):=by
 cases h:Nat.blt m n with
 |true=>exact (decide_eq_true (o9 h)).symm
 |false =>
  refine (decide_eq_false fun hl=>?_).symm;have:Nat.blt m n=true:=Nat.ble_eq_true_of_le hl;rw [h] at this;cases this
theorem S9 (m n:Nat):Nat.ble m n=decide (m≤n):=by
 cases h:Nat.ble m n with
 |true=>exact (decide_eq_true (Nat.le_of_ble_eq_true h)).symm
 |false =>
  refine (decide_eq_false fun hl=>?_).symm;have:Nat.ble m n=true:=Nat.ble_eq_true_of_le hl;rw [h] at this;cases this
theorem aCx (m n:Nat):Nat.beq m n=decide (m=n):=by
 cases h:Nat.beq m n with
 |true=>exact (decide_eq_true (beq_true h)).symm
 |false=>exact (decide_eq_false (beq_false h)).symm
theorem aEq (a b:Int):ltF a b=decide (a<b):=by
 rw [Bool.eq_iff_iff];cases a <;> cases b <;> simp only [ltF,aCo,decide_eq_true_eq,Int.ofNat_eq_natCast,Int.negSucc_eq,Bool.false_eq_true,false_iff,true_iff] <;> omega
theorem aGs (a b:Int):leF a b=decide (a≤b):=by
 rw [Bool.eq_iff_iff];cases a <;> cases b <;> simp only [leF,S9,decide_eq_true_eq,Int.ofNat_eq_natCast,Int.negSucc_eq,Bool.false_eq_true,false_iff,true_iff] <;> omega
theorem aG8 (a b:Int):eqF a b=decide (a=b):=by
 rw [Bool.eq_iff_iff];cases a <;> cases b <;> simp only [eqF,aCx,decide_eq_true_eq,Int.ofNat_eq_natCast,Int.negSucc_eq,Bool.false_eq_true,false_iff,true_iff] <;> omega
theorem aA6 (k:IntKind)(n:Int):TF k n=aH k n:=by
 cases k <;> try rfl
 rw [Bool.eq_iff_iff];cases n <;> simp only [TF,aH,S9,Bool.and_eq_true,decide_eq_true_eq,Int.ofNat_eq_natCast,Int.negSucc_eq] <;> omega
def S2:Ar:={ aC with
 add:=Int.add,sub:=Int.sub,mul:=Int.mul
 lt:=ltF,le:=leF,eq:=eqF,fits:=TF
 ix:=fun o i s=>Nat.add o (Nat.mul i.toNat s)
 num:=Int.ofNat,toN:=Int.toNat,subN:=Nat.sub }
theorem aAm:S2=aC:=by
 unfold S2
 rw [show ltF=aC.lt from funext fun a=>funext fun b=>aEq a b,show leF=aC.le from funext fun a=>funext fun b=>aGs a b,
  show eqF=aC.eq from funext fun a=>funext fun b=>aG8 a b,show TF=aC.fits from funext fun a=>funext fun b=>aA6 a b]
 rfl
def aJX:CC:={ A:=S2,T:=tyT,FT:=look ftL,PL:=plF,PR:=fun _=>false,X:=fun _=>none,M:=1000 }
theorem TA:∀ {l:List (Nat × Func)} {f:Nat} {fn:Func},F4 l=true→(f,fn)∈l→fnB f fn=true
 |[],_,_,_,h=>by cases h
 |(g,gn)::r,f,fn,hb,h=>by
  simp only [F4,Bool.and_eq_true] at hb;cases h with
  |head=>exact hb.1
  |tail _ hm=>exact TA hb.2 hm
theorem MJ (f : Nat)(fn : Func)(h : look ftL f = some fn) : Go.Proofs.Tryz.prog.funcs[f]? = some fn ∧ (fn.name == "runtime.NumGoroutine") = false ∧ ∀ b, fn.body = some b → cF (plF f) b = true := by
 have hm:=a8 h;have hb:=TA aGP hm;unfold fnB at hb;simp only [Bool.and_eq_true,Bool.not_eq_true'] at hb;have h1:Go.Proofs.Tryz.prog.funcs[(f,fn).1]? = some (f,fn).2:=aGH (f,fn) hm;refine⟨h1,hb.1,?_⟩;have h2:=hb.2;generalize plF f=Φ at h2 ⊢;intro b he;simp only [he] at h2;exact h2
theorem FY (X:Nat→Option (List Value→Heap→Nat→KE→Prop))(hX:∀ f x,X f=some x→cE Go.Proofs.Tryz.prog f x)(PR:Nat→Bool)(M:Nat):pF Go.Proofs.Tryz.prog { A:=S2,T:=tyT,FT:=look ftL,PL:=plF,PR:=PR,X:=X,M:=M } where
 ar:=aAm
 tab:=JP YA
 mixed:=by decide +kernel
 funcs:=MJ
 xs:=hX
def iv (n:Int):Value:=.int .i64 n
def pt (x y:Int):Value:=.agg #[iv x,iv y]
end Go.Aw
end

noncomputable section
namespace Go.Aw
open Go.RowKit
theorem bm {b:Bool}{X Y:Prop}(h1:b=true→X)(h2:b=false→Y):(match (generalizing:=false) b with|true=>X|false=>Y):=by
 cases b
 ·exact h2 rfl
 ·exact h1 rfl
theorem oY {x:Option (List Value)}{v:List Value}{G:List Value→Prop}(h:x=some v)(k:G v):(match (generalizing:=false) x with|some v=>G v|none=>False):=by
 subst h;exact k
theorem iL {x:Option Value}{v:Value}{G:Value→Prop}(h:x=some v)(k:G v):(match (generalizing:=false) x with|some v=>G v|none=>False):=by
 subst h;exact k
abbrev XF:=List Value→Heap→Nat→KE→Prop
def CX (X:Nat→Option XF):VC:=fun f args h nx K=>match X f with|some x=>x args h nx K|none=>False
def noY:VY:=fun _ _ _ _ _=>False
theorem ZQ {P:Program}{X:Nat→Option XF}(hX:∀ f x,X f=some x→cE P f x):bE P (CX X):=by
 intro f args h nx K hl ι B w H hs;unfold CX at hl;split at hl
 ·rename_i x hx;exact (hX f x hx).1 args h nx K hl ι B w H hs
 ·exact hl.elim
theorem I9 {P:Program}{X:Nat→Option XF}(hX:∀ f x,X f=some x→cE P f x):dY (CX X):=by
 intro f args h nx K hl;unfold CX at hl;split at hl
 ·rename_i x hx;obtain⟨v,h',nx',k1,k2⟩:=(hX f x hx).2 args h nx K hl;exact⟨v,h',nx',k1,fun K' hk=>by unfold CX;rw [hx];exact k2 K' hk⟩
 ·exact hl.elim
theorem QA {P:Program}:eC P noY:=fun _ _ _ _ _ hl=>hl.elim
theorem C2:dY noY:=fun _ _ _ _ _ hl=>hl.elim
theorem cE.mono {P:Program}{f:Nat}{x x':XF}(h:cE P f x)(hm:∀ args h nx K,x' args h nx K→x args h nx K)(hd:∀ args h nx,eS (x' args h nx)):cE P f x' :=
 ⟨fun args hh nx K hx=>h.1 args hh nx K (hm _ _ _ _ hx),hd⟩
def gX (s:List Value→Option (Bool × Value)):XF:=fun args h nx K=>match s args with|some p=>dE p.1 (K p.2 h nx)|none=>False
theorem kC (h:Heap):app h []=h:=by
 induction h with
 |nil=>rfl
 |cons x r ih=>simp only [app,ih]
theorem wX {P:Program}{C:VC}{f:Nat}{s:List Value→Option (Bool × Value)}(hC:bE P C)
  (hs:∀ args v,s args=some (true,v)→dU args=true∧gT v=true∧C f args [] 0 (fun u _ _=>u=v)):cE P f (gX s):=by
 refine (gF (S:=fun args0 h0 n0 v1 h1 m=>s args0=some (true,v1)∧h0=[]∧n0=0∧h1=[]∧m=0) hC ?_).mono ?_ ?_
 ·rintro args0 h0 n0 v1 h1 m ⟨e1,rfl,rfl,rfl,rfl⟩;obtain⟨a1,a2,a3⟩:=hs args0 v1 e1;refine⟨rfl,?_⟩;exact⟨_,a3,fun v h nx e=>by rw [e];exact kP a2⟩
 ·intro args h nx K hx;unfold gX at hx;split at hx
  ·rename_i p e1;obtain⟨b,v⟩:=p;obtain⟨rfl,hx⟩:=aF.1 hx;obtain⟨a1,a2,a3⟩:=hs args v e1;refine⟨args,[],0,v,[],0,⟨e1,rfl,rfl,rfl,rfl⟩,aG2 fun u hu=>bY a1 hu,?_⟩;simp only [nT,rI,l8,kC,pQ a2,Nat.add_zero];exact hx
  ·exact hx.elim
 ·intro args h nx K hx;unfold gX at hx;split at hx
  ·rename_i p e1;obtain⟨hb,hx⟩:=aF.1 hx;exact⟨p.2,h,nx,hx,fun K' hk=>by unfold gX;rw [e1];exact aJ hb hk⟩
  ·exact hx.elim
theorem aM {ρ:Nat→Nat}{n sz:Nat}{wr g:Bool}{cs:List Value}(hg:c7 cs=true):bU ρ n (.cells wr g sz cs) (.cells wr g sz cs) :=
 ⟨rfl,rfl,rfl,(cB hg).symm,fun v hv=>cM (bA hg hv)⟩
theorem aL {b n0 nx:Nat}{I:KS}{e0 e:List (Nat × Value)}{h0 h:Heap}(hI:I e0 h0 n0)(he:∀ p∈e0,look e p.1=some (jH id p.2)∧BM n0 p.2)
  (hh:∀ p∈h0,p.1<n0∧∃ o',look h (id p.1)=some o'∧bU id n0 p.2 o') (hb:b≤n0):qJ b I e h nx :=
 ⟨e0,h0,n0,id,hI,fun t v hv=>he (t,v) (a8 hv),fun k o hk=>hh (k,o) (a8 hk),fun k k' o o' _ _ e=>e,fun k _=>rfl,hb⟩
def flat {α:Type}(fl:α→List Value):List α→List Value
 |[]=>[]
 |a::r=>fl a++flat fl r
structure El (α:Type) where
 fl:α→List Value
 sz:Nat
 len:∀ a,(fl a).length=sz
 gr:∀ a,c7 (fl a)=true
 pos:sz≠0:=by decide
section
variable {α:Type}(E:El α)
theorem bD (l:List α):(flat E.fl l).length=l.length*E.sz:=by
 induction l with
 |nil=>simp [flat]
 |cons a r ih=>simp only [flat,List.length_append,E.len,ih,List.length_cons,Nat.succ_mul];omega
theorem aI (l:List α):c7 (flat E.fl l)=true:=by
 induction l with
 |nil=>rfl
 |cons a r ih=>simp only [flat,L5,E.gr,ih,Bool.and_self]
theorem aCw {l:List Value}{o n:Nat}(h:o+n≤l.length):mT l o n=some ((l.drop o).take n):=by
 induction n generalizing o with
 |zero=>simp [mT]
 |succ n ih =>
  have hlt:o<l.length:=(by omega);simp only [mT,wC,List.getElem?_eq_getElem hlt,ih (o:=o+1) (by omega)];congr 1;rw [List.drop_eq_getElem_cons hlt];rfl
theorem J1 (l:List α)(i:Nat)(hi:i<l.length):((flat E.fl l).drop (i*E.sz)).take E.sz=E.fl l[i]:=by
 induction l generalizing i with
 |nil=>simp at hi
 |cons a r ih =>
  cases i with
  |zero =>
   simp only [flat,Nat.zero_mul,List.drop_zero,List.getElem_cons_zero];rw [List.take_append_of_le_length (by rw [E.len];exact Nat.le_refl _),List.take_of_length_le (by rw [E.len];exact Nat.le_refl _)]
  |succ i =>
   have hl:(fl:List Value)→True:=fun _=>trivial;simp only [flat,List.getElem_cons_succ];rw [show (i+1)*E.sz=(E.fl a).length+i*E.sz by rw [E.len,Nat.succ_mul];omega,List.drop_append,Nat.add_sub_cancel_left,List.drop_eq_nil_of_le (by omega),List.nil_append];exact ih i (by simpa using hi)
theorem zD (l:List α){i o:Nat}(hi:i<l.length)(ho:o=i*E.sz):mT (flat E.fl l) o E.sz=some (E.fl l[i]):=by
 subst ho;have h1:(i+1)*E.sz≤l.length*E.sz:=Nat.mul_le_mul_right _ hi;rw [aCw (by rw [bD];rw [Nat.succ_mul] at h1;exact h1),J1 E l i hi]
def gP (h:Heap)(v:Value)(l:List α):Prop :=
 match v with
 |.slice none n c=>n=0∧c=0∧l=[]
 |.slice (some ⟨k,o,none⟩) n _=>n=l.length∧∃ wr g sz cs,look h k=some (.cells wr g sz cs)∧(cs.drop o).take (flat E.fl l).length=flat E.fl l
 |_=>False
def lX (s:List α→List Value→Option (Bool × Value)):XF:=fun args h nx K=>match args with
 |v::r=>∃ l,gP E h v l∧(match s l r with|some p=>dE p.1 (K p.2 h nx)|none=>False)
 |_=>False
theorem P5 {r:List Value}(hr:dU r=true){h:Heap}{nx:Nat}(g0:Bool)(sz:Nat)(hz:sz≠0):In (.slice (some ⟨0,0,none⟩) 0 0::r) [(0,.cells false g0 sz [])] 1 (.slice none 0 0::r) h nx:=by
 intro ι B w H hs;have hmap:∀ ι1 ι2:Nat→Loc,r.map (tr ι1)=r.map (tr ι2):=fun ι1 ι2=>List.map_congr_left fun v hv=>(by rw [gJ (bY hr hv),gJ (bY hr hv)]);refine⟨fun _=>.nil none,?_,?_,⟨?_,?_,?_,Nat.le_refl _,?_⟩⟩
 ·rw [List.map_cons,List.map_cons,hmap ι];rfl
 ·intro v hv;cases hv with
  |head=>exact⟨Nat.one_pos,fun _=>⟨rfl,rfl⟩⟩
  |tail _ hm=>exact dL (bY hr hm)
 ·intro j q hq;rw [aD] at hq;split at hq
  ·injection hq with hq;subst hq;exact⟨rfl,fun h=>h.elim (fun h=>absurd h hz) (fun h=>by cases h)⟩
  ·exact bX hq
 ·intro j j' q q' hq hq' hne ha b hb;cases hb
 ·intro j q hq;rw [aD] at hq;split at hq
  ·rename_i hb;rw [← beq_true hb];exact Nat.one_pos
  ·exact bX hq
 ·intro j q hq;rw [aD] at hq;split at hq
  ·injection hq with hq;subst hq;intro v hv;cases hv
  ·exact bX hq
theorem SB {P:Program}{C:VC}{f:Nat}{s:List α→List Value→Option (Bool × Value)}(hC:bE P C)
  (hs:∀ l r v,s l r=some (true,v)→dU r=true∧gT v=true∧∀ c,C f (.slice (some ⟨0,0,none⟩) l.length c::r) [(0,.cells false true E.sz (flat E.fl l))] 1 (fun u _ _=>u=v)):cE P f (lX E s):=by
 refine (gF (S:=fun args0 h0 n0 v1 h1 m=>∃ l r c,s l r=some (true,v1)∧args0=.slice (some ⟨0,0,none⟩) l.length c::r∧h0=[(0,.cells false true E.sz (flat E.fl l))]∧n0=1∧h1=[]∧m=0) hC ?_).mono ?_ ?_
 ·rintro args0 h0 n0 v1 h1 m ⟨l,r,c,e1,rfl,rfl,rfl,rfl,rfl⟩;obtain⟨a1,a2,a3⟩:=hs l r v1 e1;exact⟨rfl,_,a3 c,fun v h nx e=>by rw [e];exact kP a2⟩
 ·intro args h nx K hx;unfold lX at hx;split at hx
  case h_2=>exact hx.elim
  rename_i v r;obtain⟨l,hl,hx⟩:=hx;split at hx
  case h_2=>exact hx.elim
  rename_i p e1;obtain⟨b,u⟩:=p;obtain⟨rfl,hx⟩:=aF.1 hx;obtain⟨a1,a2,a3⟩:=hs l r u e1;have hK:K (jH (fun k=>nx+k) u) (app (l8 nx []) (nT [] h)) (nx+0):=by
   simp only [nT,rI,l8,kC,pQ a2,Nat.add_zero];exact hx
  unfold gP at hl;split at hl
  ·rename_i n c;obtain⟨rfl,rfl,rfl⟩:=hl;exact⟨_,_,1,u,[],0,⟨[],r,0,e1,rfl,rfl,rfl,rfl,rfl⟩,P5 a1 true E.sz E.pos,hK⟩
  ·rename_i k o n c;obtain⟨rfl,wr,g,sz,cs,hk,hcs⟩:=hl;exact⟨_,_,1,u,[],0,⟨l,r,c,e1,rfl,rfl,rfl,rfl,rfl⟩,Z7 a1 hk hcs (aI E l) true E.sz E.pos,hK⟩
  ·exact hl.elim
 ·intro args h nx K hx;unfold lX at hx;split at hx
  case h_2=>exact hx.elim
  rename_i v r;obtain⟨l,hl,hx⟩:=hx;split at hx
  case h_2=>exact hx.elim
  rename_i p e1;obtain⟨hb,hx⟩:=aF.1 hx;exact⟨p.2,h,nx,hx,fun K' hk=>⟨l,hl,by rw [e1];exact aJ hb hk⟩⟩
end
end Go.Aw
end

noncomputable section
namespace Go.Aw
def aA:CC:={ A:=aC,T:=tyT,FT:=look ftL,PL:=plF,PR:=fun _=>false,X:=fun _=>none,M:=0 }
theorem fV:pF Go.Proofs.Tryz.prog aA where
 ar:=rfl
 tab:=JP YA
 mixed:=by decide +kernel
 funcs:=MJ
 xs:=fun _ _ h=>by cases h
def body (xl:List (Nat × XF)):VC:=sY aA none (CX (look xl)) noY
def nU (xl:List (Nat × XF)):Prop:=∀ p∈xl,cE Go.Proofs.Tryz.prog p.1 p.2
theorem nU.nil:nU []:=fun _ h=>by cases h
theorem nU.cons {f:Nat}{x:XF}{l:List (Nat × XF)}(h:cE Go.Proofs.Tryz.prog f x)(hl:nU l):nU ((f,x)::l):=List.forall_mem_cons.2 ⟨h,hl⟩
theorem nU.look {xl:List (Nat × XF)}(h:nU xl)(f:Nat)(x:XF)(hx:look xl f=some x):cE Go.Proofs.Tryz.prog f x:=h (f,x) (a8 hx)
theorem aK {xl:List (Nat × XF)}(h:nU xl):bE Go.Proofs.Tryz.prog (body xl):=xE fV (ZQ h.look) QA (I9 h.look) C2 none
def RS (p:Int × Int):Value:=.agg #[iv p.1,iv p.2]
def VH:Value→Option Int
 |.int .i64 n=>some n
 |_=>none
def OZ:Value→Option (Int × Int)
 |.agg ⟨[.int .i64 x,.int .i64 y]⟩=>some (x,y)
 |_=>none
theorem CI {v:Value}{n:Int}(h:VH v=some n):v=iv n:=by
 unfold VH at h;split at h
 ·injection h with h;subst h;rfl
 ·cases h
theorem yG {v:Value}{p:Int × Int}(h:OZ v=some p):v=RS p:=by
 unfold OZ at h;split at h
 ·injection h with h;subst h;rfl
 ·cases h
def s1P (F:Int × Int→Bool × Value):List Value→Option (Bool × Value)
 |[a]=>(match OZ a with|some p=>some (F p)|none=>none)
 |_=>none
theorem aDl {F:Int × Int→Bool × Value}{args:List Value}{r:Bool × Value}(h:s1P F args=some r):∃ p,args=[RS p]∧F p=r:=by
 unfold s1P at h;split at h
 ·split at h
  ·rename_i p e;injection h with h;exact⟨p,by rw [yG e],h⟩
  ·cases h
 ·cases h
def s3P (F:Int × Int→Int × Int→Int × Int→Bool × Value):List Value→Option (Bool × Value)
 |[a,b,c]=>(match OZ a with|some p=>(match OZ b with|some q=>(match OZ c with|some r=>some (F p q r)|none=>none)|none=>none)|none=>none)
 |_=>none
theorem aC8 {F:Int × Int→Int × Int→Int × Int→Bool × Value}{args:List Value}{r:Bool × Value}(h:s3P F args=some r):∃ p q s,args=[RS p,RS q,RS s]∧F p q s=r:=by
 unfold s3P at h;split at h
 ·split at h
  ·rename_i p e;split at h
   ·rename_i q e2;split at h
    ·rename_i s e3;injection h with h;exact⟨p,q,s,by rw [yG e,yG e2,yG e3],h⟩
    ·cases h
   ·cases h
  ·cases h
 ·cases h
def s1I (F:Int→Bool × Value):List Value→Option (Bool × Value)
 |[a]=>(match VH a with|some p=>some (F p)|none=>none)
 |_=>none
theorem aBD {F:Int→Bool × Value}{args:List Value}{r:Bool × Value}(h:s1I F args=some r):∃ p,args=[iv p]∧F p=r:=by
 unfold s1I at h;split at h
 ·split at h
  ·rename_i p e;injection h with h;exact⟨p,by rw [CI e],h⟩
  ·cases h
 ·cases h
def s2I (F:Int→Int→Bool × Value):List Value→Option (Bool × Value)
 |[a,b]=>(match VH a with|some p=>(match VH b with|some q=>some (F p q)|none=>none)|none=>none)
 |_=>none
theorem aCF {F:Int→Int→Bool × Value}{args:List Value}{r:Bool × Value}(h:s2I F args=some r):∃ p q,args=[iv p,iv q]∧F p q=r:=by
 unfold s2I at h;split at h
 ·split at h
  ·rename_i p e;split at h
   ·rename_i q e2;injection h with h;exact⟨p,q,by rw [CI e,CI e2],h⟩
   ·cases h
  ·cases h
 ·cases h
def cT (xl:List (Nat × XF))(f:Nat)(args:List Value)(v:Value):Prop:=body xl f args [] 0 (fun u _ _=>u=v)
theorem x1P {xl:List (Nat × XF)}(hx:nU xl){f:Nat}{F:Int × Int→Bool × Value}(hg:∀ p,gT (F p).2=true)(h:∀ p,(F p).1=true→cT xl f [RS p] (F p).2):cE Go.Proofs.Tryz.prog f (gX (s1P F)) :=
 wX (aK hx) fun args v hs=>by
  obtain⟨p,rfl,e⟩:=aDl hs;have h1:(F p).1=true:=(by rw [e]);have h2:(F p).2=v:=(by rw [e]);subst h2;exact⟨rfl,hg p,h p h1⟩
theorem x3P {xl:List (Nat × XF)}(hx:nU xl){f:Nat}{F:Int × Int→Int × Int→Int × Int→Bool × Value}(hg:∀ p q r,gT (F p q r).2=true)(h:∀ p q r,(F p q r).1=true→cT xl f [RS p,RS q,RS r] (F p q r).2):cE Go.Proofs.Tryz.prog f (gX (s3P F)) :=
 wX (aK hx) fun args v hs=>by
  obtain⟨p,q,r,rfl,e⟩:=aC8 hs;have h1:(F p q r).1=true:=(by rw [e]);have h2:(F p q r).2=v:=(by rw [e]);subst h2;exact⟨rfl,hg p q r,h p q r h1⟩
theorem x1I {xl:List (Nat × XF)}(hx:nU xl){f:Nat}{F:Int→Bool × Value}(hg:∀ p,gT (F p).2=true)(h:∀ p,(F p).1=true→cT xl f [iv p] (F p).2):cE Go.Proofs.Tryz.prog f (gX (s1I F)) :=
 wX (aK hx) fun args v hs=>by
  obtain⟨p,rfl,e⟩:=aBD hs;have h1:(F p).1=true:=(by rw [e]);have h2:(F p).2=v:=(by rw [e]);subst h2;exact⟨rfl,hg p,h p h1⟩
theorem x2I {xl:List (Nat × XF)}(hx:nU xl){f:Nat}{F:Int→Int→Bool × Value}(hg:∀ p q,gT (F p q).2=true)(h:∀ p q,(F p q).1=true→cT xl f [iv p,iv q] (F p q).2):cE Go.Proofs.Tryz.prog f (gX (s2I F)) :=
 wX (aK hx) fun args v hs=>by
  obtain⟨p,q,rfl,e⟩:=aCF hs;have h1:(F p q).1=true:=(by rw [e]);have h2:(F p q).2=v:=(by rw [e]);subst h2;exact⟨rfl,hg p q,h p q h1⟩
def aR:El (Int × Int):=⟨fun p=>[iv p.1,iv p.2],2,fun _=>rfl,fun _=>rfl,by decide⟩
def bQ (p:Int × Int):Bool:=decide (0≤p.1)&&decide (p.1≤10000)&&decide (0≤p.2)&&decide (p.2≤10000)
def wide (p:Int × Int):Bool:=decide (-1000000≤p.1)&&decide (p.1≤1000000)&&decide (-1000000≤p.2)&&decide (p.2≤1000000)
def bB (a b c:Int × Int):Int:=(b.1 - a.1)*(c.2 - a.2) - (b.2 - a.2)*(c.1 - a.1)
def U2 (n:Int):Int:=if n<0 then -1 else if 0<n then 1 else 0
def iS (a b:Int):Int:=if a<b then -1 else if b<a then 1 else 0
def aZ (a b c:Int × Int):Int:=U2 (bB a b c)
set_option maxRecDepth 100000
def X58:Nat × XF:=(185,gX (s1P fun p=>(true,.bool (bQ p))))
theorem x58:cE Go.Proofs.Tryz.prog X58.1 X58.2:=x1P .nil (fun _=>rfl) fun p _=>by
 obtain⟨x,y⟩:=p;unfold cT
 repeat' (conv=>whnf
          refine bm (fun h=>?_) (fun h=>?_))
 all_goals (conv=>whnf)
 all_goals (simp [aA,aC] at *;simp [bQ, *] <;> omega)
end Go.Aw
end
