/-
  Parts of the proof, put together. No condition.
-/
import Derived.Test.YtjahkcbdecgbhaaGreatQAn
import Derived.Test.YtjahkcbdecgbhaaGreatQAq
set_option linter.unusedSimpArgs false
set_option linter.unusedVariables false
noncomputable section
namespace Go.Aw
open Go.RowKit
def U5 (n:Nat):aV→aV
 |.cells wr g sz cs=>.cells wr g sz (cs.map (bN (fun k=>n+k)))
 |o=>o
def mZ (n:Nat):Heap→Heap
 |[]=>[]
 |(k,o)::r=>(n+k,U5 n o)::mZ n r
theorem lQ {n:Nat}(h:Heap){k:Nat}{o:aV}(hl:look (mZ n h) k=some o):∃ j o',k=n+j∧look h j=some o'∧o=U5 n o':=by
 induction h with
 |nil=>cases hl
 |cons x r ih =>
  obtain⟨j,q⟩:=x;simp only [mZ,aE] at hl;split at hl
  ·rename_i hb;injection hl with hl;exact⟨j,q,(beq_true hb).symm,by rw [aE,show Nat.beq j j=true from Nat.beq_refl j],hl.symm⟩
  ·rename_i hb;obtain⟨j',o',h1,h2,h3⟩:=ih hl;refine⟨j',o',h1,?_,h3⟩;have:Nat.beq j j'=false:=by
    cases hb':Nat.beq j j' with
    |false=>rfl
    |true =>
     have:=beq_true hb';subst this;rw [h1,Nat.beq_refl] at hb;cases hb
   rw [aE,this];exact h2
def VB:aV→Bool
 |.cells true _ _ _=>true
 |_=>false
def sN:Heap→Bool
 |[]=>true
 |(_,o)::r=>VB o&&sN r
theorem W8 {h:Heap}(hh:sN h=true){k:Nat}{o:aV}(hl:look h k=some o):∃ g sz cs,o=.cells true g sz cs:=by
 induction h with
 |nil=>cases hl
 |cons x r ih =>
  obtain⟨j,q⟩:=x;simp only [sN,Bool.and_eq_true] at hh;rw [aE] at hl;split at hl
  ·injection hl with hl;subst hl;cases q with
   |cells wr g sz cs =>
    cases wr with
    |true=>exact⟨g,sz,cs,rfl⟩
    |false=>simp [VB] at hh
   |_=>simp [VB] at hh
  ·exact ih hh.2 hl
def JX:aV→Bool
 |.cells _ _ _ _=>true
 |_=>false
def iI:Heap→Bool
 |[]=>true
 |(_,o)::r=>JX o&&iI r
theorem sC {h:Heap}(hh:iI h=true){k:Nat}{o:aV}(hl:look h k=some o):∃ wr g sz cs,o=.cells wr g sz cs:=by
 induction h with
 |nil=>cases hl
 |cons x r ih =>
  obtain⟨j,q⟩:=x;simp only [iI,Bool.and_eq_true] at hh;rw [aE] at hl;split at hl
  ·injection hl with hl;subst hl;cases q with
   |cells wr g sz cs=>exact⟨wr,g,sz,cs,rfl⟩
   |_=>simp [JX] at hh
  ·exact ih hh.2 hl
theorem K8 (o:aV):o.closed.alone=false:=by cases o <;> rfl
section
variable {ι:Nat→Loc}{σ:Nat→Nat}{n m:Nat}
theorem y5 {v:Value}(h:oS (fun k=>ι (σ k)) m v)(hs:∀ k,k<m→σ k<n):oS ι n (dR (kA σ) v):=by
 cases v with
 |pointer a=>cases a with
  |none=>trivial
  |some a=>exact⟨hs _ h.1,h.2⟩
 |slice a l c=>cases a with
  |none=>trivial
  |some a=>exact⟨hs _ h.1,fun hf=>h.2 hf⟩
 |map a=>cases a with
  |none=>trivial
  |some a=>exact⟨hs _ h.1,h.2⟩
 |agg c=>exact h.elim
 |tuple c=>exact h.elim
 |_=>trivial
theorem jN {v:Value}(h:gY (fun k=>ι (σ k)) m v)(hs:∀ k,k<m→σ k<n):gY ι n (bR (kA σ) v):=by
 cases v with
 |func f a c =>
  refine⟨?_,fun x hx=>?_⟩
  ·have h1:=h.1;cases f with
   |yield l=>exact⟨hs _ h1.1,h1.2⟩
   |_=>trivial
  ·simp only [Array.toList_map,List.mem_map] at hx;obtain⟨y,hy,rfl⟩:=hx;exact y5 (h.2 y hy) hs
 |pointer a=>have:=y5 (ι:=ι) (σ:=σ) (n:=n) (m:=m) (v:=.pointer a);cases a <;> exact this h hs
 |slice a l c=>have:=y5 (ι:=ι) (σ:=σ) (n:=n) (m:=m) (v:=.slice a l c);cases a <;> exact this h hs
 |map a=>have:=y5 (ι:=ι) (σ:=σ) (n:=n) (m:=m) (v:=.map a);cases a <;> exact this h hs
 |agg c=>exact h.elim
 |tuple c=>exact h.elim
 |_=>trivial
theorem qA {v:Value}(h:kP (fun k=>ι (σ k)) m v)(hs:∀ k,k<m→σ k<n):kP ι n (dP (kA σ) v):=by
 cases v with
 |agg cs =>
  intro x hx;simp only [Array.toList_map,List.mem_map] at hx;obtain⟨y,hy,rfl⟩:=hx;exact jN (h y hy) hs
 |pointer a=>have:=jN (ι:=ι) (σ:=σ) (n:=n) (m:=m) (v:=.pointer a);cases a <;> exact this h hs
 |slice a l c=>have:=jN (ι:=ι) (σ:=σ) (n:=n) (m:=m) (v:=.slice a l c);cases a <;> exact this h hs
 |map a=>have:=jN (ι:=ι) (σ:=σ) (n:=n) (m:=m) (v:=.map a);cases a <;> exact this h hs
 |func f a c=>exact jN (ι:=ι) (σ:=σ) (n:=n) (m:=m) (v:=.func f a c) h hs
 |tuple c=>exact h.elim
 |_=>trivial
theorem aBs {v:Value}(h:eR (fun k=>ι (σ k)) m v)(hs:∀ k,k<m→σ k<n):eR ι n (fV σ v):=by
 unfold fV;cases v with
 |tuple cs =>
  intro x hx;simp only [Array.toList_map,List.mem_map] at hx;obtain⟨y,hy,rfl⟩:=hx;exact qA (h y hy) hs
 |pointer a=>have:=qA (ι:=ι) (σ:=σ) (n:=n) (m:=m) (v:=.pointer a);cases a <;> exact this h hs
 |slice a l c=>have:=qA (ι:=ι) (σ:=σ) (n:=n) (m:=m) (v:=.slice a l c);cases a <;> exact this h hs
 |map a=>have:=qA (ι:=ι) (σ:=σ) (n:=n) (m:=m) (v:=.map a);cases a <;> exact this h hs
 |func f a c=>exact qA (ι:=ι) (σ:=σ) (n:=n) (m:=m) (v:=.func f a c) h hs
 |agg c=>exact qA (ι:=ι) (σ:=σ) (n:=n) (m:=m) (v:=.agg c) h hs
 |_=>trivial
theorem aF2 {v:Value}(h:gS v=true):gS (bR (kA σ) v)=true:=by rw [lL h];exact h
end
theorem MY {B nx n0 m:Nat}{w w':World}{ι ι0:Nat→Loc}{h h1:Heap}{v1:Value}{K Q:KE}{u:Value}(H:aS ι B h nx w)
  (hQ:∀ v h' nx',Q v h' nx'→∃ ρ,qE 0 ρ [(0,v1)] h1 m [(0,v)] h' nx') (how:iI h1=true) (hal:sN h1=true∨∀ k o,look h k=some o→o.alone=false) (hK:K (fV (fun k=>nx+k) v1) (app (mZ nx h1) h) (nx+m))
  (hr:Ret w.heap.size w ι0 n0 Q (.returned u) w'):Ret B w ι nx K (.returned u) w':=by
 obtain⟨v,h',nx',ι',q1,q2,q3,q4,q5,q6,q7⟩:=hr;obtain⟨ρ,r⟩:=hQ v h' nx' q1;have hv:v=fV ρ v1∧wJ m v1:=by
  obtain⟨e1,e2⟩:=r.env 0 v1 rfl;injection e1 with e1;exact⟨e1,e2⟩
 obtain⟨rfl,hnm⟩:=hv;obtain⟨ιN,hloc,hold⟩:∃ ιN:Nat→Loc,(∀ j,ιN (nx+j)=ι' (ρ j))∧∀ k,k<nx→ιN k=ι k :=
  ⟨fun k=>if k<nx then ι k else ι' (ρ (k - nx)),fun j=>by
   have:¬ (nx+j<nx):=(by omega);simp only [if_neg this,Nat.add_sub_cancel_left],fun k hk=>if_pos hk⟩
 have hι:(fun k=>ιN (nx+k))=fun k=>ι' (ρ k):=funext hloc;have hsm:eR (fun k=>ι' (ρ k)) m v1:=CY q2 hnm;have R1:=r.aFx q3;have H':aS ι B h nx w':=H.ext q4;have hscn:eR ιN (nx+m) (fV (fun k=>nx+k) v1):=by
  refine aBs (m:=m) ?_ (fun k hk=>by omega);rw [hι];exact hsm
 have hcase:∀ k o,look (app (mZ nx h1) h) k=some o→(look h k=some o∧k<nx)∨(∃ j wr g sz cs,k=nx+j∧look h1 j=some (.cells wr g sz cs)∧o=.cells wr g sz (cs.map (bN (fun k=>nx+k)))):=by
  intro k o hk;rw [gK] at hk;split at hk
  ·rename_i o' ho;injection hk with hk;subst hk;obtain⟨j,o',e1,e2,e3⟩:=lQ h1 ho;obtain⟨wr,g,sz,cs,rfl⟩:=sC how e2;exact .inr ⟨j,wr,g,sz,cs,e1,e2,e3⟩
  ·exact .inl ⟨hk,H.low k _ hk⟩
 refine⟨fV (fun k=>nx+k) v1,_,_,ιN,hK,hscn,⟨?_,?_,?_,H'.size,?_⟩,q4.mono H.size,hold,by omega,?_⟩
 ·intro k o hk;rcases hcase k o hk with ⟨h2,h3⟩|⟨j,wr,g,sz,cs,rfl,h2,rfl⟩
  ·rw [hold k h3];exact (H'.obj k o h2).names (H'.sc k o h2) hold
  ·rw [hloc];have ho:=R1.obj j _ h2;have hsc:=R1.sc j _ h2;cases hl:ι' (ρ j) with
   |nil p =>
    rw [hl] at ho;have hcz:cs=[]∧(sz=0∨wr=true→p.isSome=true):=(by cases wr <;> exact ho);obtain⟨hc0,hz⟩:=hcz;subst hc0;cases wr <;> exact⟨rfl,hz⟩
   |lay b off e =>
    rw [hl] at ho;have hcell:∀ {Φ:Nat→Value→Prop},(∀ (i:Nat) y,cs[i]? = some y→Φ i (bR (fun k=>ι' (ρ k)) y))→∀ (i:Nat) v,(cs.map (bN (fun k=>nx+k)))[i]? = some v→Φ i (bR ιN v):=by
     intro Φ hΦ i v hv;rw [List.getElem?_map] at hv;cases hy:cs[i]? with
     |none=>rw [hy] at hv;cases hv
     |some y =>
      rw [hy] at hv;injection hv with hv;subst hv;have hsy:=hsc y (List.mem_of_getElem? hy);have hin:gY ιN (nx+m) (bR (kA (fun k=>nx+k)) y):=by
       refine jN (m:=m) ?_ (fun k hk=>by omega);rw [hι];exact hsy
      have:=hΦ i y hy;rw [← hι,← iS hin] at this;exact this
    have hgg:∀ {b:Bool},(b=true→c9 cs=true)→b=true→c9 (cs.map (bN (fun k=>nx+k)))=true:=fun h hg=>uV fun v hv=>by
     obtain⟨y,hy,rfl⟩:=List.mem_map.1 hv;exact aF2 (a8 (h hg) hy)
    cases wr with
    |true =>
     obtain⟨a1,a2,arr,t,a3,a4,a5⟩:=ho;exact⟨Nat.le_trans H.size a1,hgg a2,arr,t,a3,by simpa using a4,hcell (Φ:=fun i v=>arr[off+i]? = some v) a5⟩
    |false =>
     obtain⟨a1,a2,a5⟩:=ho;exact⟨a1,hgg a2,hcell (Φ:=fun i v=>w'.cell? ⟨b,off+i,none⟩=some v) a5⟩
 ·intro k k' o o' hk hk' hne ha b hb;rcases hcase k o hk with ⟨h2,h3⟩|⟨j,wr,g,sz,cs,rfl,h2,rfl⟩
  ·rw [hold k h3] at hb;rcases hcase k' o' hk' with ⟨h4,h5⟩|⟨j',wr',g',sz',cs',rfl,h4,rfl⟩
   ·rw [hold k' h5];exact H'.sep k k' o o' h2 h4 hne ha b hb
   ·rw [hloc];intro hb';have hlt:=(H.obj k o h2).lt hb;rcases hal with how2|hal
    ·obtain⟨g2,sz2,cs2,e2⟩:=W8 how2 h4;have ho:=R1.obj j' _ h4;cases hl:ι' (ρ j') with
     |nil p=>rw [hl] at hb';cases hb'
     |lay b2 off e =>
      rw [hl] at hb';rw [hl,e2] at ho;have:b2=b:=(by simpa [Loc.CU] using hb');have:=ho.1;omega
    ·rw [hal k o h2] at ha;cases ha
  ·rw [hloc] at hb;rcases hcase k' o' hk' with ⟨h4,h5⟩|⟨j',wr',g',sz',cs',rfl,h4,rfl⟩
   ·rw [hold k' h5];intro hb';have hlt:=(H.obj k' o' h4).lt hb';have ho:=R1.obj j _ h2;cases hl:ι' (ρ j) with
    |nil p=>rw [hl] at hb;cases hb
    |lay b2 off e =>
     rw [hl] at ho hb;have:b2=b:=(by simpa [Loc.CU] using hb);have hwr:wr=true:=ha;subst hwr;have:=ho.1;omega
   ·rw [hloc];exact R1.sep j j' _ _ h2 h4 (fun e=>hne (by rw [e])) ha b hb
 ·intro k o hk;rcases hcase k o hk with ⟨h2,h3⟩|⟨j,wr,g,sz,cs,rfl,h2,rfl⟩
  ·omega
  ·have:=R1.low j _ h2;omega
 ·intro k o hk;rcases hcase k o hk with ⟨h2,h3⟩|⟨j,wr,g,sz,cs,rfl,h2,rfl⟩
  ·exact (H'.sc k o h2).mono (by omega) hold
  ·intro v hv;obtain⟨y,hy,rfl⟩:=List.mem_map.1 hv;refine jN (m:=m) ?_ (fun k hk=>by omega);rw [hι];exact R1.sc j _ h2 y hy
 ·rw [q7,D8 q2,D8 hscn,hι]
def In (args0:List Value)(h0:Heap)(n0:Nat)(args:List Value)(h:Heap)(nx:Nat):Prop :=
 ∀ ι B w,aS ι B h nx w→(∀ v∈args,eR ι nx v)→∃ ι0,args.map (tr ι)=args0.map (tr ι0)∧(∀ v∈args0,eR ι0 n0 v)∧aS ι0 w.heap.size h0 n0 w
abbrev Sp:=List Value→Heap→Nat→Value→Heap→Nat→Prop
def pB (h1 h:Heap):Heap:=match sN h1 with|true=>h|false=>eJ h
def xOf (S:Sp):List Value→Heap→Nat→KE→Prop:=fun args h nx K =>
 ∃ args0 h0 n0 v1 h1 m,S args0 h0 n0 v1 h1 m∧In args0 h0 n0 args h nx∧K (fV (fun k=>nx+k) v1) (app (mZ nx h1) (pB h1 h)) (nx+m)
def K2 (v1:Value)(h1:Heap)(m:Nat):KE:=fun v h' nx'=>∃ ρ,qE 0 ρ [(0,v1)] h1 m [(0,v)] h' nx'
theorem gF {P:Program}{C:VC}{f:Nat}{S:Sp}(hC:bI P C)(hS:∀ args0 h0 n0 v1 h1 m,S args0 h0 n0 v1 h1 m→iI h1=true∧∃ Q:KE,C f args0 h0 n0 Q∧∀ v h nx,Q v h nx→K2 v1 h1 m v h nx):cJ P f (xOf S):=by
 refine⟨fun args h nx K hx ι B w H hs=>?_,fun args h nx K hx=>?_⟩
 ·obtain⟨args0,h0,n0,v1,h1,m,s1,s2,s3⟩:=hx;obtain⟨how,Q,hc,hq⟩:=hS _ _ _ _ _ _ s1;obtain⟨ι0,e1,e2,e3⟩:=s2 ι B w H hs;obtain⟨c1,c2⟩:=hC f args0 h0 n0 _ hc ι0 w.heap.size w e3 e2;refine⟨c1,?_⟩;rw [e1];refine CallsIn.mono c2 fun e w' hr=>?_;cases e with
  |returned u =>
   unfold pB at s3;cases ho:sN h1 with
   |true=>rw [ho] at s3;exact MY H (fun v h' nx' q=>hq v h' nx' q) how (.inl ho) s3 hr
   |false =>
    rw [ho] at s3;refine MY (H.shut.down H.size) (fun v h' nx' q=>hq v h' nx' q) how (.inr fun k o hk=>?_) s3 hr;rw [gB] at hk;cases hq:look h k with
    |none=>rw [hq] at hk;cases hk
    |some q =>
     rw [hq] at hk;injection hk with hk;subst hk;exact K8 q
  |_=>exact hr.elim
 ·obtain⟨args0,h0,n0,v1,h1,m,s1,s2,s3⟩:=hx;exact⟨_,_,_,s3,fun K' hk=>⟨args0,h0,n0,v1,h1,m,s1,s2,hk⟩⟩
theorem bS {α:Type}{k:Nat}{o:α}{p:Prop}(h:look [] k=some o):p:=by cases h
theorem kK {v:Value}(hv:gT v=true){h':Heap}{nx':Nat}:K2 v [] 0 v h' nx' :=
 ⟨id,⟨fun t u hu=>by
  rw [aE] at hu;split at hu
  ·rename_i hb;injection hu with hu;subst hu;exact⟨by rw [aE,hb];show some v=some (fV id v);rw [fV,iB hv],bU hv⟩
  ·exact bS hu,fun k o hk=>bS hk,fun k k' o o' hk=>bS hk,fun k hk=>rfl,Nat.le_refl _⟩⟩
theorem kT {σ:Nat→Nat}{v:Value}(hv:gT v=true):fV σ v=v:=iB hv
theorem aCS {args:List Value}(hg:∀ v∈args,gT v=true){h:Heap}{nx:Nat}:In args [] 0 args h nx:=by
 intro ι B w H hs;refine⟨ι,rfl,fun v hv=>bU (hg v hv),⟨fun k o hk=>bS hk,fun k k' o o' hk=>bS hk,fun k o hk=>bS hk,Nat.le_refl _,fun k o hk=>bS hk⟩⟩
theorem aZ {α:Type}{l:List (Nat × α)}{k:Nat}{o:α}(h:look l k=some o):(k,o)∈l:=by
 induction l with
 |nil=>exact bS h
 |cons x r ih =>
  obtain⟨j,q⟩:=x;rw [aE] at h;split at h
  ·rename_i hb;have:=beq_true hb;subst this;injection h with h;subst h;exact .head _
  ·exact .tail _ (ih h)
theorem cF {l:List Value}(h:eM l=true){v:Value}(hv:v∈l):gT v=true:=by
 induction l with
 |nil=>cases hv
 |cons x r ih =>
  simp only [eM,Bool.and_eq_true] at h;cases hv with
  |head =>
   have:=h.1;cases v <;> first|exact this|(simp [gA,gS] at this)
  |tail _ hm=>exact ih h.2 hm
theorem aA9 {k o n c:Nat}{r:List Value}(hr:eM r=true){h:Heap}{nx:Nat}{wr g:Bool}{sz0:Nat}{cs:List Value}(hk:look h k=some (.cells wr g sz0 cs)){cs0:List Value}(hcs:(cs.drop o).take cs0.length=cs0)(hg:c9 cs0=true)(g0:Bool)(sz:Nat)(hz:sz≠0) :
  In (.slice (some ⟨0,0,none⟩) n c::r) [(0,.cells false g0 sz cs0)] 1 (.slice (some ⟨k,o,none⟩) n c::r) h nx:=by
 intro ι B w H hs;have hx:k<nx∧((ι k).gJ=false→n=0∧c=0):=hs _ (.head _);have hmap:∀ ι1 ι2:Nat→Loc,r.map (tr ι1)=r.map (tr ι2):=fun ι1 ι2=>List.map_congr_left fun v hv=>(by rw [iB (cF hr hv),iB (cF hr hv)]);have hsc:∀ ι0:Nat→Loc,∀ v∈r,eR ι0 1 v:=fun ι0 v hv=>bU (cF hr hv);have ho:=H.obj k _ hk;cases hι:ι k with
 |nil p =>
  rw [hι] at ho;have hnil:cs=[]:=(by cases wr <;> exact ho.1);subst hnil;have h0:cs0=[]:=(by rw [← hcs];simp);subst h0;refine⟨fun _=>.nil p,?_,?_,⟨?_,?_,?_,Nat.le_refl _,?_⟩⟩
  ·rw [List.map_cons,List.map_cons,hmap ι];congr 1;simp [tr,dP,bR,dR,hι]
  ·intro v hv;cases hv with
   |head=>exact⟨Nat.one_pos,fun _=>hx.2 (by rw [hι];rfl)⟩
   |tail _ hm=>exact hsc _ v hm
  ·intro j q hq;rw [aE] at hq;split at hq
   ·injection hq with hq;subst hq;exact⟨rfl,fun h=>h.elim (fun h=>absurd h hz) (fun h=>by cases h)⟩
   ·exact bS hq
  ·intro j j' q q' hq hq' hne ha b hb;cases hb
  ·intro j q hq;rw [aE] at hq;split at hq
   ·rename_i hb;rw [← beq_true hb];exact Nat.one_pos
   ·exact bS hq
  ·intro j q hq;rw [aE] at hq;split at hq
   ·injection hq with hq;subst hq;intro v hv;cases hv
   ·exact bS hq
 |lay b off e =>
  have hlt:b<w.heap.size:=ho.lt (by rw [hι];rfl);refine⟨fun _=>.lay b (off+o) e,?_,?_,⟨?_,?_,?_,Nat.le_refl _,?_⟩⟩
  ·rw [List.map_cons,List.map_cons,hmap ι];congr 1;simp [tr,dP,bR,dR,hι]
  ·intro v hv;cases hv with
   |head=>exact⟨Nat.one_pos,fun h=>by cases h⟩
   |tail _ hm=>exact hsc _ v hm
  ·intro j q hq;rw [aE] at hq;split at hq
   ·injection hq with hq;subst hq;refine⟨hlt,fun _=>hg,fun i v hv=>?_⟩;have hv2:cs[o+i]? = some v:=by
     rw [← hcs] at hv;rw [List.getElem?_take] at hv;split at hv
     ·rw [List.getElem?_drop] at hv;exact hv
     ·cases hv
    obtain⟨b',off',e',hι',hc⟩:=H.cell hk hv2;rw [hι] at hι';injection hι' with e1 e2 e3;subst e1;subst e2;have hgv:=a8 hg (List.mem_of_getElem? hv);rw [Nat.add_assoc,hc,lL hgv,lL hgv]
   ·exact bS hq
  ·intro j j' q q' hq hq' hne ha b hb;rw [aE] at hq hq';split at hq
   ·rename_i hb1;split at hq'
    ·rename_i hb2;exact absurd ((beq_true hb1).symm.trans (beq_true hb2)) hne
    ·exact bS hq'
   ·exact bS hq
  ·intro j q hq;rw [aE] at hq;split at hq
   ·rename_i hb;rw [← beq_true hb];exact Nat.one_pos
   ·exact bS hq
  ·intro j q hq;rw [aE] at hq;split at hq
   ·injection hq with hq;subst hq;exact fun v hv=>cR (a8 hg hv)
   ·exact bS hq
end Go.Aw
end

noncomputable section
namespace Go.Aw
def ltF:Int→Int→Bool
 |.ofNat m,.ofNat n=>Nat.blt m n
 |.ofNat _,.negSucc _=>false
 |.negSucc _,.ofNat _=>true
 |.negSucc m,.negSucc n=>Nat.blt n m
def leF:Int→Int→Bool
 |.ofNat m,.ofNat n=>Nat.ble m n
 |.ofNat _,.negSucc _=>false
 |.negSucc _,.ofNat _=>true
 |.negSucc m,.negSucc n=>Nat.ble n m
def eqF:Int→Int→Bool
 |.ofNat m,.ofNat n=>Nat.beq m n
 |.ofNat _,.negSucc _=>false
 |.negSucc _,.ofNat _=>false
 |.negSucc m,.negSucc n=>Nat.beq m n
def S5:IntKind→Int→Bool
 |.i64,.ofNat m=>Nat.ble m 9223372036854775807
 |.i64,.negSucc m=>Nat.ble m 9223372036854775807
 |k,n=>aH k n
theorem aCs (m n:Nat):Nat.blt m n=decide (m<n):=by
 cases h:Nat.blt m n with
 |true=>exact (decide_eq_true (pM h)).symm
 |false =>
  refine (decide_eq_false fun hl=>?_).symm;have:Nat.blt m n=true:=Nat.ble_eq_true_of_le hl;rw [h] at this;cases this
theorem T4 (m n:Nat):Nat.ble m n=decide (m≤n):=by
 cases h:Nat.ble m n with
 |true=>exact (decide_eq_true (Nat.le_of_ble_eq_true h)).symm
 |false =>
  refine (decide_eq_false fun hl=>?_).symm;have:Nat.ble m n=true:=Nat.ble_eq_true_of_le hl;rw [h] at this;cases this
theorem aCf (m n:Nat):Nat.beq m n=decide (m=n):=by
 cases h:Nat.beq m n with
 |true=>exact (decide_eq_true (beq_true h)).symm
 |false=>exact (decide_eq_false (beq_false h)).symm
theorem aH2 (a b:Int):ltF a b=decide (a<b):=by
 rw [Bool.eq_iff_iff];cases a <;> cases b <;> simp only [ltF,aCs,decide_eq_true_eq,Int.ofNat_eq_natCast,Int.negSucc_eq,Bool.false_eq_true,false_iff,true_iff] <;> omega
theorem aGA (a b:Int):leF a b=decide (a≤b):=by
 rw [Bool.eq_iff_iff];cases a <;> cases b <;> simp only [leF,T4,decide_eq_true_eq,Int.ofNat_eq_natCast,Int.negSucc_eq,Bool.false_eq_true,false_iff,true_iff] <;> omega
theorem aFC (a b:Int):eqF a b=decide (a=b):=by
 rw [Bool.eq_iff_iff];cases a <;> cases b <;> simp only [eqF,aCf,decide_eq_true_eq,Int.ofNat_eq_natCast,Int.negSucc_eq,Bool.false_eq_true,false_iff,true_iff] <;> omega
theorem YK (k:IntKind)(n:Int):S5 k n=aH k n:=by
 cases k <;> try rfl
 rw [Bool.eq_iff_iff];cases n <;> simp only [S5,aH,T4,Bool.and_eq_true,decide_eq_true_eq,Int.ofNat_eq_natCast,Int.negSucc_eq] <;> omega
def SI:Ar:={ aB with
 add:=Int.add,sub:=Int.sub,mul:=Int.mul
 lt:=ltF,le:=leF,eq:=eqF,fits:=S5
 ix:=fun o i s=>Nat.add o (Nat.mul i.toNat s)
 num:=Int.ofNat,toN:=Int.toNat,subN:=Nat.sub }
theorem Y0:SI=aB:=by
 unfold SI
 rw [show ltF=aB.lt from funext fun a=>funext fun b=>aH2 a b,show leF=aB.le from funext fun a=>funext fun b=>aGA a b,
  show eqF=aB.eq from funext fun a=>funext fun b=>aFC a b,show S5=aB.fits from funext fun a=>funext fun b=>YK a b]
 rfl
def aJP:ET:={ A:=SI,T:=tyT,FT:=look ftL,PL:=plF,PR:=fun _=>false,X:=fun _=>none,M:=1000 }
theorem TH:∀ {l:List (Nat × Func)} {f:Nat} {fn:Func},GM l=true→(f,fn)∈l→fnB f fn=true
 |[],_,_,_,h=>by cases h
 |(g,gn)::r,f,fn,hb,h=>by
  simp only [GM,Bool.and_eq_true] at hb;cases h with
  |head=>exact hb.1
  |tail _ hm=>exact TH hb.2 hm
theorem NM (f : Nat)(fn : Func)(h : look ftL f = some fn) : Go.Proofs.Tryz.prog.funcs[f]? = some fn ∧ (fn.name == "runtime.NumGoroutine") = false ∧ ∀ b, fn.body = some b → dT (plF f) b = true := by
 have hm:=aZ h;have hb:=TH aGp hm;unfold fnB at hb;simp only [Bool.and_eq_true,Bool.not_eq_true'] at hb;have h1:Go.Proofs.Tryz.prog.funcs[(f,fn).1]? = some (f,fn).2:=aFe (f,fn) hm;refine⟨h1,hb.1,?_⟩;have h2:=hb.2;generalize plF f=Φ at h2 ⊢;intro b he;simp only [he] at h2;exact h2
theorem E1 (X:Nat→Option (List Value→Heap→Nat→KE→Prop))(hX:∀ f x,X f=some x→cJ Go.Proofs.Tryz.prog f x)(PR:Nat→Bool)(M:Nat):rP Go.Proofs.Tryz.prog { A:=SI,T:=tyT,FT:=look ftL,PL:=plF,PR:=PR,X:=X,M:=M } where
 ar:=Y0
 tab:=LX YO
 mixed:=by decide +kernel
 funcs:=NM
 xs:=hX
def iv (n:Int):Value:=.int .i64 n
def pt (x y:Int):Value:=.agg #[iv x,iv y]
end Go.Aw
end

noncomputable section
namespace Go.Aw
open Go.RowKit
theorem bm {b:Bool}{X Y:Prop}(h1:b=true→X)(h2:b=false→Y):(match (generalizing:=false) b with|true=>X|false=>Y):=by
 cases b
 ·exact h2 rfl
 ·exact h1 rfl
theorem mR {x:Option (List Value)}{v:List Value}{G:List Value→Prop}(h:x=some v)(k:G v):(match (generalizing:=false) x with|some v=>G v|none=>False):=by
 subst h;exact k
theorem fY {x:Option Value}{v:Value}{G:Value→Prop}(h:x=some v)(k:G v):(match (generalizing:=false) x with|some v=>G v|none=>False):=by
 subst h;exact k
abbrev XF:=List Value→Heap→Nat→KE→Prop
def CX (X:Nat→Option XF):VC:=fun f args h nx K=>match X f with|some x=>x args h nx K|none=>False
def noY:VY:=fun _ _ _ _ _=>False
theorem aEm {P:Program}{X:Nat→Option XF}(hX:∀ f x,X f=some x→cJ P f x):bI P (CX X):=by
 intro f args h nx K hl ι B w H hs;unfold CX at hl;split at hl
 ·rename_i x hx;exact (hX f x hx).1 args h nx K hl ι B w H hs
 ·exact hl.elim
theorem RT {P:Program}{X:Nat→Option XF}(hX:∀ f x,X f=some x→cJ P f x):dZ (CX X):=by
 intro f args h nx K hl;unfold CX at hl;split at hl
 ·rename_i x hx;obtain⟨v,h',nx',k1,k2⟩:=(hX f x hx).2 args h nx K hl;exact⟨v,h',nx',k1,fun K' hk=>by unfold CX;rw [hx];exact k2 K' hk⟩
 ·exact hl.elim
theorem aA4 {P:Program}:eG P noY:=fun _ _ _ _ _ hl=>hl.elim
theorem LN:dZ noY:=fun _ _ _ _ _ hl=>hl.elim
theorem cJ.mono {P:Program}{f:Nat}{x x':XF}(h:cJ P f x)(hm:∀ args h nx K,x' args h nx K→x args h nx K)(hd:∀ args h nx,fH (x' args h nx)):cJ P f x' :=
 ⟨fun args hh nx K hx=>h.1 args hh nx K (hm _ _ _ _ hx),hd⟩
def gX (s:List Value→Option (Bool × Value)):XF:=fun args h nx K=>match s args with|some p=>dI p.1 (K p.2 h nx)|none=>False
theorem lJ (h:Heap):app h []=h:=by
 induction h with
 |nil=>rfl
 |cons x r ih=>simp only [app,ih]
theorem yC {P:Program}{C:VC}{f:Nat}{s:List Value→Option (Bool × Value)}(hC:bI P C)
  (hs:∀ args v,s args=some (true,v)→eM args=true∧gT v=true∧C f args [] 0 (fun u _ _=>u=v)):cJ P f (gX s):=by
 refine (gF (S:=fun args0 h0 n0 v1 h1 m=>s args0=some (true,v1)∧h0=[]∧n0=0∧h1=[]∧m=0) hC ?_).mono ?_ ?_
 ·rintro args0 h0 n0 v1 h1 m ⟨e1,rfl,rfl,rfl,rfl⟩;obtain⟨a1,a2,a3⟩:=hs args0 v1 e1;refine⟨rfl,?_⟩;exact⟨_,a3,fun v h nx e=>by rw [e];exact kK a2⟩
 ·intro args h nx K hx;unfold gX at hx;split at hx
  ·rename_i p e1;obtain⟨b,v⟩:=p;obtain⟨rfl,hx⟩:=aG.1 hx;obtain⟨a1,a2,a3⟩:=hs args v e1;refine⟨args,[],0,v,[],0,⟨e1,rfl,rfl,rfl,rfl⟩,aCS fun u hu=>cF a1 hu,?_⟩;simp only [pB,sN,mZ,lJ,kT a2,Nat.add_zero];exact hx
  ·exact hx.elim
 ·intro args h nx K hx;unfold gX at hx;split at hx
  ·rename_i p e1;obtain⟨hb,hx⟩:=aG.1 hx;exact⟨p.2,h,nx,hx,fun K' hk=>by unfold gX;rw [e1];exact aJ hb hk⟩
  ·exact hx.elim
theorem aM {ρ:Nat→Nat}{n sz:Nat}{wr g:Bool}{cs:List Value}(hg:c9 cs=true):bO ρ n (.cells wr g sz cs) (.cells wr g sz cs) :=
 ⟨rfl,rfl,rfl,(bZ hg).symm,fun v hv=>cR (a8 hg hv)⟩
theorem aL {b n0 nx:Nat}{I:KS}{e0 e:List (Nat × Value)}{h0 h:Heap}(hI:I e0 h0 n0)(he:∀ p∈e0,look e p.1=some (fV id p.2)∧wJ n0 p.2)
  (hh:∀ p∈h0,p.1<n0∧∃ o',look h (id p.1)=some o'∧bO id n0 p.2 o') (hb:b≤n0):qV b I e h nx :=
 ⟨e0,h0,n0,id,hI,fun t v hv=>he (t,v) (aZ hv),fun k o hk=>hh (k,o) (aZ hk),fun k k' o o' _ _ e=>e,fun k _=>rfl,hb⟩
def flat {α:Type}(fl:α→List Value):List α→List Value
 |[]=>[]
 |a::r=>fl a++flat fl r
structure El (α:Type) where
 fl:α→List Value
 sz:Nat
 len:∀ a,(fl a).length=sz
 gr:∀ a,c9 (fl a)=true
 pos:sz≠0:=by decide
section
variable {α:Type}(E:El α)
theorem bF (l:List α):(flat E.fl l).length=l.length*E.sz:=by
 induction l with
 |nil=>simp [flat]
 |cons a r ih=>simp only [flat,List.length_append,E.len,ih,List.length_cons,Nat.succ_mul];omega
theorem aI (l:List α):c9 (flat E.fl l)=true:=by
 induction l with
 |nil=>rfl
 |cons a r ih=>simp only [flat,O8,E.gr,ih,Bool.and_self]
theorem aCm {l:List Value}{o n:Nat}(h:o+n≤l.length):nW l o n=some ((l.drop o).take n):=by
 induction n generalizing o with
 |zero=>simp [nW]
 |succ n ih =>
  have hlt:o<l.length:=(by omega);simp only [nW,wP,List.getElem?_eq_getElem hlt,ih (o:=o+1) (by omega)];congr 1;rw [List.drop_eq_getElem_cons hlt];rfl
theorem K4 (l:List α)(i:Nat)(hi:i<l.length):((flat E.fl l).drop (i*E.sz)).take E.sz=E.fl l[i]:=by
 induction l generalizing i with
 |nil=>simp at hi
 |cons a r ih =>
  cases i with
  |zero =>
   simp only [flat,Nat.zero_mul,List.drop_zero,List.getElem_cons_zero];rw [List.take_append_of_le_length (by rw [E.len];exact Nat.le_refl _),List.take_of_length_le (by rw [E.len];exact Nat.le_refl _)]
  |succ i =>
   have hl:(fl:List Value)→True:=fun _=>trivial;simp only [flat,List.getElem_cons_succ];rw [show (i+1)*E.sz=(E.fl a).length+i*E.sz by rw [E.len,Nat.succ_mul];omega,List.drop_append,Nat.add_sub_cancel_left,List.drop_eq_nil_of_le (by omega),List.nil_append];exact ih i (by simpa using hi)
theorem qB (l:List α){i o:Nat}(hi:i<l.length)(ho:o=i*E.sz):nW (flat E.fl l) o E.sz=some (E.fl l[i]):=by
 subst ho;have h1:(i+1)*E.sz≤l.length*E.sz:=Nat.mul_le_mul_right _ hi;rw [aCm (by rw [bF];rw [Nat.succ_mul] at h1;exact h1),K4 E l i hi]
def gZ (h:Heap)(v:Value)(l:List α):Prop :=
 match v with
 |.slice none n c=>n=0∧c=0∧l=[]
 |.slice (some ⟨k,o,none⟩) n _=>n=l.length∧∃ wr g sz cs,look h k=some (.cells wr g sz cs)∧(cs.drop o).take (flat E.fl l).length=flat E.fl l
 |_=>False
def lX (s:List α→List Value→Option (Bool × Value)):XF:=fun args h nx K=>match args with
 |v::r=>∃ l,gZ E h v l∧(match s l r with|some p=>dI p.1 (K p.2 h nx)|none=>False)
 |_=>False
theorem RR {r:List Value}(hr:eM r=true){h:Heap}{nx:Nat}(g0:Bool)(sz:Nat)(hz:sz≠0):In (.slice (some ⟨0,0,none⟩) 0 0::r) [(0,.cells false g0 sz [])] 1 (.slice none 0 0::r) h nx:=by
 intro ι B w H hs;have hmap:∀ ι1 ι2:Nat→Loc,r.map (tr ι1)=r.map (tr ι2):=fun ι1 ι2=>List.map_congr_left fun v hv=>(by rw [iB (cF hr hv),iB (cF hr hv)]);refine⟨fun _=>.nil none,?_,?_,⟨?_,?_,?_,Nat.le_refl _,?_⟩⟩
 ·rw [List.map_cons,List.map_cons,hmap ι];rfl
 ·intro v hv;cases hv with
  |head=>exact⟨Nat.one_pos,fun _=>⟨rfl,rfl⟩⟩
  |tail _ hm=>exact bU (cF hr hm)
 ·intro j q hq;rw [aE] at hq;split at hq
  ·injection hq with hq;subst hq;exact⟨rfl,fun h=>h.elim (fun h=>absurd h hz) (fun h=>by cases h)⟩
  ·exact bS hq
 ·intro j j' q q' hq hq' hne ha b hb;cases hb
 ·intro j q hq;rw [aE] at hq;split at hq
  ·rename_i hb;rw [← beq_true hb];exact Nat.one_pos
  ·exact bS hq
 ·intro j q hq;rw [aE] at hq;split at hq
  ·injection hq with hq;subst hq;intro v hv;cases hv
  ·exact bS hq
theorem vH {P:Program}{C:VC}{f:Nat}{s:List α→List Value→Option (Bool × Value)}(hC:bI P C)
  (hs:∀ l r v,s l r=some (true,v)→eM r=true∧gT v=true∧∀ c,C f (.slice (some ⟨0,0,none⟩) l.length c::r) [(0,.cells false true E.sz (flat E.fl l))] 1 (fun u _ _=>u=v)):cJ P f (lX E s):=by
 refine (gF (S:=fun args0 h0 n0 v1 h1 m=>∃ l r c,s l r=some (true,v1)∧args0=.slice (some ⟨0,0,none⟩) l.length c::r∧h0=[(0,.cells false true E.sz (flat E.fl l))]∧n0=1∧h1=[]∧m=0) hC ?_).mono ?_ ?_
 ·rintro args0 h0 n0 v1 h1 m ⟨l,r,c,e1,rfl,rfl,rfl,rfl,rfl⟩;obtain⟨a1,a2,a3⟩:=hs l r v1 e1;exact⟨rfl,_,a3 c,fun v h nx e=>by rw [e];exact kK a2⟩
 ·intro args h nx K hx;unfold lX at hx;split at hx
  case h_2=>exact hx.elim
  rename_i v r;obtain⟨l,hl,hx⟩:=hx;split at hx
  case h_2=>exact hx.elim
  rename_i p e1;obtain⟨b,u⟩:=p;obtain⟨rfl,hx⟩:=aG.1 hx;obtain⟨a1,a2,a3⟩:=hs l r u e1;have hK:K (fV (fun k=>nx+k) u) (app (mZ nx []) (pB [] h)) (nx+0):=by
   simp only [pB,sN,mZ,lJ,kT a2,Nat.add_zero];exact hx
  unfold gZ at hl;split at hl
  ·rename_i n c;obtain⟨rfl,rfl,rfl⟩:=hl;exact⟨_,_,1,u,[],0,⟨[],r,0,e1,rfl,rfl,rfl,rfl,rfl⟩,RR a1 true E.sz E.pos,hK⟩
  ·rename_i k o n c;obtain⟨rfl,wr,g,sz,cs,hk,hcs⟩:=hl;exact⟨_,_,1,u,[],0,⟨l,r,c,e1,rfl,rfl,rfl,rfl,rfl⟩,aA9 a1 hk hcs (aI E l) true E.sz E.pos,hK⟩
  ·exact hl.elim
 ·intro args h nx K hx;unfold lX at hx;split at hx
  case h_2=>exact hx.elim
  rename_i v r;obtain⟨l,hl,hx⟩:=hx;split at hx
  case h_2=>exact hx.elim
  rename_i p e1;obtain⟨hb,hx⟩:=aG.1 hx;exact⟨p.2,h,nx,hx,fun K' hk=>⟨l,hl,by rw [e1];exact aJ hb hk⟩⟩
end
end Go.Aw
end

noncomputable section
namespace Go.Aw
def aA:ET:={ A:=aB,T:=tyT,FT:=look ftL,PL:=plF,PR:=fun _=>false,X:=fun _=>none,M:=0 }
theorem lI:rP Go.Proofs.Tryz.prog aA where
 ar:=rfl
 tab:=LX YO
 mixed:=by decide +kernel
 funcs:=NM
 xs:=fun _ _ h=>by cases h
def body (xl:List (Nat × XF)):VC:=vG aA none (CX (look xl)) noY
def nQ (xl:List (Nat × XF)):Prop:=∀ p∈xl,cJ Go.Proofs.Tryz.prog p.1 p.2
theorem nQ.nil:nQ []:=fun _ h=>by cases h
theorem nQ.cons {f:Nat}{x:XF}{l:List (Nat × XF)}(h:cJ Go.Proofs.Tryz.prog f x)(hl:nQ l):nQ ((f,x)::l):=List.forall_mem_cons.2 ⟨h,hl⟩
theorem nQ.look {xl:List (Nat × XF)}(h:nQ xl)(f:Nat)(x:XF)(hx:look xl f=some x):cJ Go.Proofs.Tryz.prog f x:=h (f,x) (aZ hx)
theorem aK {xl:List (Nat × XF)}(h:nQ xl):bI Go.Proofs.Tryz.prog (body xl):=FO lI (aEm h.look) aA4 (RT h.look) LN none
def SC (p:Int × Int):Value:=.agg #[iv p.1,iv p.2]
def V9:Value→Option Int
 |.int .i64 n=>some n
 |_=>none
def QR:Value→Option (Int × Int)
 |.agg ⟨[.int .i64 x,.int .i64 y]⟩=>some (x,y)
 |_=>none
theorem CS {v:Value}{n:Int}(h:V9 v=some n):v=iv n:=by
 unfold V9 at h;split at h
 ·injection h with h;subst h;rfl
 ·cases h
theorem yO {v:Value}{p:Int × Int}(h:QR v=some p):v=SC p:=by
 unfold QR at h;split at h
 ·injection h with h;subst h;rfl
 ·cases h
def s1P (F:Int × Int→Bool × Value):List Value→Option (Bool × Value)
 |[a]=>(match QR a with|some p=>some (F p)|none=>none)
 |_=>none
theorem aCr {F:Int × Int→Bool × Value}{args:List Value}{r:Bool × Value}(h:s1P F args=some r):∃ p,args=[SC p]∧F p=r:=by
 unfold s1P at h;split at h
 ·split at h
  ·rename_i p e;injection h with h;exact⟨p,by rw [yO e],h⟩
  ·cases h
 ·cases h
def s3P (F:Int × Int→Int × Int→Int × Int→Bool × Value):List Value→Option (Bool × Value)
 |[a,b,c]=>(match QR a with|some p=>(match QR b with|some q=>(match QR c with|some r=>some (F p q r)|none=>none)|none=>none)|none=>none)
 |_=>none
theorem aBP {F:Int × Int→Int × Int→Int × Int→Bool × Value}{args:List Value}{r:Bool × Value}(h:s3P F args=some r):∃ p q s,args=[SC p,SC q,SC s]∧F p q s=r:=by
 unfold s3P at h;split at h
 ·split at h
  ·rename_i p e;split at h
   ·rename_i q e2;split at h
    ·rename_i s e3;injection h with h;exact⟨p,q,s,by rw [yO e,yO e2,yO e3],h⟩
    ·cases h
   ·cases h
  ·cases h
 ·cases h
def s1I (F:Int→Bool × Value):List Value→Option (Bool × Value)
 |[a]=>(match V9 a with|some p=>some (F p)|none=>none)
 |_=>none
theorem aDP {F:Int→Bool × Value}{args:List Value}{r:Bool × Value}(h:s1I F args=some r):∃ p,args=[iv p]∧F p=r:=by
 unfold s1I at h;split at h
 ·split at h
  ·rename_i p e;injection h with h;exact⟨p,by rw [CS e],h⟩
  ·cases h
 ·cases h
def s2I (F:Int→Int→Bool × Value):List Value→Option (Bool × Value)
 |[a,b]=>(match V9 a with|some p=>(match V9 b with|some q=>some (F p q)|none=>none)|none=>none)
 |_=>none
theorem aBU {F:Int→Int→Bool × Value}{args:List Value}{r:Bool × Value}(h:s2I F args=some r):∃ p q,args=[iv p,iv q]∧F p q=r:=by
 unfold s2I at h;split at h
 ·split at h
  ·rename_i p e;split at h
   ·rename_i q e2;injection h with h;exact⟨p,q,by rw [CS e,CS e2],h⟩
   ·cases h
  ·cases h
 ·cases h
def cT (xl:List (Nat × XF))(f:Nat)(args:List Value)(v:Value):Prop:=body xl f args [] 0 (fun u _ _=>u=v)
theorem x1P {xl:List (Nat × XF)}(hx:nQ xl){f:Nat}{F:Int × Int→Bool × Value}(hg:∀ p,gT (F p).2=true)(h:∀ p,(F p).1=true→cT xl f [SC p] (F p).2):cJ Go.Proofs.Tryz.prog f (gX (s1P F)) :=
 yC (aK hx) fun args v hs=>by
  obtain⟨p,rfl,e⟩:=aCr hs;have h1:(F p).1=true:=(by rw [e]);have h2:(F p).2=v:=(by rw [e]);subst h2;exact⟨rfl,hg p,h p h1⟩
theorem x3P {xl:List (Nat × XF)}(hx:nQ xl){f:Nat}{F:Int × Int→Int × Int→Int × Int→Bool × Value}(hg:∀ p q r,gT (F p q r).2=true)(h:∀ p q r,(F p q r).1=true→cT xl f [SC p,SC q,SC r] (F p q r).2):cJ Go.Proofs.Tryz.prog f (gX (s3P F)) :=
 yC (aK hx) fun args v hs=>by
  obtain⟨p,q,r,rfl,e⟩:=aBP hs;have h1:(F p q r).1=true:=(by rw [e]);have h2:(F p q r).2=v:=(by rw [e]);subst h2;exact⟨rfl,hg p q r,h p q r h1⟩
theorem x1I {xl:List (Nat × XF)}(hx:nQ xl){f:Nat}{F:Int→Bool × Value}(hg:∀ p,gT (F p).2=true)(h:∀ p,(F p).1=true→cT xl f [iv p] (F p).2):cJ Go.Proofs.Tryz.prog f (gX (s1I F)) :=
 yC (aK hx) fun args v hs=>by
  obtain⟨p,rfl,e⟩:=aDP hs;have h1:(F p).1=true:=(by rw [e]);have h2:(F p).2=v:=(by rw [e]);subst h2;exact⟨rfl,hg p,h p h1⟩
theorem x2I {xl:List (Nat × XF)}(hx:nQ xl){f:Nat}{F:Int→Int→Bool × Value}(hg:∀ p q,gT (F p q).2=true)(h:∀ p q,(F p q).1=true→cT xl f [iv p,iv q] (F p q).2):cJ Go.Proofs.Tryz.prog f (gX (s2I F)) :=
 yC (aK hx) fun args v hs=>by
  obtain⟨p,q,rfl,e⟩:=aBU hs;have h1:(F p q).1=true:=(by rw [e]);have h2:(F p q).2=v:=(by rw [e]);subst h2;exact⟨rfl,hg p q,h p q h1⟩
def aP:El (Int × Int):=⟨fun p=>[iv p.1,iv p.2],2,fun _=>rfl,fun _=>rfl,by decide⟩
def aX (p:Int × Int):Bool:=decide (0≤p.1)&&decide (p.1≤10000)&&decide (0≤p.2)&&decide (p.2≤10000)
def wide (p:Int × Int):Bool:=decide (-1000000≤p.1)&&decide (p.1≤1000000)&&decide (-1000000≤p.2)&&decide (p.2≤1000000)
def bC (a b c:Int × Int):Int:=(b.1 - a.1)*(c.2 - a.2) - (b.2 - a.2)*(c.1 - a.1)
def XJ (n:Int):Int:=if n<0 then -1 else if 0<n then 1 else 0
def jA (a b:Int):Int:=if a<b then -1 else if b<a then 1 else 0
def bA (a b c:Int × Int):Int:=XJ (bC a b c)
set_option maxRecDepth 100000
def X58:Nat × XF:=(185,gX (s1P fun p=>(true,.bool (aX p))))
theorem x58:cJ Go.Proofs.Tryz.prog X58.1 X58.2:=x1P .nil (fun _=>rfl) fun p _=>by
 obtain⟨x,y⟩:=p;unfold cT
 repeat' (conv=>whnf
          refine bm (fun h=>?_) (fun h=>?_))
 all_goals (conv=>whnf)
 all_goals (simp [aA,aB] at *;simp [aX, *] <;> omega)
end Go.Aw
end
