/-
  Parts of the proof, put together. No condition.
-/
import Derived.Test.YtjahkcbdecgbhaaGreatQAi
import Derived.RangeFuncLeaves
set_option linter.unusedSimpArgs false
set_option linter.unusedVariables false
noncomputable section
namespace Go.Aw
open Go.RowKit
def lH (ρ:Nat→Nat):Nat→Loc:=fun k=>.lay (ρ k) 0 0
def jH (ρ:Nat→Nat):Value→Value:=tr (lH ρ)
def bO (ρ:Nat→Nat):Value→Value:=bS (lH ρ)
def BM (n:Nat):Value→Prop:=eL (lH id) n
def CS (n:Nat):Value→Prop:=gN (lH id) n
def bU (ρ:Nat→Nat)(n:Nat):aV→aV→Prop
 |.cells wr0 g0 sz0 cs0,.cells wr g sz cs=>wr0=wr∧g0=g∧sz0=sz∧cs=cs0.map (bO ρ)∧∀ v∈cs0,CS n v
 |.map es0,.map es=>es=es0.map (fun e=>(e.1,bO ρ e.2))∧∀ e∈es0,CS n e.2
 |.zero,.zero=>True
 |_,_=>False
structure pC (b:Nat) (ρ:Nat→Nat) (e0:List (Nat × Value)) (h0:Heap) (n0:Nat) (e:List (Nat × Value)) (h:Heap) (nx:Nat):Prop where
 env:∀ t v,look e0 t=some v→look e t=some (jH ρ v)∧BM n0 v
 heap:∀ k o,look h0 k=some o→k<n0∧∃ o',look h (ρ k)=some o'∧bU ρ n0 o o'
 inj:∀ k k' o o',look h0 k=some o→look h0 k'=some o'→ρ k=ρ k'→k=k'
 fix:∀ k,k<b→ρ k=k
 le:b≤n0
section
variable {ι:Nat→Loc}{ρ:Nat→Nat}{n m:Nat}
theorem CN (v:Value):dS ι (dS (lH ρ) v)=dS (fun k=>ι (ρ k)) v:=by
 cases v with
 |pointer a =>
  cases a with
  |none=>rfl
  |some a =>
   simp only [dS,lH,Nat.zero_add]
 |slice a n c =>
  cases a with
  |none=>rfl
  |some a =>
   simp only [dS,lH,Nat.zero_add,Nat.add_zero]
 |map a =>
  cases a with
  |none=>rfl
  |some a=>simp only [dS,lH]
 |_=>rfl
theorem YK {f:Fn}(h:OY ι n (nW (lH ρ) f)):nW ι (nW (lH ρ) f)=nW (fun k=>ι (ρ k)) f:=by
 cases f with
 |yield l =>
  have h:=h.2;simp only [nW,lH];cases hl:ι (ρ l) with
  |nil p=>rw [hl] at h;cases h
  |lay b o e=>rfl
 |_=>rfl
theorem iO {v:Value}(h:gN ι n (bS (lH ρ) v)):bS ι (bS (lH ρ) v)=bS (fun k=>ι (ρ k)) v:=by
 cases v with
 |func f a c =>
  have h1:=YK (ι:=ι) (n:=n) (f:=f) h.1;simp only [bS,h1,Array.map_map];congr 2;funext x;exact CN x
 |pointer a=>have:=CN (ι:=ι) (ρ:=ρ) (.pointer a);cases a <;> exact this
 |slice a n c=>have:=CN (ι:=ι) (ρ:=ρ) (.slice a n c);cases a <;> exact this
 |map a=>have:=CN (ι:=ι) (ρ:=ρ) (.map a);cases a <;> exact this
 |_=>rfl
theorem tW {v:Value}(h:kH ι n (dO (lH ρ) v)):dO ι (dO (lH ρ) v)=dO (fun k=>ι (ρ k)) v:=by
 cases v with
 |agg cs =>
  simp only [dO,Array.map_map];congr 1;apply Array.map_congr_left;intro x hx;exact iO (n:=n) (h (bS (lH ρ) x) (by simp only [Array.toList_map,List.mem_map];exact⟨x,by simpa using hx,rfl⟩))
 |pointer a=>have:=iO (ι:=ι) (ρ:=ρ) (n:=n) (v:=.pointer a);cases a <;> exact this h
 |slice a l c=>have:=iO (ι:=ι) (ρ:=ρ) (n:=n) (v:=.slice a l c);cases a <;> exact this h
 |map a=>have:=iO (ι:=ι) (ρ:=ρ) (n:=n) (v:=.map a);cases a <;> exact this h
 |func f a c=>exact iO (ι:=ι) (ρ:=ρ) (n:=n) (v:=.func f a c) h
 |_=>rfl
theorem DQ {v:Value}(h:eL ι n (jH ρ v)):tr ι (jH ρ v)=tr (fun k=>ι (ρ k)) v:=by
 unfold jH at h ⊢;cases v with
 |tuple cs =>
  simp only [tr,Array.map_map];congr 1;apply Array.map_congr_left;intro x hx;exact tW (n:=n) (h (dO (lH ρ) x) (by simp only [Array.toList_map,List.mem_map];exact⟨x,by simpa using hx,rfl⟩))
 |pointer a=>have:=tW (ι:=ι) (ρ:=ρ) (n:=n) (v:=.pointer a);cases a <;> exact this h
 |slice a l c=>have:=tW (ι:=ι) (ρ:=ρ) (n:=n) (v:=.slice a l c);cases a <;> exact this h
 |map a=>have:=tW (ι:=ι) (ρ:=ρ) (n:=n) (v:=.map a);cases a <;> exact this h
 |func f a c=>exact tW (ι:=ι) (ρ:=ρ) (n:=n) (v:=.func f a c) h
 |agg c=>exact tW (ι:=ι) (ρ:=ρ) (n:=n) (v:=.agg c) h
 |_=>rfl
theorem CK {v:Value}(h:oG ι n (dS (lH ρ) v))(hm:oG (lH id) m v):oG (fun k=>ι (ρ k)) m v:=by
 cases v with
 |pointer a =>
  cases a with
  |none=>trivial
  |some a=>exact⟨hm.1,h.2⟩
 |slice a l c =>
  cases a with
  |none=>trivial
  |some a=>exact⟨hm.1,fun hf=>h.2 hf⟩
 |map a =>
  cases a with
  |none=>trivial
  |some a=>exact⟨hm.1,h.2⟩
 |agg c=>exact hm.elim
 |tuple c=>exact hm.elim
 |_=>trivial
theorem oD {v:Value}(h:gN ι n (bS (lH ρ) v))(hm:gN (lH id) m v):gN (fun k=>ι (ρ k)) m v:=by
 cases v with
 |func f a c =>
  refine⟨?_,fun x hx=>?_⟩
  ·have h1:=h.1;have h2:=hm.1;cases f with
   |yield l=>exact⟨h2.1,h1.2⟩
   |_=>trivial
  ·refine CK (n:=n) (h.2 _ ?_) (hm.2 x hx);simp only [Array.toList_map,List.mem_map];exact⟨x,hx,rfl⟩
 |pointer a=>have:=CK (ι:=ι) (ρ:=ρ) (n:=n) (m:=m) (v:=.pointer a);cases a <;> exact this h hm
 |slice a l c=>have:=CK (ι:=ι) (ρ:=ρ) (n:=n) (m:=m) (v:=.slice a l c);cases a <;> exact this h hm
 |map a=>have:=CK (ι:=ι) (ρ:=ρ) (n:=n) (m:=m) (v:=.map a);cases a <;> exact this h hm
 |agg c=>exact hm.elim
 |tuple c=>exact hm.elim
 |_=>trivial
theorem uN {v:Value}(h:kH ι n (dO (lH ρ) v))(hm:kH (lH id) m v):kH (fun k=>ι (ρ k)) m v:=by
 cases v with
 |agg cs =>
  intro x hx;refine oD (n:=n) (h _ ?_) (hm x hx);simp only [Array.toList_map,List.mem_map];exact⟨x,hx,rfl⟩
 |pointer a=>have:=oD (ι:=ι) (ρ:=ρ) (n:=n) (m:=m) (v:=.pointer a);cases a <;> exact this h hm
 |slice a l c=>have:=oD (ι:=ι) (ρ:=ρ) (n:=n) (m:=m) (v:=.slice a l c);cases a <;> exact this h hm
 |map a=>have:=oD (ι:=ι) (ρ:=ρ) (n:=n) (m:=m) (v:=.map a);cases a <;> exact this h hm
 |func f a c=>exact oD (ι:=ι) (ρ:=ρ) (n:=n) (m:=m) (v:=.func f a c) h hm
 |tuple c=>exact hm.elim
 |_=>trivial
theorem CB {v:Value}(h:eL ι n (jH ρ v))(hm:BM m v):eL (fun k=>ι (ρ k)) m v:=by
 unfold jH at h;unfold BM at hm;cases v with
 |tuple cs =>
  intro x hx;refine uN (n:=n) (h _ ?_) (hm x hx);simp only [Array.toList_map,List.mem_map];exact⟨x,hx,rfl⟩
 |pointer a=>have:=uN (ι:=ι) (ρ:=ρ) (n:=n) (m:=m) (v:=.pointer a);cases a <;> exact this h hm
 |slice a l c=>have:=uN (ι:=ι) (ρ:=ρ) (n:=n) (m:=m) (v:=.slice a l c);cases a <;> exact this h hm
 |map a=>have:=uN (ι:=ι) (ρ:=ρ) (n:=n) (m:=m) (v:=.map a);cases a <;> exact this h hm
 |func f a c=>exact uN (ι:=ι) (ρ:=ρ) (n:=n) (m:=m) (v:=.func f a c) h hm
 |agg c=>exact uN (ι:=ι) (ρ:=ρ) (n:=n) (m:=m) (v:=.agg c) h hm
 |_=>trivial
theorem aGc {v:Value}(h:gS (bS (lH ρ) v)=true):gS v=true:=by
 cases v with
 |pointer a=>cases a with
  |none=>rfl
  |some a=>simp [bS,dS,lH,gS] at h
 |slice a n c=>cases a with
  |none=>rfl
  |some a=>simp [bS,dS,lH,gS] at h
 |map a=>cases a with
  |none=>rfl
  |some a=>simp [bS,dS,lH,gS] at h
 |func f a c =>
  cases f with
  |func f=>simpa [bS,nW,gS] using h
  |yield l=>simp [bS,nW,lH,gS] at h
  |_=>simp [bS,nW,gS] at h
 |_=>exact h
theorem OI {l:List Value}(h:c7 (l.map (bO ρ))=true):c7 l=true :=
 uM fun v hv=>aGc (bA h (List.mem_map_of_mem hv))
theorem XJ {B:Nat}{w:World}{o0 o:aV}{l:Loc}(h:kG ι B w o l)(hs:TY ι n o)(hr:bU ρ m o0 o):kG (fun k=>ι (ρ k)) B w o0 l:=by
 cases o0 with
 |cells wr0 g0 sz0 cs0 =>
  cases o with
  |cells wr g sz cs =>
   obtain⟨rfl,rfl,rfl,rfl,hn⟩:=hr;cases l with
   |nil p =>
    have h1:cs0.map (bO ρ)=[]∧(sz0=0∨wr0=true→p.isSome=true):=(by cases wr0 <;> exact h);have h2:cs0=[]:=(by simpa using h1.1);cases wr0 <;> exact⟨h2,h1.2⟩
   |lay b off e =>
    cases wr0 with
    |true =>
     obtain⟨h1,h2,arr,t,h3,h4,h5⟩:=h;refine⟨h1,fun hg=>OI (h2 hg),arr,t,h3,by simpa using h4,fun i v hv=>?_⟩;rw [← iO (n:=n) (hs _ (List.mem_map_of_mem (List.mem_of_getElem? hv)))];exact h5 i _ (by rw [List.getElem?_map,hv];rfl)
    |false =>
     obtain⟨h1,h2,h5⟩:=h;refine⟨h1,fun hg=>OI (h2 hg),fun i v hv=>?_⟩;rw [← iO (n:=n) (hs _ (List.mem_map_of_mem (List.mem_of_getElem? hv)))];exact h5 i _ (by rw [List.getElem?_map,hv];rfl)
  |_=>exact hr.elim
 |map es0 =>
  cases o with
  |map es =>
   obtain⟨rfl,hn⟩:=hr;cases l with
   |nil p=>exact h.elim
   |lay b off e =>
    obtain⟨h1,ents,clock,h2,h3,h4⟩:=h;refine⟨h1,ents,clock,h2,h3.trans ?_,fun x hx=>h4 (x.1,bO ρ x.2) (List.mem_map_of_mem hx)⟩;rw [List.map_map];apply List.map_congr_left;intro x hx;simp only [Function.comp_apply,bO];rw [iO (n:=n) (hs (x.1,bO ρ x.2) (List.mem_map_of_mem hx))]
  |_=>exact hr.elim
 |zero =>
  cases o with
  |zero=>cases l <;> exact h
  |_=>exact hr.elim
 |_=>exact hr.elim
theorem aBT {o0 o:aV}(h:TY ι n o)(hr:bU ρ m o0 o):TY (fun k=>ι (ρ k)) m o0:=by
 cases o0 with
 |cells wr0 g0 sz0 cs0 =>
  cases o with
  |cells wr g sz cs =>
   obtain⟨rfl,rfl,rfl,rfl,hn⟩:=hr;exact fun v hv=>oD (n:=n) (h _ (List.mem_map_of_mem hv)) (hn v hv)
  |_=>exact hr.elim
 |map es0 =>
  cases o with
  |map es =>
   obtain⟨rfl,hn⟩:=hr;exact fun x hx=>oD (n:=n) (h (x.1,bO ρ x.2) (List.mem_map_of_mem hx)) (hn x hx)
  |_=>exact hr.elim
 |zero=>trivial
 |_=>exact hr.elim
theorem bU.alone {o0 o:aV}(hr:bU ρ m o0 o)(h:o0.alone=true):o.alone=true:=by
 cases o0 <;> cases o <;> first|exact hr.elim|(obtain⟨rfl,_⟩:=hr;exact h)|exact h
variable {b:Nat}{e0 e:List (Nat × Value)}{h0 h:Heap}{n0 nx:Nat}
theorem pC.aED (r:pC b ρ e0 h0 n0 e h nx){B:Nat}{w:World}(H:aQ ι B h nx w):aQ (fun k=>ι (ρ k)) B h0 n0 w:=by
 refine⟨fun k o hk=>?_,fun k k' o o' h1 h2 hne ha q hq=>?_,fun k o hk=>(r.heap k o hk).1,H.size,fun k o hk=>?_⟩
 ·obtain⟨_,o',h1,h2⟩:=r.heap k o hk;exact XJ (H.obj _ _ h1) (H.sc _ _ h1) h2
 ·obtain⟨_,p,k1,k2⟩:=r.heap k o h1;obtain⟨_,p',k3,k4⟩:=r.heap k' o' h2;exact H.sep _ _ p p' k1 k3 (fun e=>hne (r.inj k k' o o' h1 h2 e)) (k2.alone ha) q hq
 ·obtain⟨_,o',h1,h2⟩:=r.heap k o hk;exact aBT (H.sc _ _ h1) h2
theorem pC.aIx (r:pC b ρ e0 h0 n0 e h nx){a:Act}(H:cR ι nx e a):cR (fun k=>ι (ρ k)) n0 e0 a:=by
 intro t v hv;obtain⟨h1,h2⟩:=r.env t v hv;obtain⟨h3,h4⟩:=H t _ h1;exact⟨by rw [← DQ h4];exact h3,CB h4 h2⟩
end
def pJ (A:Ar)(T:cH)(C:VC)(Y:VY)(tn:Nat)(ops:List Oper)(o:Oper)(e:List (Nat × Value))(h:Heap)(nx:Nat)(K:KS):Prop :=
 fM A ops e o.guard (fun e=>pK A T C Y e h nx o.op fun v h' nx'=>eF tn e o.dst v fun e'=>K e' h' nx') (fun e=>eF tn e o.dst undef fun e'=>K e' h nx)
def allM (l:List Nat):List Nat→Bool
 |[]=>true
 |j::r=>match oV j l with|true=>allM l r|false=>false
theorem M6 {l m:List Nat}:allM l m=true↔∀ j∈m,j∈l:=by
 induction m with
 |nil=>simp [allM]
 |cons x r ih =>
  simp only [allM];split
  ·rename_i h;rw [ih];constructor
   ·intro h2 j hj;rcases List.mem_cons.1 hj with rfl|hj
    ·exact dG.1 h
    ·exact h2 j hj
   ·exact fun h2 j hj=>h2 j (.tail _ hj)
  ·rename_i h;constructor
   ·intro h2;cases h2
   ·intro h2;rw [dG.2 (h2 x (.head _))] at h;cases h
def eH (all:List Oper)(done:List Nat):List Oper→Nat→List Nat
 |[],_=>[]
 |o::r,i=>match oV i done with
  |true=>eH all done r (i+1)
  |false=>(match allM done (kY o) with|true=>i::eH all done r (i+1)|false=>eH all done r (i+1))
theorem PU {all:List Oper}{done:List Nat}:∀ {l:List Oper} {i k:Nat},k∈eH all done l i↔∃ j o,k=i+j∧fC l j=some o∧k∉done∧∀ x∈kY o,x∈done:=by
 intro l
 induction l with
 |nil =>
  intro i k;constructor
  ·intro h;cases h
  ·rintro ⟨j,o,_,h,_⟩;rw [dR] at h;simp at h
 |cons p r ih =>
  intro i k;have shift:(∃ j o,k=i+1+j∧fC r j=some o∧k∉done∧∀ x∈kY o,x∈done)→∃ j o,k=i+j∧fC (p::r) j=some o∧k∉done∧∀ x∈kY o,x∈done:=by
   rintro ⟨j,o,h1,h2,h3⟩;refine⟨j+1,o,by omega,?_,h3⟩;rw [dR] at h2 ⊢;simpa using h2
  have back:(∃ j o,k=i+j∧fC (p::r) j=some o∧k∉done∧∀ x∈kY o,x∈done)→(k=i∧i∉done∧∀ x∈kY p,x∈done)∨∃ j o,k=i+1+j∧fC r j=some o∧k∉done∧∀ x∈kY o,x∈done:=by
   rintro ⟨j,o,h1,h2,h3⟩;cases j with
   |zero =>
    rw [dR] at h2;simp at h2;subst h2;exact .inl ⟨by omega,by rw [show i=k by omega];exact h3.1,h3.2⟩
   |succ j =>
    refine .inr ⟨j,o,by omega,?_,h3⟩;rw [dR] at h2 ⊢;simpa using h2
  simp only [eH];split
  ·rename_i hm;rw [ih];refine⟨shift,fun h=>?_⟩;rcases back h with ⟨_,hn,_⟩|h
   ·exact absurd (dG.1 hm) hn
   ·exact h
  ·rename_i hm;have hn:i∉done:=fun h=>(by rw [dG.2 h] at hm;cases hm);split
   ·rename_i ha;rw [List.mem_cons,ih];constructor
    ·rintro (rfl|h)
     ·exact⟨0,p,rfl,by rw [dR];rfl,hn,M6.1 ha⟩
     ·exact shift h
    ·intro h;rcases back h with ⟨h,_⟩|h
     ·exact .inl h
     ·exact .inr h
   ·rename_i ha;rw [ih];refine⟨shift,fun h=>?_⟩;rcases back h with ⟨_,_,h⟩|h
    ·rw [M6.2 h] at ha;cases ha
    ·exact h
def KI (F:Nat→Prop):List Nat→Prop
 |[]=>True
 |[i]=>F i
 |i::r=>F i∧KI F r
theorem yI {F:Nat→Prop}:∀ {l:List Nat},KI F l↔∀ i∈l,F i
 |[]=>by simp [KI]
 |[i]=>by simp [KI]
 |i::j::r=>by
  rw [show KI F (i::j::r)=(F i∧KI F (j::r)) from rfl,yI];simp
def EB (A:Ar)(T:cH)(C:VC)(Y:VY)(tn:Nat)(ops:List Oper)(K:KS):Nat→List Nat→KS
 |0,_=>K
 |n+1,done=>fun e h nx=>match eH ops done ops 0 with
  |[]=>K e h nx
  |i::r=>KI (fun j=>match fC ops j with|some o=>pJ A T C Y tn ops o e h nx (EB A T C Y tn ops K n (j::done))|none=>False) (i::r)
section
variable {P:Program}{T:cH}{C:VC}{Y:VY}{ops:Array Oper}
variable {B:Nat}{w0:World}{ιb:Nat→Loc}{nxb tn:Nat}{ds:List Deferred}{K:KS}
theorem aA9 (hT:cD P T)(hC:bE P C)(hY:eC P Y)(r:Option Nat){Q:Exit→Act→World→Prop}{i:Nat}{o:Oper}(ho:fC ops.toList i=some o){ι:Nat→Loc}{e:List (Nat × Value)}{h:Heap}{nx:Nat}{a:Act}{w:World}
  (hl:pJ aC T C Y tn ops.toList o e h nx K) (I:Inv B w0 ιb nxb tn ds ι e h nx a w) {next:Act→World→Prop}
  (hQ:∀ ι e h nx a w,K e h nx→Inv B w0 ιb nxb tn ds ι e h nx a w→next a w):wpOpIn (Fr r) 0 P ops Q i next a w:=by
 have hoo:ops[i]? = some o:=(by rw [dR] at ho;simpa using ho);unfold wpOpIn;simp only [hoo];unfold pJ at hl;obtain⟨env1,he1,hcase⟩:=uC I.env hl;rcases hcase with ⟨hw,hl⟩|⟨hw,hl⟩
 ·rw [if_pos hw];refine (PH hT hC hY he1 I.heap hl).upon (BH hl) rfl r _ _ fun v h' nx' ι' w' k1 k2 k3 k4 k5 k6=>?_;obtain⟨env2,k7,k8,k9,k10⟩:=nY (he1.names k6 k5) I.size k1 k2;exact hQ ι' env2 h' nx' _ w' k7 (I.step k8 k3 k4 k5 k6 k9 k10)
 ·rw [hw];refine⟨fun _ _=>trivial,?_⟩;obtain⟨env2,k7,k8,k9,k10⟩:=nY he1 I.size hl (v:=undef) (dL rfl);rw [gJ (show gT undef=true from rfl)] at k8 k9 k10;exact hQ ι env2 h nx _ w k7 (I.step k8 I.heap (gD.refl _ _) (fun _ _=>rfl) (Nat.le_refl _) k9 k10)
theorem v5 {listed:Array Bool}(hs:listed.size=ops.size){done:List Nat}(hd:∀ i,vW listed i↔i∈done){i:Nat}:i∈Region.ready .any ops listed↔i∈eH ops.toList done ops.toList 0:=by
 rw [mO hs,PU];constructor
 ·rintro ⟨h1,h2,h3⟩;have ho:fC ops.toList i=some ops[i]:=(by rw [dR];simp [h1]);refine⟨i,ops[i],by omega,ho,fun h=>h2 ((hd i).2 h),fun x hx=>(hd x).1 (h3 x ?_)⟩;unfold bZ;rw [ho];exact hx
 ·rintro ⟨j,o,h1,h2,h3,h4⟩;have hij:i=j:=(by omega);subst hij;have hlt:i<ops.size:=by
   rw [dR] at h2;have:=(List.getElem?_eq_some_iff.1 h2).1;simpa using this
  refine⟨hlt,fun h=>h3 ((hd i).1 h),fun x hx=>(hd x).2 (h4 x ?_)⟩;unfold bZ at hx;rw [h2] at hx;exact hx
theorem aCi (hT:cD P T)(hC:bE P C)(hY:eC P Y)(r:Option Nat){Q:Exit→Act→World→Prop}
  (hQ:∀ ι e h nx a w,K e h nx→Inv B w0 ιb nxb tn ds ι e h nx a w→Q .normal a w):∀ (n:Nat) (listed:Array Bool) (done:List Nat) (ι:Nat→Loc) (e:List (Nat × Value)) (h:Heap) (nx:Nat) (a:Act) (w:World),
  listed.size=ops.size→(∀ i,vW listed i↔i∈done)→left ops.size listed≤n→EB aC T C Y tn ops.toList K n done e h nx→Inv B w0 ιb nxb tn ds ι e h nx a w→wpAnyIn (Fr r) 0 P .any ops Q n listed a w:=by
 intro n
 induction n with
 |zero =>
  intro listed done ι e h nx a w hs hd hl hv I;refine⟨?_,hQ ι e h nx a w hv I⟩;refine List.eq_nil_iff_forall_not_mem.2 fun i hi=>?_;obtain⟨h1,h2,_⟩:=(mO hs).1 hi;have:=yP h1 hs h2;omega
 |succ n ih =>
  intro listed done ι e h nx a w hs hd hl hv I;simp only [EB] at hv;split at hv
  ·rename_i hr;have hno:∀ i,i∉Region.ready .any ops listed:=fun i hi=>by
    have:=(v5 hs hd).1 hi;rw [hr] at this;cases this
   exact⟨fun _=>hQ ι e h nx a w hv I,fun i hi=>absurd hi (hno i)⟩
  ·rename_i i0 r0 hr;rw [yI] at hv;refine⟨fun hn=>?_,fun i hi=>?_⟩
   ·exfalso;have:i0∈Region.ready .any ops listed:=(v5 hs hd).2 (by rw [hr];exact .head _);rw [hn] at this;cases this
   ·obtain⟨h1,h2,_⟩:=(mO hs).1 hi;have hv':=hv i (by rw [← hr];exact (v5 hs hd).1 hi);split at hv'
    case h_2=>exact hv'.elim
    rename_i o ho;refine aA9 hT hC hY r ho hv' I fun ι e h nx a w hk J=>?_;have hset:=vW.set (listed:=listed) (i:=i) (by omega);refine ih _ (i::done) ι e h nx a w (by simp [hs]) (fun j=>?_) (by have:=yP h1 hs h2;omega) hk J;rw [hset];unfold EC;rw [hd j,List.mem_cons]
theorem LO (hT:cD P T)(hC:bE P C)(hY:eC P Y)(hm:P.follows .mixedOrders=true){ι:Nat→Loc}{env:List (Nat × Value)}{h:Heap}{nx:Nat}{a:Act}{w:World}(I:Inv B w0 ιb nxb tn ds ι env h nx a w)
  (hl:EB aC T C Y tn ops.toList K ops.size [] env h nx) (r:Option Nat) {id:Nat} {Q:Exit→Act→World→Prop} (hQ:∀ ι env h nx a w,K env h nx→Inv B w0 ιb nxb tn ds ι env h nx a w→Q .normal a w) :
  (Code.region id ops true).wpIn (Fr r) 0 P Q a w:=by
 refine wpIn_region_any hm ?_;have H:=I.heap.drawn (w.drawn+1);have hb:gD B w { w with drawn:=w.drawn+1 }:=⟨rfl,rfl,rfl,Nat.le_refl _,fun _ _=>rfl,Nat.le_succ _⟩;have hno:∀ i,¬ vW (Array.replicate ops.size false) i:=by
  intro i;unfold vW;by_cases h:i<ops.size <;> simp [h]
 refine aCi hT hC hY r hQ ops.size _ [] ι env h nx a _ (by simp) (fun i=>⟨fun h=>absurd h (hno i),fun h=>by cases h⟩) ?_ hl ⟨I.env,H,I.below.trans hb,I.old,I.le,I.size,I.defers⟩;unfold left;exact Nat.le_trans (List.length_filter_le _ _) (by simp)
end
def DB (F:KS→KS)(n:Nat):KS:=@Nat.rec (fun _=>KS) (fun _ _ _=>False) (fun _ ih e h nx=>F ih e h nx) n
inductive LM where
 |fuel (n:Nat)
 |inv (b:Nat)
def LM.low:LM→Nat→Prop
 |.fuel _,_=>True
 |.inv b,n=>n≤b
def qJ (b:Nat)(I:KS):KS:=fun e h nx=>∃ e0 h0 n0 ρ,I e0 h0 n0∧pC b ρ e0 h0 n0 e h nx
def aAU (M:LM)(F:KS→KS):KS:=fun e h nx =>
 match M with
 |.fuel n=>DB F n e h nx
 |.inv b=>∃ I:Nat→KS,(∃ n,qJ b (I n) e h nx)∧∀ n e h nx,I n e h nx→F (fun e h nx=>∃ m,m<n∧qJ b (I m) e h nx) e h nx
def z7 (A:Ar)(T:cH)(C:VC)(Y:VY)(tn:Nat)(ops:List Oper)(K:KS):Nat→List Nat→KS
 |0,_=>K
 |n+1,done=>fun e h nx=>match eH ops done ops 0 with
  |[]=>K e h nx
  |j::_=>(match fC ops j with|some o=>pJ A T C Y tn ops o e h nx (z7 A T C Y tn ops K n (j::done))|none=>False)
theorem U8 {A:Ar}{T:cH}{C:VC}{Y:VY}(hC:dY C)(hY:dY Y){tn:Nat}{ops:List Oper}{o:Oper}{e:List (Nat × Value)}{h:Heap}{nx:Nat}:kR (pJ A T C Y tn ops o e h nx):=by
 show kR (fun K=>pJ A T C Y tn ops o e h nx K);unfold pJ
 exact vR (F:=fun e K=>pK A T C Y e h nx o.op fun v h' nx'=>eF tn e o.dst v fun e'=>K e' h' nx') (G:=fun e K=>eF tn e o.dst undef fun e'=>K e' h nx)
  (fun e=>AK (F:=fun v h' nx' K=>eF tn e o.dst v fun e'=>K e' h' nx') (CU hC hY) fun v h' nx'=>nJ (F:=fun e' K=>K e' h' nx') fun e'=>mN)
  (fun e=>nJ (F:=fun e' K=>K e' h nx) fun e'=>mN)
theorem wK {A:Ar}{T:cH}{C:VC}{Y:VY}(hC:dY C)(hY:dY Y){tn:Nat}{ops:List Oper}:∀ n done e h nx,kR (fun K=>z7 A T C Y tn ops K n done e h nx)
 |0,_,e,h,nx=>mN
 |n+1,done,e,h,nx=>by
  intro K hl;simp only [z7] at hl ⊢;split at hl
  ·exact⟨e,h,nx,hl,fun K' q=>q⟩
  ·split at hl
   case h_2=>exact hl.elim
   rename_i o ho;obtain⟨e1,h1,n1,q1,q2⟩:=U8 hC hY _ hl;obtain⟨e2,h2,n2,q3,q4⟩:=wK hC hY n _ e1 h1 n1 K q1;exact⟨e2,h2,n2,q3,fun K' q=>q2 _ (q4 K' q)⟩
def LK (A:Ar)(T:cH)(C:VC)(Y:VY)(tn:Nat)(M:LM)(ops:Array Oper):List (Nat × Value)→Heap→Nat→KS→Prop:=fun e h nx K =>
 match M with
 |.fuel _=>z7 A T C Y tn ops.toList (fun _ _ _=>∃ e0 h0 n0,EB A T C Y tn ops.toList (qJ nx fun e' h' n'=>e'=e0∧h'=h0∧n'=n0) ops.size [] e h nx∧K e0 h0 n0) ops.size [] e h nx
 |.inv b=>∃ I:KS,EB A T C Y tn ops.toList (qJ b I) ops.size [] e h nx∧∀ e h nx,I e h nx→K e h nx
abbrev VR:=Operand→Array Tmp→Code→Code→KS→(Nat→KS)→KS→KS
def gL (A:Ar)(T:cH)(C:VC)(Y:VY)(tn:Nat)(PL:Nat→Option eR)(M:LM)(R:VR)(c:Code):KS→(Nat→KS)→KS→KS :=
 @Code.rec (fun _=>KS→(Nat→KS)→KS→KS) (fun kn _ _=>kn)
  (fun id ops draw kn _ _ e h nx=>match draw with
   |false=>x6 A T C Y tn ops.toList ops.toList e h nx kn
   |true=>(match PL id with|some p=>oE A T C Y tn ops.toList p e h nx kn|none=>LK A T C Y tn M ops e h nx kn))
  (fun _ _ iha ihb kn kx kr=>iha (ihb kn kx kr) kx kr)
  (fun c _ _ iht ihf kn kx kr e h nx=>match cU e c with
   |some (.bool b)=>br b (fun _=>iht kn kx kr e h nx) (fun _=>ihf kn kx kr e h nx)
   |_=>False)
  (fun id _ ih kn kx kr=>ih kn (fun j=>match Nat.beq j id with|true=>kn|false=>kx j) kr)
  (fun _ ih _ kx kr=>aAU M (fun k=>ih k kx kr))
  (fun g ps as bd _ _ kn kx kr=>R g ps as bd kn kx kr)
  (fun id _ kx _=>kx id)
  (fun _ ih kn kx kr=>ih kn kx kr)
  (fun _ kn _ _=>kn)
  (fun _ _ _ _ _ _ _=>False)
  (fun _ _ kr=>kr)
  (fun _ _ _ _ _ _ _=>False) c
section
variable {A:Ar}{T:cH}{C:VC}{Y:VY}{tn:Nat}{PL:Nat→Option eR}{M:LM}{R:VR}{kn kr:KS}{kx:Nat→KS}{e:List (Nat × Value)}{h:Heap}{nx:Nat}
theorem fU {id:Nat}{ops:Array Oper}{draw:Bool}:gL A T C Y tn PL M R (.region id ops draw) kn kx kr e h nx=match draw with
 |false=>x6 A T C Y tn ops.toList ops.toList e h nx kn
 |true=>(match PL id with|some p=>oE A T C Y tn ops.toList p e h nx kn|none=>LK A T C Y tn M ops e h nx kn):=rfl
theorem jW {c:Operand}{t f:Code}:gL A T C Y tn PL M R (.cond c t f) kn kx kr e h nx=match cU e c with
 |some (.bool b)=>br b (fun _=>gL A T C Y tn PL M R t kn kx kr e h nx) (fun _=>gL A T C Y tn PL M R f kn kx kr e h nx)
 |_=>False:=rfl
theorem OF {id:Nat}{b:Code}:gL A T C Y tn PL M R (.block id b) kn kx kr e h nx=gL A T C Y tn PL M R b kn (fun j=>match Nat.beq j id with|true=>kn|false=>kx j) kr e h nx:=rfl
theorem qE {b:Code}:gL A T C Y tn PL M R (.loop b) kn kx kr e h nx=aAU M (fun k=>gL A T C Y tn PL M R b k kx kr) e h nx:=rfl
end
def cF (PL:Nat→Option eR):Code→Bool
 |.region id ops true=>(match PL id with|some p=>PC ops p|none=>true)
 |.seq a b=>cF PL a&&cF PL b
 |.cond _ a b=>cF PL a&&cF PL b
 |.block _ b=>cF PL b
 |.loop b=>cF PL b
 |.scope b=>cF PL b
 |_=>true
def zG (b:Nat):Deferred:={ target:=.collected b,args:=#[] }
def Marks (B0 B:Nat)(w:World)(ds:List Deferred):Prop:=∃ bs:List Nat,ds=bs.map zG∧bs.Nodup∧∀ b∈bs,B0≤b∧b<B∧w.heap[b]? = some (.deferred (some []))
def qD (B0:Nat)(w0:World)(ι0:Nat→Loc)(nx0 tn:Nat)(ι:Nat→Loc)(env:List (Nat × Value))(h:Heap)(nx:Nat)(a:Act)(w:World):Prop :=
 ∃ B w1 ι1 nx1 ds,B0≤B∧gD B0 w0 w1∧(∀ k,k<nx0→ι1 k=ι0 k)∧nx0≤nx1∧Marks B0 B w1 ds∧Inv B w1 ι1 nx1 tn ds ι env h nx a w
section
variable {P:Program}{T:cH}{C:VC}{Y:VY}{B0:Nat}{w0:World}{ι0:Nat→Loc}{nx0 tn:Nat}{PL:Nat→Option eR}{M:LM}{R:VR}
structure Ends (B0:Nat) (w0:World) (ι0:Nat→Loc) (nx0 tn:Nat) (kn:KS) (kx:Nat→KS) (kr:KS) (Q:Exit→Act→World→Prop):Prop where
 n:∀ ι e h nx a w,kn e h nx→qD B0 w0 ι0 nx0 tn ι e h nx a w→Q .normal a w
 x:∀ id ι e h nx a w,kx id e h nx→qD B0 w0 ι0 nx0 tn ι e h nx a w→Q (.exit id) a w
 r:∀ ι e h nx a w,kr e h nx→qD B0 w0 ι0 nx0 tn ι e h nx a w→Q .ret a w
def CM (P:Program)(r:Option Nat)(tn:Nat)(R:VR):Prop:=∀ g ps as bd kn kx kr e h nx,R g ps as bd kn kx kr e h nx→∀ B0 w0 ι0 nx0 Q,Ends B0 w0 ι0 nx0 tn kn kx kr Q→∀ ι a w,qD B0 w0 ι0 nx0 tn ι e h nx a w →
 (Code.rangeFunc g ps as bd).wpIn (Fr r) 0 P Q a w
theorem j3 {b:Frame}{a:Act}{k:List Item}{cs:List Frame}{w:World}{c:Code}:step P (lone (b.atR a (.code (.scope c)::k)) cs w)=.next (lone (b.atR a (.code c::.inScope c::k)) cs w) :=
 step_lone_go (by simp [stepG,stepG.exec,Frame.atR])
theorem GB {b:Frame}{a:Act}{k:List Item}{cs:List Frame}{w:World}{c:Code}:step P (lone (b.atR a (.inScope c::k)) cs w)=.next (lone (b.atR a k) cs w) :=
 step_lone_go (by simp [stepG,stepG.exec,Frame.atR])
theorem uY {F:Fence}{n:Nat}{c:Code}{Q:Exit→Act→World→Prop}{a:Act}{w:World}(h:c.wpIn F n P (fun e a w=>(∀ l,e≠.goto l)∧Q e a w) a w):(Code.scope c).wpIn F n P Q a w:=by
 intro b k cs hro hb hr;have h0:(lone (b.atR a (.code (.scope c)::k)) cs w).fenced P F:=fenced_calm hb hr rfl;obtain⟨e,a₁,w₁,⟨hg,hq⟩,harr⟩:=h b (.inScope c::k) cs hro hb hr;cases e with
 |normal=>exact⟨.normal,a₁,w₁,hq,.head h0 j3 (StepsIn.trans harr (.one (fenced_calm hb hr rfl) GB))⟩
 |exit id =>
  have hx:exitTo id (.inScope c::k)=exitTo id k:=by simp [exitTo]
  exact⟨.exit id,a₁,w₁,hq,fun k' hk=>.head h0 j3 (harr.1 k' (by rw [hx];exact hk)),
   fun hr' hk=>let ⟨k₁,h1,h2⟩:=harr.2 hr' (by rw [hx];exact hk);⟨k₁,h1,.head h0 j3 h2⟩⟩
 |goto l=>exact absurd rfl (hg l)
 |ret=>exact⟨_,a₁,w₁,hq,.of_steps (.one h0 j3) harr⟩
 |panic ch=>exact⟨_,a₁,w₁,hq,.of_steps (.one h0 j3) harr⟩
 |outgrown=>exact⟨_,a₁,w₁,hq,.of_steps (.one h0 j3) harr⟩
theorem qD.aBs {ι:Nat→Loc}{e:List (Nat × Value)}{h:Heap}{nx:Nat}{a:Act}{w:World}{b:Nat}{I:KS}(J:qD B0 w0 ι0 nx0 tn ι e h nx a w)(hb:nx0≤b)(hi:qJ b I e h nx):∃ ι' e' h' nx',I e' h' nx'∧qD B0 w0 ι0 nx0 tn ι' e' h' nx' a w:=by
 obtain⟨e',h',nx',ρ,hI,r⟩:=hi;obtain⟨B,w1,ι1,nx1,ds,h1,h2,h3,h4,h5,J⟩:=J;refine⟨fun k=>ι (ρ k),e',h',nx',hI,B,w1,ι0,nx0,ds,h1,h2,fun _ _=>rfl,Nat.le_refl _,h5,r.aIx J.env,r.aED J.heap,J.below,fun k hk=>?_,Nat.le_trans hb r.le,J.size,J.defers⟩;rw [r.fix k (Nat.lt_of_lt_of_le hk hb)];exact (J.old k (Nat.lt_of_lt_of_le hk h4)).trans (h3 k hk)
theorem least {p:Nat→Prop}(h:∃ n,p n):∃ m,p m∧∀ k,p k→m≤k:=by
 obtain⟨n,hn⟩:=h
 induction n using Nat.strongRecOn with
 |_ n ih =>
  by_cases hk:∃ k,p k∧k<n
  ·obtain⟨k,h1,h2⟩:=hk;exact ih k h2 h1
  ·exact⟨n,hn,fun k h1=>Nat.le_of_not_lt fun h2=>hk ⟨k,h1,h2⟩⟩
theorem yW {r:Option Nat}{c:Code}{Q:Exit→Act→World→Prop}{a:Act}{w:World}{I:Nat→Act→World→Prop}{n:Nat}(h₀:I n a w)
  (round:∀ n a w,I n a w→c.wpIn (Fr r) 0 P (Exit.then (fun a' w'=>∃ m,m<n∧I m a' w') Q) a w):(Code.loop c).wpIn (Fr r) 0 P Q a w:=by
 classical
 refine wpIn_loop (fun a w=>∃ n,I n a w) (fun a w=>if h:∃ n,I n a w then Classical.choose (least h) else 0) ⟨n,h₀⟩ fun a w h=>?_;have hs:=Classical.choose_spec (least h);refine Code.wpIn_mono (fun e a' w' hq=>?_) (round _ a w hs.1);cases e <;> try exact hq
 obtain⟨m,hm,hI⟩:=hq;refine⟨⟨m,hI⟩,?_⟩;have h':∃ n,I n a' w':=⟨m,hI⟩;simp only [dif_pos h',dif_pos h];exact Nat.lt_of_le_of_lt ((Classical.choose_spec (least h')).2 m hI) hm
end
section
variable {P:Program}{T:cH}{C:VC}{Y:VY}{tn:Nat}{PL:Nat→Option eR}{M:LM}{R:VR}
def UJ (R:VR):Prop:=∀ g ps as bd (kn kn':KS) (kx kx':Nat→KS) (kr kr':KS) e h nx,(∀ e h nx,kn e h nx→kn' e h nx)→(∀ id e h nx,kx id e h nx→kx' id e h nx)→(∀ e h nx,kr e h nx→kr' e h nx)→R g ps as bd kn kx kr e h nx→R g ps as bd kn' kx' kr' e h nx
theorem DJ (hT:cD P T)(hC:bE P C)(hY:eC P Y)(hD:dY C)(hDY:dY Y)(hm:P.follows .mixedOrders=true)(r:Option Nat)(hR:CM P r tn R)(hRm:UJ R) :
  ∀ (c:Code),cF PL c=true→∀ (kn:KS) (kx:Nat→KS) (kr:KS) e h nx,gL aC T C Y tn PL M R c kn kx kr e h nx→∀ B0 w0 ι0 nx0 Q,M.low nx0→Ends B0 w0 ι0 nx0 tn kn kx kr Q→∀ ι a w,qD B0 w0 ι0 nx0 tn ι e h nx a w →
    c.wpIn (Fr r) 0 P Q a w:=by
 intro c
 induction c with
 |skip=>exact fun _ kn kx kr e h nx hl B0 w0 ι0 nx0 Q hM E ι a w I=>wpIn_skip (E.n ι e h nx a w hl I)
 |region id ops draw =>
  intro hp kn kx kr e h nx hl B0 w0 ι0 nx0 Q hM E ι a w I;obtain⟨B,w1,ι1,nx1,ds,h1,h2,h3,h4,h5,J⟩:=I;simp only [fU,jW,qE] at hl;cases draw with
  |false =>
   refine wpIn_region_list (KQ hT hC hY r ops.toList ι e h nx a w hl J fun ι' e' h' nx' a' w' hk J'=>?_);exact E.n ι' e' h' nx' a' w' hk ⟨B,w1,ι1,nx1,ds,h1,h2,h3,h4,h5,J'⟩
  |true =>
   simp only [cF] at hp;simp only at hl;cases hpl:PL id with
   |none =>
    rw [hpl] at hl;simp only [LK] at hl;cases M with
    |fuel n =>
     obtain⟨ea,ha,na,⟨e0,h0,n0,hi,hK⟩,hr⟩:=wK hD hDY _ _ _ _ _ _ hl;refine LO hT hC hY hm J hi r fun ι' e' h' nx' a' w' hk J'=>?_;obtain⟨ι2,e2,h2',nx2,⟨rfl,rfl,rfl⟩,k2⟩:=qD.aBs ⟨B,w1,ι1,nx1,ds,h1,h2,h3,h4,h5,J'⟩ (Nat.le_trans h4 J.le) hk;exact E.n ι2 _ _ _ a' w' hK k2
    |inv b =>
     obtain⟨I,hi,hI⟩:=hl;refine LO hT hC hY hm J hi r fun ι' e' h' nx' a' w' hk J'=>?_;obtain⟨ι2,e2,h2',nx2,k1,k2⟩:=qD.aBs ⟨B,w1,ι1,nx1,ds,h1,h2,h3,h4,h5,J'⟩ hM hk;exact E.n ι2 e2 h2' nx2 a' w' (hI _ _ _ k1) k2
   |some p =>
    rw [hpl] at hl hp;exact QX hT hC hY hD hm (LX hp) J hl r fun ι' e' h' nx' a' w' hk J'=>E.n ι' e' h' nx' a' w' hk ⟨B,w1,ι1,nx1,ds,h1,h2,h3,h4,h5,J'⟩
 |seq a b iha ihb =>
  intro hp kn kx kr e h nx hl B0 w0 ι0 nx0 Q hM E ι ac w I;simp only [cF,Bool.and_eq_true] at hp;refine wpIn_seq (iha hp.1 _ kx kr e h nx hl B0 w0 ι0 nx0 _ hM ⟨fun ι e h nx a w hk I=>?_,fun id ι e h nx a w hk I=>?_,fun ι e h nx a w hk I=>?_⟩ ι ac w I)
  ·exact ihb hp.2 kn kx kr e h nx hk B0 w0 ι0 nx0 Q hM E ι a w I
  ·exact E.x id ι e h nx a w hk I
  ·exact E.r ι e h nx a w hk I
 |cond c t f iht ihf =>
  intro hp kn kx kr e h nx hl B0 w0 ι0 nx0 Q hM E ι a w I;simp only [cF,Bool.and_eq_true] at hp;simp only [fU,jW,qE] at hl;split at hl
  case h_2=>exact hl.elim
  rename_i b hb;have hc:a.eval c=.bool b:=by
   obtain⟨B,w1,ι1,nx1,ds,h1,h2,h3,h4,h5,J⟩:=I;rw [(J.env.cU hb).1,qB]
  rcases m9 hl with ⟨rfl,hl⟩|⟨rfl,hl⟩
  ·exact wpIn_cond_true hc (iht hp.1 kn kx kr e h nx hl B0 w0 ι0 nx0 Q hM E ι a w I)
  ·exact wpIn_cond_false hc (ihf hp.2 kn kx kr e h nx hl B0 w0 ι0 nx0 Q hM E ι a w I)
 |block id b ih =>
  intro hp kn kx kr e h nx hl B0 w0 ι0 nx0 Q hM E ι a w I;refine wpIn_block (ih hp _ _ kr e h nx hl B0 w0 ι0 nx0 (Exit.inBlock id Q) hM ⟨E.n,fun j ι e h nx a w hk I=>?_,E.r⟩ ι a w I);cases hb:Nat.beq j id with
  |true =>
   rw [hb] at hk;simp only [Exit.inBlock,if_pos (beq_true hb)];exact E.n ι e h nx a w hk I
  |false =>
   rw [hb] at hk;simp only [Exit.inBlock,if_neg (beq_false hb)];exact E.x j ι e h nx a w hk I
 |loop b ih =>
  intro hp kn kx kr e h nx hl B0 w0 ι0 nx0 Q hM E ι a w I;simp only [fU,jW,qE] at hl;cases M with
  |fuel n0 =>
   refine yW (I:=fun n a w=>∃ ι e h nx,DB (fun k=>gL aC T C Y tn PL (.fuel n0) R b k kx kr) n e h nx∧qD B0 w0 ι0 nx0 tn ι e h nx a w) (n:=n0) ⟨ι,e,h,nx,hl,I⟩ fun m a w hi=>?_;obtain⟨ι,e,h,nx,h1,I⟩:=hi;cases m with
   |zero=>exact h1.elim
   |succ m =>
    refine ih hp (DB (fun k=>gL aC T C Y tn PL (.fuel n0) R b k kx kr) m) kx kr e h nx h1 B0 w0 ι0 nx0 (Exit.then (fun a' w'=>∃ m',m'<m+1∧∃ ι e h nx,DB (fun k=>gL aC T C Y tn PL (.fuel n0) R b k kx kr) m' e h nx∧qD B0 w0 ι0 nx0 tn ι e h nx a' w') Q) hM ⟨fun ι e h nx a w hk I=>?_,fun id ι e h nx a w hk I=>E.x id ι e h nx a w hk I,fun ι e h nx a w hk I=>E.r ι e h nx a w hk I⟩ ι a w I;exact⟨m,Nat.lt_succ_self m,ι,e,h,nx,hk,I⟩
  |inv bs =>
   obtain⟨J,⟨n,h0⟩,hJ⟩:=hl;obtain⟨ι',e',h',nx',h0',I'⟩:=I.aBs hM h0;refine yW (I:=fun n a w=>∃ ι e h nx,J n e h nx∧qD B0 w0 ι0 nx0 tn ι e h nx a w) (n:=n) ⟨ι',e',h',nx',h0',I'⟩ fun n a w hi=>?_;obtain⟨ι,e,h,nx,h1,I⟩:=hi;refine ih hp _ kx kr e h nx (hJ n e h nx h1) B0 w0 ι0 nx0 (Exit.then (fun a' w'=>∃ m,m<n∧∃ ι e h nx,J m e h nx∧qD B0 w0 ι0 nx0 tn ι e h nx a' w') Q) hM ⟨fun ι e h nx a w hk I=>?_,fun id ι e h nx a w hk I=>E.x id ι e h nx a w hk I,fun ι e h nx a w hk I=>E.r ι e h nx a w hk I⟩ ι a w I;obtain⟨m,hm,hk⟩:=hk;obtain⟨ι',e',h',nx',hk',I'⟩:=I.aBs hM hk;exact⟨m,hm,ι',e',h',nx',hk',I'⟩
 |rangeFunc g ps as bd _ _=>exact fun _ kn kx kr e h nx hl B0 w0 ι0 nx0 Q hM E ι a w I=>hR g ps as bd kn kx kr e h nx hl B0 w0 ι0 nx0 Q E ι a w I
 |exit id=>exact fun _ kn kx kr e h nx hl B0 w0 ι0 nx0 Q hM E ι a w I=>wpIn_exit (E.x id ι e h nx a w hl I)
 |ret=>exact fun _ kn kx kr e h nx hl B0 w0 ι0 nx0 Q hM E ι a w I=>wpIn_ret (E.r ι e h nx a w hl I)
 |label l=>exact fun _ kn kx kr e h nx hl B0 w0 ι0 nx0 Q hM E ι a w I=>wpIn_label (E.n ι e h nx a w hl I)
 |scope b ih =>
  intro hp kn kx kr e h nx hl B0 w0 ι0 nx0 Q hM E ι a w I;refine uY (ih hp kn kx kr e h nx hl B0 w0 ι0 nx0 _ hM ⟨fun ι e h nx a w hk I=>⟨fun l he=>(by cases he),E.n ι e h nx a w hk I⟩,fun id ι e h nx a w hk I=>⟨fun l he=>(by cases he),E.x id ι e h nx a w hk I⟩,fun ι e h nx a w hk I=>⟨fun l he=>(by cases he),E.r ι e h nx a w hk I⟩⟩ ι a w I)
 |goto l=>exact fun _ _ _ _ _ _ _ hl=>hl.elim
 |refuse s=>exact fun _ _ _ _ _ _ _ hl=>hl.elim
end
def fN (T:cH)(e:List (Nat × Value))(h:Heap)(l:List ResultVar):(List Value→Prop)→Prop :=
 @List.rec ResultVar (fun _=>(List Value→Prop)→Prop) (fun K=>K [])
  (fun x _ ih K=>match x with
   |.tmp t=>on (look e t) fun v=>ih fun l=>K (v::l)
   |.cell a t=>on (look e a) fun p=>rS T h t p fun v=>ih fun l=>K (v::l)) l
theorem mH {T:cH}{e:List (Nat × Value)}{h:Heap}{t:Nat}{r:List ResultVar}{K:List Value→Prop}:fN T e h (.tmp t::r) K=on (look e t) fun v=>fN T e h r fun l=>K (v::l):=rfl
theorem lB {T:cH}{e:List (Nat × Value)}{h:Heap}{a:Nat}{t:TypeId}{r:List ResultVar}{K:List Value→Prop}:fN T e h (.cell a t::r) K=on (look e a) fun p=>rS T h t p fun v=>fN T e h r fun l=>K (v::l):=rfl
def IC:List Value→Bool
 |[]=>true
 |.tuple _::_=>false
 |_::r=>IC r
def BQ (T:cH)(fn:Func)(K:KE):KS:=fun e h nx=>fN T e h fn.results.toList fun l =>
 match l with
 |[v]=>K v h nx
 |l=>match IC l with|true=>K (.tuple l.toArray) h nx|false=>False
def AP (tmps:Array Value):ResultVar→Sem Value
 |.tmp t=>pure (tmps.getD t undef)
 |.cell b t=>do loadVar t (← asAddr (tmps.getD b undef))
theorem QH (fn:Func)(tmps:Array Value):results fn tmps=(do let vs ← fn.results.mapM (AP tmps);pure (if h:vs.size=1 then vs[0] else .tuple vs)):=by
 unfold results;congr 1
section
variable {P:Program}{T:cH}
theorem sL (hT:cD P T){ι:Nat→Loc}{B nx:Nat}{e:List (Nat × Value)}{h:Heap}{a:Act}(he:cR ι nx e a){w:World}(H:aQ ι B h nx w):∀ (l:List ResultVar) (K:List Value→Prop),fN T e h l K →
  ∃ vs,K vs∧vs.length=l.length∧(∀ v∈vs,eL ι nx v)∧∀ w',aQ ι B h nx w'→(l.mapM (AP a.tmps)).run P w'=.ok (vs.map (tr ι)) w'
 |[],K,hl=>⟨[],hl,rfl,by simp,fun w' _=>by simp⟩
 |.tmp t::r,K,hl=>by
  simp only [mH,lB] at hl;obtain⟨v,hv,hl⟩:=cN hl;obtain⟨vs,h1,h2,h3,h4⟩:=sL hT he H r _ hl;obtain⟨e1,e2⟩:=he t v hv;refine⟨v::vs,h1,by simp [h2],fun u hu=>?_,fun w' H'=>?_⟩
  ·rcases List.mem_cons.1 hu with rfl|hu
   ·exact e2
   ·exact h3 u hu
  ·have:=h4 w' H';have h6:(AP a.tmps (.tmp t)).run P w'=.ok (tr ι v) w':=(by simp [AP,e1]);simp only [List.mapM_cons,Sem.run_bind,Sem.run_pure,Result.andThen_ok,this,h6,List.map_cons]
 |.cell b t::r,K,hl=>by
  simp only [mH,lB] at hl;obtain⟨p,hp,hl⟩:=cN hl;obtain⟨v,hk,hv,hrun⟩:=N2 (P:=P) hT hl H;obtain⟨vs,h1,h2,h3,h4⟩:=sL hT he H r _ hk;obtain⟨e1,e2⟩:=he b p hp;refine⟨v::vs,h1,by simp [h2],fun u hu=>?_,fun w' H'=>?_⟩
  ·rcases List.mem_cons.1 hu with rfl|hu
   ·exact lL hv
   ·exact h3 u hu
  ·have:=h4 w' H';have e3:a.tmps.getD b undef=tr ι p:=(by simp [e1]);have h5:=hrun w' H';have hptr:∃ ad,tr ι p=.pointer (some ad):=by
    unfold rS at hl;split at hl
    ·rename_i k o;simp only [fA];split at hl
     ·rename_i ti wr g sz cs ht hlk;have hsc:k<nx∧(ι k).gG=true:=e2;cases hι:ι k with
      |nil q=>rw [hι] at hsc;cases hsc.2
      |lay b o e=>exact⟨_,rfl⟩
     ·exact hl.elim
    ·exact hl.elim
   obtain⟨ad,had⟩:=hptr;rw [had] at h5;simp only [Instr.loadAt,Instr.sureAddr,Sem.run_bind,Sem.run_pure,Result.andThen_ok] at h5;have h6:(AP a.tmps (.cell b t)).run P w'=.ok (tr ι v) w':=by
    simp only [AP,e3,had,asAddr,Sem.run_bind,Sem.run_pure,Result.andThen_ok,h5]
   simp only [List.mapM_cons,Sem.run_bind,Sem.run_pure,Result.andThen_ok,h6,this,List.map_cons]
theorem aC1 (hT:cD P T){fn:Func}{K:KE}{ι:Nat→Loc}{B nx:Nat}{e:List (Nat × Value)}{h:Heap}{a:Act}(he:cR ι nx e a){w:World}(H:aQ ι B h nx w)(hl:BQ T fn K e h nx) :
  ∃ v,K v h nx∧eL ι nx v∧∀ w',aQ ι B h nx w'→(results fn a.tmps).run P w'=.ok (tr ι v) w':=by
 unfold BQ at hl;obtain⟨vs,h1,h2,h3,h4⟩:=sL hT he H _ _ hl;have hres:∀ w',aQ ι B h nx w'→(results fn a.tmps).run P w'=.ok (if h:(vs.map (tr ι)).toArray.size=1 then (vs.map (tr ι)).toArray[0] else .tuple (vs.map (tr ι)).toArray) w':=by
  intro w' H';have:=h4 w' H';rw [QH,Array.mapM_eq_mapM_toList];simp only [Sem.run_bind,Sem.run_map,this,Result.andThen_ok,Sem.run_pure]
 split at h1
 ·rename_i v;exact⟨v,h1,h3 v (by simp),fun w' H'=>by rw [hres w' H'];simp⟩
 ·rename_i hne;split at h1
  case h_2=>exact h1.elim
  rename_i hnt;have hA:∀ v∈vs,kH ι nx v:=by
   clear h4 hres hne h2 hl h1
   induction vs with
   |nil=>simp
   |cons x r ih =>
    intro v hv;have hx:(∀ c,x≠.tuple c)∧IC r=true:=by
     cases x <;> first|exact⟨fun c e=>(by cases e),hnt⟩|(simp [IC] at hnt)
    rcases List.mem_cons.1 hv with rfl|hv
    ·exact FQ hx.1 (h3 v (by simp))
    ·exact ih (fun u hu=>h3 u (by simp [hu])) hx.2 v hv
  refine⟨_,h1,fun v hv=>hA v (by simpa using hv),fun w' H'=>?_⟩;rw [hres w' H'];have hlen:vs.length≠1:=by
   intro e;obtain⟨v,rfl⟩:=List.length_eq_one_iff.1 e;exact hne v rfl
  rw [dif_neg (by simpa using hlen)];simp only [tr];congr 2;apply Array.ext';simp only [List.map_toArray];apply List.map_congr_left;intro v hv;exact uK (hA v hv)
end
end Go.Aw
end
