/-
  Parts of the proof, put together. No condition.
-/
import Derived.Test.YtjahkcbdecgbhaaGreatQAi
import Derived.RangeFuncLeaves
set_option linter.unusedSimpArgs false
set_option linter.unusedVariables false
noncomputable section
namespace Go.Aw
open Go.RowKit
def kA (ρ:Nat→Nat):Nat→Loc:=fun k=>.lay (ρ k) 0 0
def fV (ρ:Nat→Nat):Value→Value:=tr (kA ρ)
def bN (ρ:Nat→Nat):Value→Value:=bR (kA ρ)
def wJ (n:Nat):Value→Prop:=eR (kA id) n
def A8 (n:Nat):Value→Prop:=gY (kA id) n
def bO (ρ:Nat→Nat)(n:Nat):aV→aV→Prop
 |.cells wr0 g0 sz0 cs0,.cells wr g sz cs=>wr0=wr∧g0=g∧sz0=sz∧cs=cs0.map (bN ρ)∧∀ v∈cs0,A8 n v
 |.map es0,.map es=>es=es0.map (fun e=>(e.1,bN ρ e.2))∧∀ e∈es0,A8 n e.2
 |.zero,.zero=>True
 |_,_=>False
structure qE (b:Nat) (ρ:Nat→Nat) (e0:List (Nat × Value)) (h0:Heap) (n0:Nat) (e:List (Nat × Value)) (h:Heap) (nx:Nat):Prop where
 env:∀ t v,look e0 t=some v→look e t=some (fV ρ v)∧wJ n0 v
 heap:∀ k o,look h0 k=some o→k<n0∧∃ o',look h (ρ k)=some o'∧bO ρ n0 o o'
 inj:∀ k k' o o',look h0 k=some o→look h0 k'=some o'→ρ k=ρ k'→k=k'
 fix:∀ k,k<b→ρ k=k
 le:b≤n0
section
variable {ι:Nat→Loc}{ρ:Nat→Nat}{n m:Nat}
theorem C7 (v:Value):dR ι (dR (kA ρ) v)=dR (fun k=>ι (ρ k)) v:=by
 cases v with
 |pointer a =>
  cases a with
  |none=>rfl
  |some a =>
   simp only [dR,kA,Nat.zero_add]
 |slice a n c =>
  cases a with
  |none=>rfl
  |some a =>
   simp only [dR,kA,Nat.zero_add,Nat.add_zero]
 |map a =>
  cases a with
  |none=>rfl
  |some a=>simp only [dR,kA]
 |_=>rfl
theorem aAP {f:Fn}(h:QH ι n (lN (kA ρ) f)):lN ι (lN (kA ρ) f)=lN (fun k=>ι (ρ k)) f:=by
 cases f with
 |yield l =>
  have h:=h.2;simp only [lN,kA];cases hl:ι (ρ l) with
  |nil p=>rw [hl] at h;cases h
  |lay b o e=>rfl
 |_=>rfl
theorem iS {v:Value}(h:gY ι n (bR (kA ρ) v)):bR ι (bR (kA ρ) v)=bR (fun k=>ι (ρ k)) v:=by
 cases v with
 |func f a c =>
  have h1:=aAP (ι:=ι) (n:=n) (f:=f) h.1;simp only [bR,h1,Array.map_map];congr 2;funext x;exact C7 x
 |pointer a=>have:=C7 (ι:=ι) (ρ:=ρ) (.pointer a);cases a <;> exact this
 |slice a n c=>have:=C7 (ι:=ι) (ρ:=ρ) (.slice a n c);cases a <;> exact this
 |map a=>have:=C7 (ι:=ι) (ρ:=ρ) (.map a);cases a <;> exact this
 |_=>rfl
theorem uL {v:Value}(h:kP ι n (dP (kA ρ) v)):dP ι (dP (kA ρ) v)=dP (fun k=>ι (ρ k)) v:=by
 cases v with
 |agg cs =>
  simp only [dP,Array.map_map];congr 1;apply Array.map_congr_left;intro x hx;exact iS (n:=n) (h (bR (kA ρ) x) (by simp only [Array.toList_map,List.mem_map];exact⟨x,by simpa using hx,rfl⟩))
 |pointer a=>have:=iS (ι:=ι) (ρ:=ρ) (n:=n) (v:=.pointer a);cases a <;> exact this h
 |slice a l c=>have:=iS (ι:=ι) (ρ:=ρ) (n:=n) (v:=.slice a l c);cases a <;> exact this h
 |map a=>have:=iS (ι:=ι) (ρ:=ρ) (n:=n) (v:=.map a);cases a <;> exact this h
 |func f a c=>exact iS (ι:=ι) (ρ:=ρ) (n:=n) (v:=.func f a c) h
 |_=>rfl
theorem D8 {v:Value}(h:eR ι n (fV ρ v)):tr ι (fV ρ v)=tr (fun k=>ι (ρ k)) v:=by
 unfold fV at h ⊢;cases v with
 |tuple cs =>
  simp only [tr,Array.map_map];congr 1;apply Array.map_congr_left;intro x hx;exact uL (n:=n) (h (dP (kA ρ) x) (by simp only [Array.toList_map,List.mem_map];exact⟨x,by simpa using hx,rfl⟩))
 |pointer a=>have:=uL (ι:=ι) (ρ:=ρ) (n:=n) (v:=.pointer a);cases a <;> exact this h
 |slice a l c=>have:=uL (ι:=ι) (ρ:=ρ) (n:=n) (v:=.slice a l c);cases a <;> exact this h
 |map a=>have:=uL (ι:=ι) (ρ:=ρ) (n:=n) (v:=.map a);cases a <;> exact this h
 |func f a c=>exact uL (ι:=ι) (ρ:=ρ) (n:=n) (v:=.func f a c) h
 |agg c=>exact uL (ι:=ι) (ρ:=ρ) (n:=n) (v:=.agg c) h
 |_=>rfl
theorem DC {v:Value}(h:oS ι n (dR (kA ρ) v))(hm:oS (kA id) m v):oS (fun k=>ι (ρ k)) m v:=by
 cases v with
 |pointer a =>
  cases a with
  |none=>trivial
  |some a=>exact⟨hm.1,h.2⟩
 |slice a l c =>
  cases a with
  |none=>trivial
  |some a=>exact⟨hm.1,fun hf=>h.2 hf⟩
 |map a =>
  cases a with
  |none=>trivial
  |some a=>exact⟨hm.1,h.2⟩
 |agg c=>exact hm.elim
 |tuple c=>exact hm.elim
 |_=>trivial
theorem oN {v:Value}(h:gY ι n (bR (kA ρ) v))(hm:gY (kA id) m v):gY (fun k=>ι (ρ k)) m v:=by
 cases v with
 |func f a c =>
  refine⟨?_,fun x hx=>?_⟩
  ·have h1:=h.1;have h2:=hm.1;cases f with
   |yield l=>exact⟨h2.1,h1.2⟩
   |_=>trivial
  ·refine DC (n:=n) (h.2 _ ?_) (hm.2 x hx);simp only [Array.toList_map,List.mem_map];exact⟨x,hx,rfl⟩
 |pointer a=>have:=DC (ι:=ι) (ρ:=ρ) (n:=n) (m:=m) (v:=.pointer a);cases a <;> exact this h hm
 |slice a l c=>have:=DC (ι:=ι) (ρ:=ρ) (n:=n) (m:=m) (v:=.slice a l c);cases a <;> exact this h hm
 |map a=>have:=DC (ι:=ι) (ρ:=ρ) (n:=n) (m:=m) (v:=.map a);cases a <;> exact this h hm
 |agg c=>exact hm.elim
 |tuple c=>exact hm.elim
 |_=>trivial
theorem uU {v:Value}(h:kP ι n (dP (kA ρ) v))(hm:kP (kA id) m v):kP (fun k=>ι (ρ k)) m v:=by
 cases v with
 |agg cs =>
  intro x hx;refine oN (n:=n) (h _ ?_) (hm x hx);simp only [Array.toList_map,List.mem_map];exact⟨x,hx,rfl⟩
 |pointer a=>have:=oN (ι:=ι) (ρ:=ρ) (n:=n) (m:=m) (v:=.pointer a);cases a <;> exact this h hm
 |slice a l c=>have:=oN (ι:=ι) (ρ:=ρ) (n:=n) (m:=m) (v:=.slice a l c);cases a <;> exact this h hm
 |map a=>have:=oN (ι:=ι) (ρ:=ρ) (n:=n) (m:=m) (v:=.map a);cases a <;> exact this h hm
 |func f a c=>exact oN (ι:=ι) (ρ:=ρ) (n:=n) (m:=m) (v:=.func f a c) h hm
 |tuple c=>exact hm.elim
 |_=>trivial
theorem CY {v:Value}(h:eR ι n (fV ρ v))(hm:wJ m v):eR (fun k=>ι (ρ k)) m v:=by
 unfold fV at h;unfold wJ at hm;cases v with
 |tuple cs =>
  intro x hx;refine uU (n:=n) (h _ ?_) (hm x hx);simp only [Array.toList_map,List.mem_map];exact⟨x,hx,rfl⟩
 |pointer a=>have:=uU (ι:=ι) (ρ:=ρ) (n:=n) (m:=m) (v:=.pointer a);cases a <;> exact this h hm
 |slice a l c=>have:=uU (ι:=ι) (ρ:=ρ) (n:=n) (m:=m) (v:=.slice a l c);cases a <;> exact this h hm
 |map a=>have:=uU (ι:=ι) (ρ:=ρ) (n:=n) (m:=m) (v:=.map a);cases a <;> exact this h hm
 |func f a c=>exact uU (ι:=ι) (ρ:=ρ) (n:=n) (m:=m) (v:=.func f a c) h hm
 |agg c=>exact uU (ι:=ι) (ρ:=ρ) (n:=n) (m:=m) (v:=.agg c) h hm
 |_=>trivial
theorem aHf {v:Value}(h:gS (bR (kA ρ) v)=true):gS v=true:=by
 cases v with
 |pointer a=>cases a with
  |none=>rfl
  |some a=>simp [bR,dR,kA,gS] at h
 |slice a n c=>cases a with
  |none=>rfl
  |some a=>simp [bR,dR,kA,gS] at h
 |map a=>cases a with
  |none=>rfl
  |some a=>simp [bR,dR,kA,gS] at h
 |func f a c =>
  cases f with
  |func f=>simpa [bR,lN,gS] using h
  |yield l=>simp [bR,lN,kA,gS] at h
  |_=>simp [bR,lN,gS] at h
 |_=>exact h
theorem NJ {l:List Value}(h:c9 (l.map (bN ρ))=true):c9 l=true :=
 uV fun v hv=>aHf (a8 h (List.mem_map_of_mem hv))
theorem Z5 {B:Nat}{w:World}{o0 o:aV}{l:Loc}(h:j9 ι B w o l)(hs:US ι n o)(hr:bO ρ m o0 o):j9 (fun k=>ι (ρ k)) B w o0 l:=by
 cases o0 with
 |cells wr0 g0 sz0 cs0 =>
  cases o with
  |cells wr g sz cs =>
   obtain⟨rfl,rfl,rfl,rfl,hn⟩:=hr;cases l with
   |nil p =>
    have h1:cs0.map (bN ρ)=[]∧(sz0=0∨wr0=true→p.isSome=true):=(by cases wr0 <;> exact h);have h2:cs0=[]:=(by simpa using h1.1);cases wr0 <;> exact⟨h2,h1.2⟩
   |lay b off e =>
    cases wr0 with
    |true =>
     obtain⟨h1,h2,arr,t,h3,h4,h5⟩:=h;refine⟨h1,fun hg=>NJ (h2 hg),arr,t,h3,by simpa using h4,fun i v hv=>?_⟩;rw [← iS (n:=n) (hs _ (List.mem_map_of_mem (List.mem_of_getElem? hv)))];exact h5 i _ (by rw [List.getElem?_map,hv];rfl)
    |false =>
     obtain⟨h1,h2,h5⟩:=h;refine⟨h1,fun hg=>NJ (h2 hg),fun i v hv=>?_⟩;rw [← iS (n:=n) (hs _ (List.mem_map_of_mem (List.mem_of_getElem? hv)))];exact h5 i _ (by rw [List.getElem?_map,hv];rfl)
  |_=>exact hr.elim
 |map es0 =>
  cases o with
  |map es =>
   obtain⟨rfl,hn⟩:=hr;cases l with
   |nil p=>exact h.elim
   |lay b off e =>
    obtain⟨h1,ents,clock,h2,h3,h4⟩:=h;refine⟨h1,ents,clock,h2,h3.trans ?_,fun x hx=>h4 (x.1,bN ρ x.2) (List.mem_map_of_mem hx)⟩;rw [List.map_map];apply List.map_congr_left;intro x hx;simp only [Function.comp_apply,bN];rw [iS (n:=n) (hs (x.1,bN ρ x.2) (List.mem_map_of_mem hx))]
  |_=>exact hr.elim
 |zero =>
  cases o with
  |zero=>cases l <;> exact h
  |_=>exact hr.elim
 |_=>exact hr.elim
theorem aDz {o0 o:aV}(h:US ι n o)(hr:bO ρ m o0 o):US (fun k=>ι (ρ k)) m o0:=by
 cases o0 with
 |cells wr0 g0 sz0 cs0 =>
  cases o with
  |cells wr g sz cs =>
   obtain⟨rfl,rfl,rfl,rfl,hn⟩:=hr;exact fun v hv=>oN (n:=n) (h _ (List.mem_map_of_mem hv)) (hn v hv)
  |_=>exact hr.elim
 |map es0 =>
  cases o with
  |map es =>
   obtain⟨rfl,hn⟩:=hr;exact fun x hx=>oN (n:=n) (h (x.1,bN ρ x.2) (List.mem_map_of_mem hx)) (hn x hx)
  |_=>exact hr.elim
 |zero=>trivial
 |_=>exact hr.elim
theorem bO.alone {o0 o:aV}(hr:bO ρ m o0 o)(h:o0.alone=true):o.alone=true:=by
 cases o0 <;> cases o <;> first|exact hr.elim|(obtain⟨rfl,_⟩:=hr;exact h)|exact h
variable {b:Nat}{e0 e:List (Nat × Value)}{h0 h:Heap}{n0 nx:Nat}
theorem qE.aFx (r:qE b ρ e0 h0 n0 e h nx){B:Nat}{w:World}(H:aS ι B h nx w):aS (fun k=>ι (ρ k)) B h0 n0 w:=by
 refine⟨fun k o hk=>?_,fun k k' o o' h1 h2 hne ha q hq=>?_,fun k o hk=>(r.heap k o hk).1,H.size,fun k o hk=>?_⟩
 ·obtain⟨_,o',h1,h2⟩:=r.heap k o hk;exact Z5 (H.obj _ _ h1) (H.sc _ _ h1) h2
 ·obtain⟨_,p,k1,k2⟩:=r.heap k o h1;obtain⟨_,p',k3,k4⟩:=r.heap k' o' h2;exact H.sep _ _ p p' k1 k3 (fun e=>hne (r.inj k k' o o' h1 h2 e)) (k2.alone ha) q hq
 ·obtain⟨_,o',h1,h2⟩:=r.heap k o hk;exact aDz (H.sc _ _ h1) h2
theorem qE.aHV (r:qE b ρ e0 h0 n0 e h nx){a:Act}(H:cW ι nx e a):cW (fun k=>ι (ρ k)) n0 e0 a:=by
 intro t v hv;obtain⟨h1,h2⟩:=r.env t v hv;obtain⟨h3,h4⟩:=H t _ h1;exact⟨by rw [← D8 h4];exact h3,CY h4 h2⟩
end
def pZ (A:Ar)(T:cM)(C:VC)(Y:VY)(tn:Nat)(ops:List Oper)(o:Oper)(e:List (Nat × Value))(h:Heap)(nx:Nat)(K:KS):Prop :=
 fQ A ops e o.guard (fun e=>pW A T C Y e h nx o.op fun v h' nx'=>eH tn e o.dst v fun e'=>K e' h' nx') (fun e=>eH tn e o.dst undef fun e'=>K e' h nx)
def allM (l:List Nat):List Nat→Bool
 |[]=>true
 |j::r=>match oW j l with|true=>allM l r|false=>false
theorem MP {l m:List Nat}:allM l m=true↔∀ j∈m,j∈l:=by
 induction m with
 |nil=>simp [allM]
 |cons x r ih =>
  simp only [allM];split
  ·rename_i h;rw [ih];constructor
   ·intro h2 j hj;rcases List.mem_cons.1 hj with rfl|hj
    ·exact dG.1 h
    ·exact h2 j hj
   ·exact fun h2 j hj=>h2 j (.tail _ hj)
  ·rename_i h;constructor
   ·intro h2;cases h2
   ·intro h2;rw [dG.2 (h2 x (.head _))] at h;cases h
def eN (all:List Oper)(done:List Nat):List Oper→Nat→List Nat
 |[],_=>[]
 |o::r,i=>match oW i done with
  |true=>eN all done r (i+1)
  |false=>(match allM done (lC o) with|true=>i::eN all done r (i+1)|false=>eN all done r (i+1))
theorem RH {all:List Oper}{done:List Nat}:∀ {l:List Oper} {i k:Nat},k∈eN all done l i↔∃ j o,k=i+j∧eZ l j=some o∧k∉done∧∀ x∈lC o,x∈done:=by
 intro l
 induction l with
 |nil =>
  intro i k;constructor
  ·intro h;cases h
  ·rintro ⟨j,o,_,h,_⟩;rw [dS] at h;simp at h
 |cons p r ih =>
  intro i k;have shift:(∃ j o,k=i+1+j∧eZ r j=some o∧k∉done∧∀ x∈lC o,x∈done)→∃ j o,k=i+j∧eZ (p::r) j=some o∧k∉done∧∀ x∈lC o,x∈done:=by
   rintro ⟨j,o,h1,h2,h3⟩;refine⟨j+1,o,by omega,?_,h3⟩;rw [dS] at h2 ⊢;simpa using h2
  have back:(∃ j o,k=i+j∧eZ (p::r) j=some o∧k∉done∧∀ x∈lC o,x∈done)→(k=i∧i∉done∧∀ x∈lC p,x∈done)∨∃ j o,k=i+1+j∧eZ r j=some o∧k∉done∧∀ x∈lC o,x∈done:=by
   rintro ⟨j,o,h1,h2,h3⟩;cases j with
   |zero =>
    rw [dS] at h2;simp at h2;subst h2;exact .inl ⟨by omega,by rw [show i=k by omega];exact h3.1,h3.2⟩
   |succ j =>
    refine .inr ⟨j,o,by omega,?_,h3⟩;rw [dS] at h2 ⊢;simpa using h2
  simp only [eN];split
  ·rename_i hm;rw [ih];refine⟨shift,fun h=>?_⟩;rcases back h with ⟨_,hn,_⟩|h
   ·exact absurd (dG.1 hm) hn
   ·exact h
  ·rename_i hm;have hn:i∉done:=fun h=>(by rw [dG.2 h] at hm;cases hm);split
   ·rename_i ha;rw [List.mem_cons,ih];constructor
    ·rintro (rfl|h)
     ·exact⟨0,p,rfl,by rw [dS];rfl,hn,MP.1 ha⟩
     ·exact shift h
    ·intro h;rcases back h with ⟨h,_⟩|h
     ·exact .inl h
     ·exact .inr h
   ·rename_i ha;rw [ih];refine⟨shift,fun h=>?_⟩;rcases back h with ⟨_,_,h⟩|h
    ·rw [MP.2 h] at ha;cases ha
    ·exact h
def LK (F:Nat→Prop):List Nat→Prop
 |[]=>True
 |[i]=>F i
 |i::r=>F i∧LK F r
theorem yA {F:Nat→Prop}:∀ {l:List Nat},LK F l↔∀ i∈l,F i
 |[]=>by simp [LK]
 |[i]=>by simp [LK]
 |i::j::r=>by
  rw [show LK F (i::j::r)=(F i∧LK F (j::r)) from rfl,yA];simp
def EN (A:Ar)(T:cM)(C:VC)(Y:VY)(tn:Nat)(ops:List Oper)(K:KS):Nat→List Nat→KS
 |0,_=>K
 |n+1,done=>fun e h nx=>match eN ops done ops 0 with
  |[]=>K e h nx
  |i::r=>LK (fun j=>match eZ ops j with|some o=>pZ A T C Y tn ops o e h nx (EN A T C Y tn ops K n (j::done))|none=>False) (i::r)
section
variable {P:Program}{T:cM}{C:VC}{Y:VY}{ops:Array Oper}
variable {B:Nat}{w0:World}{ιb:Nat→Loc}{nxb tn:Nat}{ds:List Deferred}{K:KS}
theorem ZZ (hT:cH P T)(hC:bI P C)(hY:eG P Y)(r:Option Nat){Q:Exit→Act→World→Prop}{i:Nat}{o:Oper}(ho:eZ ops.toList i=some o){ι:Nat→Loc}{e:List (Nat × Value)}{h:Heap}{nx:Nat}{a:Act}{w:World}
  (hl:pZ aB T C Y tn ops.toList o e h nx K) (I:Inv B w0 ιb nxb tn ds ι e h nx a w) {next:Act→World→Prop}
  (hQ:∀ ι e h nx a w,K e h nx→Inv B w0 ιb nxb tn ds ι e h nx a w→next a w):wpOpIn (Fr r) 0 P ops Q i next a w:=by
 have hoo:ops[i]? = some o:=(by rw [dS] at ho;simpa using ho);unfold wpOpIn;simp only [hoo];unfold pZ at hl;obtain⟨env1,he1,hcase⟩:=uS I.env hl;rcases hcase with ⟨hw,hl⟩|⟨hw,hl⟩
 ·rw [if_pos hw];refine (PC hT hC hY he1 I.heap hl).upon (BJ hl) rfl r _ _ fun v h' nx' ι' w' k1 k2 k3 k4 k5 k6=>?_;obtain⟨env2,k7,k8,k9,k10⟩:=oG (he1.names k6 k5) I.size k1 k2;exact hQ ι' env2 h' nx' _ w' k7 (I.step k8 k3 k4 k5 k6 k9 k10)
 ·rw [hw];refine⟨fun _ _=>trivial,?_⟩;obtain⟨env2,k7,k8,k9,k10⟩:=oG he1 I.size hl (v:=undef) (bU rfl);rw [iB (show gT undef=true from rfl)] at k8 k9 k10;exact hQ ι env2 h nx _ w k7 (I.step k8 I.heap (gO.refl _ _) (fun _ _=>rfl) (Nat.le_refl _) k9 k10)
theorem vY {listed:Array Bool}(hs:listed.size=ops.size){done:List Nat}(hd:∀ i,wR listed i↔i∈done){i:Nat}:i∈Region.ready .any ops listed↔i∈eN ops.toList done ops.toList 0:=by
 rw [mW hs,RH];constructor
 ·rintro ⟨h1,h2,h3⟩;have ho:eZ ops.toList i=some ops[i]:=(by rw [dS];simp [h1]);refine⟨i,ops[i],by omega,ho,fun h=>h2 ((hd i).2 h),fun x hx=>(hd x).1 (h3 x ?_)⟩;unfold cB;rw [ho];exact hx
 ·rintro ⟨j,o,h1,h2,h3,h4⟩;have hij:i=j:=(by omega);subst hij;have hlt:i<ops.size:=by
   rw [dS] at h2;have:=(List.getElem?_eq_some_iff.1 h2).1;simpa using this
  refine⟨hlt,fun h=>h3 ((hd i).1 h),fun x hx=>(hd x).2 (h4 x ?_)⟩;unfold cB at hx;rw [h2] at hx;exact hx
theorem aDo (hT:cH P T)(hC:bI P C)(hY:eG P Y)(r:Option Nat){Q:Exit→Act→World→Prop}
  (hQ:∀ ι e h nx a w,K e h nx→Inv B w0 ιb nxb tn ds ι e h nx a w→Q .normal a w):∀ (n:Nat) (listed:Array Bool) (done:List Nat) (ι:Nat→Loc) (e:List (Nat × Value)) (h:Heap) (nx:Nat) (a:Act) (w:World),
  listed.size=ops.size→(∀ i,wR listed i↔i∈done)→left ops.size listed≤n→EN aB T C Y tn ops.toList K n done e h nx→Inv B w0 ιb nxb tn ds ι e h nx a w→wpAnyIn (Fr r) 0 P .any ops Q n listed a w:=by
 intro n
 induction n with
 |zero =>
  intro listed done ι e h nx a w hs hd hl hv I;refine⟨?_,hQ ι e h nx a w hv I⟩;refine List.eq_nil_iff_forall_not_mem.2 fun i hi=>?_;obtain⟨h1,h2,_⟩:=(mW hs).1 hi;have:=yT h1 hs h2;omega
 |succ n ih =>
  intro listed done ι e h nx a w hs hd hl hv I;simp only [EN] at hv;split at hv
  ·rename_i hr;have hno:∀ i,i∉Region.ready .any ops listed:=fun i hi=>by
    have:=(vY hs hd).1 hi;rw [hr] at this;cases this
   exact⟨fun _=>hQ ι e h nx a w hv I,fun i hi=>absurd hi (hno i)⟩
  ·rename_i i0 r0 hr;rw [yA] at hv;refine⟨fun hn=>?_,fun i hi=>?_⟩
   ·exfalso;have:i0∈Region.ready .any ops listed:=(vY hs hd).2 (by rw [hr];exact .head _);rw [hn] at this;cases this
   ·obtain⟨h1,h2,_⟩:=(mW hs).1 hi;have hv':=hv i (by rw [← hr];exact (vY hs hd).1 hi);split at hv'
    case h_2=>exact hv'.elim
    rename_i o ho;refine ZZ hT hC hY r ho hv' I fun ι e h nx a w hk J=>?_;have hset:=wR.set (listed:=listed) (i:=i) (by omega);refine ih _ (i::done) ι e h nx a w (by simp [hs]) (fun j=>?_) (by have:=yT h1 hs h2;omega) hk J;rw [hset];unfold F7;rw [hd j,List.mem_cons]
theorem MC (hT:cH P T)(hC:bI P C)(hY:eG P Y)(hm:P.follows .mixedOrders=true){ι:Nat→Loc}{env:List (Nat × Value)}{h:Heap}{nx:Nat}{a:Act}{w:World}(I:Inv B w0 ιb nxb tn ds ι env h nx a w)
  (hl:EN aB T C Y tn ops.toList K ops.size [] env h nx) (r:Option Nat) {id:Nat} {Q:Exit→Act→World→Prop} (hQ:∀ ι env h nx a w,K env h nx→Inv B w0 ιb nxb tn ds ι env h nx a w→Q .normal a w) :
  (Code.region id ops true).wpIn (Fr r) 0 P Q a w:=by
 refine wpIn_region_any hm ?_;have H:=I.heap.drawn (w.drawn+1);have hb:gO B w { w with drawn:=w.drawn+1 }:=⟨rfl,rfl,rfl,Nat.le_refl _,fun _ _=>rfl,Nat.le_succ _⟩;have hno:∀ i,¬ wR (Array.replicate ops.size false) i:=by
  intro i;unfold wR;by_cases h:i<ops.size <;> simp [h]
 refine aDo hT hC hY r hQ ops.size _ [] ι env h nx a _ (by simp) (fun i=>⟨fun h=>absurd h (hno i),fun h=>by cases h⟩) ?_ hl ⟨I.env,H,I.below.trans hb,I.old,I.le,I.size,I.defers⟩;unfold left;exact Nat.le_trans (List.length_filter_le _ _) (by simp)
end
def EM (F:KS→KS)(n:Nat):KS:=@Nat.rec (fun _=>KS) (fun _ _ _=>False) (fun _ ih e h nx=>F ih e h nx) n
inductive LM where
 |fuel (n:Nat)
 |inv (b:Nat)
def LM.low:LM→Nat→Prop
 |.fuel _,_=>True
 |.inv b,n=>n≤b
def qV (b:Nat)(I:KS):KS:=fun e h nx=>∃ e0 h0 n0 ρ,I e0 h0 n0∧qE b ρ e0 h0 n0 e h nx
def aBd (M:LM)(F:KS→KS):KS:=fun e h nx =>
 match M with
 |.fuel n=>EM F n e h nx
 |.inv b=>∃ I:Nat→KS,(∃ n,qV b (I n) e h nx)∧∀ n e h nx,I n e h nx→F (fun e h nx=>∃ m,m<n∧qV b (I m) e h nx) e h nx
def AJ (A:Ar)(T:cM)(C:VC)(Y:VY)(tn:Nat)(ops:List Oper)(K:KS):Nat→List Nat→KS
 |0,_=>K
 |n+1,done=>fun e h nx=>match eN ops done ops 0 with
  |[]=>K e h nx
  |j::_=>(match eZ ops j with|some o=>pZ A T C Y tn ops o e h nx (AJ A T C Y tn ops K n (j::done))|none=>False)
theorem XK {A:Ar}{T:cM}{C:VC}{Y:VY}(hC:dZ C)(hY:dZ Y){tn:Nat}{ops:List Oper}{o:Oper}{e:List (Nat × Value)}{h:Heap}{nx:Nat}:lB (pZ A T C Y tn ops o e h nx):=by
 show lB (fun K=>pZ A T C Y tn ops o e h nx K);unfold pZ
 exact wE (F:=fun e K=>pW A T C Y e h nx o.op fun v h' nx'=>eH tn e o.dst v fun e'=>K e' h' nx') (G:=fun e K=>eH tn e o.dst undef fun e'=>K e' h nx)
  (fun e=>AF (F:=fun v h' nx' K=>eH tn e o.dst v fun e'=>K e' h' nx') (DG hC hY) fun v h' nx'=>nK (F:=fun e' K=>K e' h' nx') fun e'=>mU)
  (fun e=>nK (F:=fun e' K=>K e' h nx) fun e'=>mU)
theorem wY {A:Ar}{T:cM}{C:VC}{Y:VY}(hC:dZ C)(hY:dZ Y){tn:Nat}{ops:List Oper}:∀ n done e h nx,lB (fun K=>AJ A T C Y tn ops K n done e h nx)
 |0,_,e,h,nx=>mU
 |n+1,done,e,h,nx=>by
  intro K hl;simp only [AJ] at hl ⊢;split at hl
  ·exact⟨e,h,nx,hl,fun K' q=>q⟩
  ·split at hl
   case h_2=>exact hl.elim
   rename_i o ho;obtain⟨e1,h1,n1,q1,q2⟩:=XK hC hY _ hl;obtain⟨e2,h2,n2,q3,q4⟩:=wY hC hY n _ e1 h1 n1 K q1;exact⟨e2,h2,n2,q3,fun K' q=>q2 _ (q4 K' q)⟩
def L7 (A:Ar)(T:cM)(C:VC)(Y:VY)(tn:Nat)(M:LM)(ops:Array Oper):List (Nat × Value)→Heap→Nat→KS→Prop:=fun e h nx K =>
 match M with
 |.fuel _=>AJ A T C Y tn ops.toList (fun _ _ _=>∃ e0 h0 n0,EN A T C Y tn ops.toList (qV nx fun e' h' n'=>e'=e0∧h'=h0∧n'=n0) ops.size [] e h nx∧K e0 h0 n0) ops.size [] e h nx
 |.inv b=>∃ I:KS,EN A T C Y tn ops.toList (qV b I) ops.size [] e h nx∧∀ e h nx,I e h nx→K e h nx
abbrev VR:=Operand→Array Tmp→Code→Code→KS→(Nat→KS)→KS→KS
def gV (A:Ar)(T:cM)(C:VC)(Y:VY)(tn:Nat)(PL:Nat→Option fE)(M:LM)(R:VR)(c:Code):KS→(Nat→KS)→KS→KS :=
 @Code.rec (fun _=>KS→(Nat→KS)→KS→KS) (fun kn _ _=>kn)
  (fun id ops draw kn _ _ e h nx=>match draw with
   |false=>xJ A T C Y tn ops.toList ops.toList e h nx kn
   |true=>(match PL id with|some p=>oQ A T C Y tn ops.toList p e h nx kn|none=>L7 A T C Y tn M ops e h nx kn))
  (fun _ _ iha ihb kn kx kr=>iha (ihb kn kx kr) kx kr)
  (fun c _ _ iht ihf kn kx kr e h nx=>match cX e c with
   |some (.bool b)=>br b (fun _=>iht kn kx kr e h nx) (fun _=>ihf kn kx kr e h nx)
   |_=>False)
  (fun id _ ih kn kx kr=>ih kn (fun j=>match Nat.beq j id with|true=>kn|false=>kx j) kr)
  (fun _ ih _ kx kr=>aBd M (fun k=>ih k kx kr))
  (fun g ps as bd _ _ kn kx kr=>R g ps as bd kn kx kr)
  (fun id _ kx _=>kx id)
  (fun _ ih kn kx kr=>ih kn kx kr)
  (fun _ kn _ _=>kn)
  (fun _ _ _ _ _ _ _=>False)
  (fun _ _ kr=>kr)
  (fun _ _ _ _ _ _ _=>False) c
section
variable {A:Ar}{T:cM}{C:VC}{Y:VY}{tn:Nat}{PL:Nat→Option fE}{M:LM}{R:VR}{kn kr:KS}{kx:Nat→KS}{e:List (Nat × Value)}{h:Heap}{nx:Nat}
theorem gE {id:Nat}{ops:Array Oper}{draw:Bool}:gV A T C Y tn PL M R (.region id ops draw) kn kx kr e h nx=match draw with
 |false=>xJ A T C Y tn ops.toList ops.toList e h nx kn
 |true=>(match PL id with|some p=>oQ A T C Y tn ops.toList p e h nx kn|none=>L7 A T C Y tn M ops e h nx kn):=rfl
theorem jW {c:Operand}{t f:Code}:gV A T C Y tn PL M R (.cond c t f) kn kx kr e h nx=match cX e c with
 |some (.bool b)=>br b (fun _=>gV A T C Y tn PL M R t kn kx kr e h nx) (fun _=>gV A T C Y tn PL M R f kn kx kr e h nx)
 |_=>False:=rfl
theorem OF {id:Nat}{b:Code}:gV A T C Y tn PL M R (.block id b) kn kx kr e h nx=gV A T C Y tn PL M R b kn (fun j=>match Nat.beq j id with|true=>kn|false=>kx j) kr e h nx:=rfl
theorem qL {b:Code}:gV A T C Y tn PL M R (.loop b) kn kx kr e h nx=aBd M (fun k=>gV A T C Y tn PL M R b k kx kr) e h nx:=rfl
end
def dT (PL:Nat→Option fE):Code→Bool
 |.region id ops true=>(match PL id with|some p=>QC ops p|none=>true)
 |.seq a b=>dT PL a&&dT PL b
 |.cond _ a b=>dT PL a&&dT PL b
 |.block _ b=>dT PL b
 |.loop b=>dT PL b
 |.scope b=>dT PL b
 |_=>true
def AP (b:Nat):Deferred:={ target:=.collected b,args:=#[] }
def Marks (B0 B:Nat)(w:World)(ds:List Deferred):Prop:=∃ bs:List Nat,ds=bs.map AP∧bs.Nodup∧∀ b∈bs,B0≤b∧b<B∧w.heap[b]? = some (.deferred (some []))
def qU (B0:Nat)(w0:World)(ι0:Nat→Loc)(nx0 tn:Nat)(ι:Nat→Loc)(env:List (Nat × Value))(h:Heap)(nx:Nat)(a:Act)(w:World):Prop :=
 ∃ B w1 ι1 nx1 ds,B0≤B∧gO B0 w0 w1∧(∀ k,k<nx0→ι1 k=ι0 k)∧nx0≤nx1∧Marks B0 B w1 ds∧Inv B w1 ι1 nx1 tn ds ι env h nx a w
section
variable {P:Program}{T:cM}{C:VC}{Y:VY}{B0:Nat}{w0:World}{ι0:Nat→Loc}{nx0 tn:Nat}{PL:Nat→Option fE}{M:LM}{R:VR}
structure Ends (B0:Nat) (w0:World) (ι0:Nat→Loc) (nx0 tn:Nat) (kn:KS) (kx:Nat→KS) (kr:KS) (Q:Exit→Act→World→Prop):Prop where
 n:∀ ι e h nx a w,kn e h nx→qU B0 w0 ι0 nx0 tn ι e h nx a w→Q .normal a w
 x:∀ id ι e h nx a w,kx id e h nx→qU B0 w0 ι0 nx0 tn ι e h nx a w→Q (.exit id) a w
 r:∀ ι e h nx a w,kr e h nx→qU B0 w0 ι0 nx0 tn ι e h nx a w→Q .ret a w
def C1 (P:Program)(r:Option Nat)(tn:Nat)(R:VR):Prop:=∀ g ps as bd kn kx kr e h nx,R g ps as bd kn kx kr e h nx→∀ B0 w0 ι0 nx0 Q,Ends B0 w0 ι0 nx0 tn kn kx kr Q→∀ ι a w,qU B0 w0 ι0 nx0 tn ι e h nx a w →
 (Code.rangeFunc g ps as bd).wpIn (Fr r) 0 P Q a w
theorem j1 {b:Frame}{a:Act}{k:List Item}{cs:List Frame}{w:World}{c:Code}:step P (lone (b.atR a (.code (.scope c)::k)) cs w)=.next (lone (b.atR a (.code c::.inScope c::k)) cs w) :=
 step_lone_go (by simp [stepG,stepG.exec,Frame.atR])
theorem HC {b:Frame}{a:Act}{k:List Item}{cs:List Frame}{w:World}{c:Code}:step P (lone (b.atR a (.inScope c::k)) cs w)=.next (lone (b.atR a k) cs w) :=
 step_lone_go (by simp [stepG,stepG.exec,Frame.atR])
theorem vE {F:Fence}{n:Nat}{c:Code}{Q:Exit→Act→World→Prop}{a:Act}{w:World}(h:c.wpIn F n P (fun e a w=>(∀ l,e≠.goto l)∧Q e a w) a w):(Code.scope c).wpIn F n P Q a w:=by
 intro b k cs hro hb hr;have h0:(lone (b.atR a (.code (.scope c)::k)) cs w).fenced P F:=fenced_calm hb hr rfl;obtain⟨e,a₁,w₁,⟨hg,hq⟩,harr⟩:=h b (.inScope c::k) cs hro hb hr;cases e with
 |normal=>exact⟨.normal,a₁,w₁,hq,.head h0 j1 (StepsIn.trans harr (.one (fenced_calm hb hr rfl) HC))⟩
 |exit id =>
  have hx:exitTo id (.inScope c::k)=exitTo id k:=by simp [exitTo]
  exact⟨.exit id,a₁,w₁,hq,fun k' hk=>.head h0 j1 (harr.1 k' (by rw [hx];exact hk)),
   fun hr' hk=>let ⟨k₁,h1,h2⟩:=harr.2 hr' (by rw [hx];exact hk);⟨k₁,h1,.head h0 j1 h2⟩⟩
 |goto l=>exact absurd rfl (hg l)
 |ret=>exact⟨_,a₁,w₁,hq,.of_steps (.one h0 j1) harr⟩
 |panic ch=>exact⟨_,a₁,w₁,hq,.of_steps (.one h0 j1) harr⟩
 |outgrown=>exact⟨_,a₁,w₁,hq,.of_steps (.one h0 j1) harr⟩
theorem qU.aCj {ι:Nat→Loc}{e:List (Nat × Value)}{h:Heap}{nx:Nat}{a:Act}{w:World}{b:Nat}{I:KS}(J:qU B0 w0 ι0 nx0 tn ι e h nx a w)(hb:nx0≤b)(hi:qV b I e h nx):∃ ι' e' h' nx',I e' h' nx'∧qU B0 w0 ι0 nx0 tn ι' e' h' nx' a w:=by
 obtain⟨e',h',nx',ρ,hI,r⟩:=hi;obtain⟨B,w1,ι1,nx1,ds,h1,h2,h3,h4,h5,J⟩:=J;refine⟨fun k=>ι (ρ k),e',h',nx',hI,B,w1,ι0,nx0,ds,h1,h2,fun _ _=>rfl,Nat.le_refl _,h5,r.aHV J.env,r.aFx J.heap,J.below,fun k hk=>?_,Nat.le_trans hb r.le,J.size,J.defers⟩;rw [r.fix k (Nat.lt_of_lt_of_le hk hb)];exact (J.old k (Nat.lt_of_lt_of_le hk h4)).trans (h3 k hk)
theorem least {p:Nat→Prop}(h:∃ n,p n):∃ m,p m∧∀ k,p k→m≤k:=by
 obtain⟨n,hn⟩:=h
 induction n using Nat.strongRecOn with
 |_ n ih =>
  by_cases hk:∃ k,p k∧k<n
  ·obtain⟨k,h1,h2⟩:=hk;exact ih k h2 h1
  ·exact⟨n,hn,fun k h1=>Nat.le_of_not_lt fun h2=>hk ⟨k,h1,h2⟩⟩
theorem xZ {r:Option Nat}{c:Code}{Q:Exit→Act→World→Prop}{a:Act}{w:World}{I:Nat→Act→World→Prop}{n:Nat}(h₀:I n a w)
  (round:∀ n a w,I n a w→c.wpIn (Fr r) 0 P (Exit.then (fun a' w'=>∃ m,m<n∧I m a' w') Q) a w):(Code.loop c).wpIn (Fr r) 0 P Q a w:=by
 classical
 refine wpIn_loop (fun a w=>∃ n,I n a w) (fun a w=>if h:∃ n,I n a w then Classical.choose (least h) else 0) ⟨n,h₀⟩ fun a w h=>?_;have hs:=Classical.choose_spec (least h);refine Code.wpIn_mono (fun e a' w' hq=>?_) (round _ a w hs.1);cases e <;> try exact hq
 obtain⟨m,hm,hI⟩:=hq;refine⟨⟨m,hI⟩,?_⟩;have h':∃ n,I n a' w':=⟨m,hI⟩;simp only [dif_pos h',dif_pos h];exact Nat.lt_of_le_of_lt ((Classical.choose_spec (least h')).2 m hI) hm
end
section
variable {P:Program}{T:cM}{C:VC}{Y:VY}{tn:Nat}{PL:Nat→Option fE}{M:LM}{R:VR}
def T2 (R:VR):Prop:=∀ g ps as bd (kn kn':KS) (kx kx':Nat→KS) (kr kr':KS) e h nx,(∀ e h nx,kn e h nx→kn' e h nx)→(∀ id e h nx,kx id e h nx→kx' id e h nx)→(∀ e h nx,kr e h nx→kr' e h nx)→R g ps as bd kn kx kr e h nx→R g ps as bd kn' kx' kr' e h nx
theorem ER (hT:cH P T)(hC:bI P C)(hY:eG P Y)(hD:dZ C)(hDY:dZ Y)(hm:P.follows .mixedOrders=true)(r:Option Nat)(hR:C1 P r tn R)(hRm:T2 R) :
  ∀ (c:Code),dT PL c=true→∀ (kn:KS) (kx:Nat→KS) (kr:KS) e h nx,gV aB T C Y tn PL M R c kn kx kr e h nx→∀ B0 w0 ι0 nx0 Q,M.low nx0→Ends B0 w0 ι0 nx0 tn kn kx kr Q→∀ ι a w,qU B0 w0 ι0 nx0 tn ι e h nx a w →
    c.wpIn (Fr r) 0 P Q a w:=by
 intro c
 induction c with
 |skip=>exact fun _ kn kx kr e h nx hl B0 w0 ι0 nx0 Q hM E ι a w I=>wpIn_skip (E.n ι e h nx a w hl I)
 |region id ops draw =>
  intro hp kn kx kr e h nx hl B0 w0 ι0 nx0 Q hM E ι a w I;obtain⟨B,w1,ι1,nx1,ds,h1,h2,h3,h4,h5,J⟩:=I;simp only [gE,jW,qL] at hl;cases draw with
  |false =>
   refine wpIn_region_list (LH hT hC hY r ops.toList ι e h nx a w hl J fun ι' e' h' nx' a' w' hk J'=>?_);exact E.n ι' e' h' nx' a' w' hk ⟨B,w1,ι1,nx1,ds,h1,h2,h3,h4,h5,J'⟩
  |true =>
   simp only [dT] at hp;simp only at hl;cases hpl:PL id with
   |none =>
    rw [hpl] at hl;simp only [L7] at hl;cases M with
    |fuel n =>
     obtain⟨ea,ha,na,⟨e0,h0,n0,hi,hK⟩,hr⟩:=wY hD hDY _ _ _ _ _ _ hl;refine MC hT hC hY hm J hi r fun ι' e' h' nx' a' w' hk J'=>?_;obtain⟨ι2,e2,h2',nx2,⟨rfl,rfl,rfl⟩,k2⟩:=qU.aCj ⟨B,w1,ι1,nx1,ds,h1,h2,h3,h4,h5,J'⟩ (Nat.le_trans h4 J.le) hk;exact E.n ι2 _ _ _ a' w' hK k2
    |inv b =>
     obtain⟨I,hi,hI⟩:=hl;refine MC hT hC hY hm J hi r fun ι' e' h' nx' a' w' hk J'=>?_;obtain⟨ι2,e2,h2',nx2,k1,k2⟩:=qU.aCj ⟨B,w1,ι1,nx1,ds,h1,h2,h3,h4,h5,J'⟩ hM hk;exact E.n ι2 e2 h2' nx2 a' w' (hI _ _ _ k1) k2
   |some p =>
    rw [hpl] at hl hp;exact RP hT hC hY hD hm (ND hp) J hl r fun ι' e' h' nx' a' w' hk J'=>E.n ι' e' h' nx' a' w' hk ⟨B,w1,ι1,nx1,ds,h1,h2,h3,h4,h5,J'⟩
 |seq a b iha ihb =>
  intro hp kn kx kr e h nx hl B0 w0 ι0 nx0 Q hM E ι ac w I;simp only [dT,Bool.and_eq_true] at hp;refine wpIn_seq (iha hp.1 _ kx kr e h nx hl B0 w0 ι0 nx0 _ hM ⟨fun ι e h nx a w hk I=>?_,fun id ι e h nx a w hk I=>?_,fun ι e h nx a w hk I=>?_⟩ ι ac w I)
  ·exact ihb hp.2 kn kx kr e h nx hk B0 w0 ι0 nx0 Q hM E ι a w I
  ·exact E.x id ι e h nx a w hk I
  ·exact E.r ι e h nx a w hk I
 |cond c t f iht ihf =>
  intro hp kn kx kr e h nx hl B0 w0 ι0 nx0 Q hM E ι a w I;simp only [dT,Bool.and_eq_true] at hp;simp only [gE,jW,qL] at hl;split at hl
  case h_2=>exact hl.elim
  rename_i b hb;have hc:a.eval c=.bool b:=by
   obtain⟨B,w1,ι1,nx1,ds,h1,h2,h3,h4,h5,J⟩:=I;rw [(J.env.cX hb).1,qY]
  rcases nM hl with ⟨rfl,hl⟩|⟨rfl,hl⟩
  ·exact wpIn_cond_true hc (iht hp.1 kn kx kr e h nx hl B0 w0 ι0 nx0 Q hM E ι a w I)
  ·exact wpIn_cond_false hc (ihf hp.2 kn kx kr e h nx hl B0 w0 ι0 nx0 Q hM E ι a w I)
 |block id b ih =>
  intro hp kn kx kr e h nx hl B0 w0 ι0 nx0 Q hM E ι a w I;refine wpIn_block (ih hp _ _ kr e h nx hl B0 w0 ι0 nx0 (Exit.inBlock id Q) hM ⟨E.n,fun j ι e h nx a w hk I=>?_,E.r⟩ ι a w I);cases hb:Nat.beq j id with
  |true =>
   rw [hb] at hk;simp only [Exit.inBlock,if_pos (beq_true hb)];exact E.n ι e h nx a w hk I
  |false =>
   rw [hb] at hk;simp only [Exit.inBlock,if_neg (beq_false hb)];exact E.x j ι e h nx a w hk I
 |loop b ih =>
  intro hp kn kx kr e h nx hl B0 w0 ι0 nx0 Q hM E ι a w I;simp only [gE,jW,qL] at hl;cases M with
  |fuel n0 =>
   refine xZ (I:=fun n a w=>∃ ι e h nx,EM (fun k=>gV aB T C Y tn PL (.fuel n0) R b k kx kr) n e h nx∧qU B0 w0 ι0 nx0 tn ι e h nx a w) (n:=n0) ⟨ι,e,h,nx,hl,I⟩ fun m a w hi=>?_;obtain⟨ι,e,h,nx,h1,I⟩:=hi;cases m with
   |zero=>exact h1.elim
   |succ m =>
    refine ih hp (EM (fun k=>gV aB T C Y tn PL (.fuel n0) R b k kx kr) m) kx kr e h nx h1 B0 w0 ι0 nx0 (Exit.then (fun a' w'=>∃ m',m'<m+1∧∃ ι e h nx,EM (fun k=>gV aB T C Y tn PL (.fuel n0) R b k kx kr) m' e h nx∧qU B0 w0 ι0 nx0 tn ι e h nx a' w') Q) hM ⟨fun ι e h nx a w hk I=>?_,fun id ι e h nx a w hk I=>E.x id ι e h nx a w hk I,fun ι e h nx a w hk I=>E.r ι e h nx a w hk I⟩ ι a w I;exact⟨m,Nat.lt_succ_self m,ι,e,h,nx,hk,I⟩
  |inv bs =>
   obtain⟨J,⟨n,h0⟩,hJ⟩:=hl;obtain⟨ι',e',h',nx',h0',I'⟩:=I.aCj hM h0;refine xZ (I:=fun n a w=>∃ ι e h nx,J n e h nx∧qU B0 w0 ι0 nx0 tn ι e h nx a w) (n:=n) ⟨ι',e',h',nx',h0',I'⟩ fun n a w hi=>?_;obtain⟨ι,e,h,nx,h1,I⟩:=hi;refine ih hp _ kx kr e h nx (hJ n e h nx h1) B0 w0 ι0 nx0 (Exit.then (fun a' w'=>∃ m,m<n∧∃ ι e h nx,J m e h nx∧qU B0 w0 ι0 nx0 tn ι e h nx a' w') Q) hM ⟨fun ι e h nx a w hk I=>?_,fun id ι e h nx a w hk I=>E.x id ι e h nx a w hk I,fun ι e h nx a w hk I=>E.r ι e h nx a w hk I⟩ ι a w I;obtain⟨m,hm,hk⟩:=hk;obtain⟨ι',e',h',nx',hk',I'⟩:=I.aCj hM hk;exact⟨m,hm,ι',e',h',nx',hk',I'⟩
 |rangeFunc g ps as bd _ _=>exact fun _ kn kx kr e h nx hl B0 w0 ι0 nx0 Q hM E ι a w I=>hR g ps as bd kn kx kr e h nx hl B0 w0 ι0 nx0 Q E ι a w I
 |exit id=>exact fun _ kn kx kr e h nx hl B0 w0 ι0 nx0 Q hM E ι a w I=>wpIn_exit (E.x id ι e h nx a w hl I)
 |ret=>exact fun _ kn kx kr e h nx hl B0 w0 ι0 nx0 Q hM E ι a w I=>wpIn_ret (E.r ι e h nx a w hl I)
 |label l=>exact fun _ kn kx kr e h nx hl B0 w0 ι0 nx0 Q hM E ι a w I=>wpIn_label (E.n ι e h nx a w hl I)
 |scope b ih =>
  intro hp kn kx kr e h nx hl B0 w0 ι0 nx0 Q hM E ι a w I;refine vE (ih hp kn kx kr e h nx hl B0 w0 ι0 nx0 _ hM ⟨fun ι e h nx a w hk I=>⟨fun l he=>(by cases he),E.n ι e h nx a w hk I⟩,fun id ι e h nx a w hk I=>⟨fun l he=>(by cases he),E.x id ι e h nx a w hk I⟩,fun ι e h nx a w hk I=>⟨fun l he=>(by cases he),E.r ι e h nx a w hk I⟩⟩ ι a w I)
 |goto l=>exact fun _ _ _ _ _ _ _ hl=>hl.elim
 |refuse s=>exact fun _ _ _ _ _ _ _ hl=>hl.elim
end
def fO (T:cM)(e:List (Nat × Value))(h:Heap)(l:List ResultVar):(List Value→Prop)→Prop :=
 @List.rec ResultVar (fun _=>(List Value→Prop)→Prop) (fun K=>K [])
  (fun x _ ih K=>match x with
   |.tmp t=>on (look e t) fun v=>ih fun l=>K (v::l)
   |.cell a t=>on (look e a) fun p=>sP T h t p fun v=>ih fun l=>K (v::l)) l
theorem mK {T:cM}{e:List (Nat × Value)}{h:Heap}{t:Nat}{r:List ResultVar}{K:List Value→Prop}:fO T e h (.tmp t::r) K=on (look e t) fun v=>fO T e h r fun l=>K (v::l):=rfl
theorem lF {T:cM}{e:List (Nat × Value)}{h:Heap}{a:Nat}{t:TypeId}{r:List ResultVar}{K:List Value→Prop}:fO T e h (.cell a t::r) K=on (look e a) fun p=>sP T h t p fun v=>fO T e h r fun l=>K (v::l):=rfl
def I4:List Value→Bool
 |[]=>true
 |.tuple _::_=>false
 |_::r=>I4 r
def B7 (T:cM)(fn:Func)(K:KE):KS:=fun e h nx=>fO T e h fn.results.toList fun l =>
 match l with
 |[v]=>K v h nx
 |l=>match I4 l with|true=>K (.tuple l.toArray) h nx|false=>False
def zV (tmps:Array Value):ResultVar→Sem Value
 |.tmp t=>pure (tmps.getD t undef)
 |.cell b t=>do loadVar t (← asAddr (tmps.getD b undef))
theorem PW (fn:Func)(tmps:Array Value):results fn tmps=(do let vs ← fn.results.mapM (zV tmps);pure (if h:vs.size=1 then vs[0] else .tuple vs)):=by
 unfold results;congr 1
section
variable {P:Program}{T:cM}
theorem r7 (hT:cH P T){ι:Nat→Loc}{B nx:Nat}{e:List (Nat × Value)}{h:Heap}{a:Act}(he:cW ι nx e a){w:World}(H:aS ι B h nx w):∀ (l:List ResultVar) (K:List Value→Prop),fO T e h l K →
  ∃ vs,K vs∧vs.length=l.length∧(∀ v∈vs,eR ι nx v)∧∀ w',aS ι B h nx w'→(l.mapM (zV a.tmps)).run P w'=.ok (vs.map (tr ι)) w'
 |[],K,hl=>⟨[],hl,rfl,by simp,fun w' _=>by simp⟩
 |.tmp t::r,K,hl=>by
  simp only [mK,lF] at hl;obtain⟨v,hv,hl⟩:=cQ hl;obtain⟨vs,h1,h2,h3,h4⟩:=r7 hT he H r _ hl;obtain⟨e1,e2⟩:=he t v hv;refine⟨v::vs,h1,by simp [h2],fun u hu=>?_,fun w' H'=>?_⟩
  ·rcases List.mem_cons.1 hu with rfl|hu
   ·exact e2
   ·exact h3 u hu
  ·have:=h4 w' H';have h6:(zV a.tmps (.tmp t)).run P w'=.ok (tr ι v) w':=(by simp [zV,e1]);simp only [List.mapM_cons,Sem.run_bind,Sem.run_pure,Result.andThen_ok,this,h6,List.map_cons]
 |.cell b t::r,K,hl=>by
  simp only [mK,lF] at hl;obtain⟨p,hp,hl⟩:=cQ hl;obtain⟨v,hk,hv,hrun⟩:=O0 (P:=P) hT hl H;obtain⟨vs,h1,h2,h3,h4⟩:=r7 hT he H r _ hk;obtain⟨e1,e2⟩:=he b p hp;refine⟨v::vs,h1,by simp [h2],fun u hu=>?_,fun w' H'=>?_⟩
  ·rcases List.mem_cons.1 hu with rfl|hu
   ·exact lR hv
   ·exact h3 u hu
  ·have:=h4 w' H';have e3:a.tmps.getD b undef=tr ι p:=(by simp [e1]);have h5:=hrun w' H';have hptr:∃ ad,tr ι p=.pointer (some ad):=by
    unfold sP at hl;split at hl
    ·rename_i k o;simp only [fG];split at hl
     ·rename_i ti wr g sz cs ht hlk;have hsc:k<nx∧(ι k).gJ=true:=e2;cases hι:ι k with
      |nil q=>rw [hι] at hsc;cases hsc.2
      |lay b o e=>exact⟨_,rfl⟩
     ·exact hl.elim
    ·exact hl.elim
   obtain⟨ad,had⟩:=hptr;rw [had] at h5;simp only [Instr.loadAt,Instr.sureAddr,Sem.run_bind,Sem.run_pure,Result.andThen_ok] at h5;have h6:(zV a.tmps (.cell b t)).run P w'=.ok (tr ι v) w':=by
    simp only [zV,e3,had,asAddr,Sem.run_bind,Sem.run_pure,Result.andThen_ok,h5]
   simp only [List.mapM_cons,Sem.run_bind,Sem.run_pure,Result.andThen_ok,h6,this,List.map_cons]
theorem aBW (hT:cH P T){fn:Func}{K:KE}{ι:Nat→Loc}{B nx:Nat}{e:List (Nat × Value)}{h:Heap}{a:Act}(he:cW ι nx e a){w:World}(H:aS ι B h nx w)(hl:B7 T fn K e h nx) :
  ∃ v,K v h nx∧eR ι nx v∧∀ w',aS ι B h nx w'→(results fn a.tmps).run P w'=.ok (tr ι v) w':=by
 unfold B7 at hl;obtain⟨vs,h1,h2,h3,h4⟩:=r7 hT he H _ _ hl;have hres:∀ w',aS ι B h nx w'→(results fn a.tmps).run P w'=.ok (if h:(vs.map (tr ι)).toArray.size=1 then (vs.map (tr ι)).toArray[0] else .tuple (vs.map (tr ι)).toArray) w':=by
  intro w' H';have:=h4 w' H';rw [PW,Array.mapM_eq_mapM_toList];simp only [Sem.run_bind,Sem.run_map,this,Result.andThen_ok,Sem.run_pure]
 split at h1
 ·rename_i v;exact⟨v,h1,h3 v (by simp),fun w' H'=>by rw [hres w' H'];simp⟩
 ·rename_i hne;split at h1
  case h_2=>exact h1.elim
  rename_i hnt;have hA:∀ v∈vs,kP ι nx v:=by
   clear h4 hres hne h2 hl h1
   induction vs with
   |nil=>simp
   |cons x r ih =>
    intro v hv;have hx:(∀ c,x≠.tuple c)∧I4 r=true:=by
     cases x <;> first|exact⟨fun c e=>(by cases e),hnt⟩|(simp [I4] at hnt)
    rcases List.mem_cons.1 hv with rfl|hv
    ·exact E0 hx.1 (h3 v (by simp))
    ·exact ih (fun u hu=>h3 u (by simp [hu])) hx.2 v hv
  refine⟨_,h1,fun v hv=>hA v (by simpa using hv),fun w' H'=>?_⟩;rw [hres w' H'];have hlen:vs.length≠1:=by
   intro e;obtain⟨v,rfl⟩:=List.length_eq_one_iff.1 e;exact hne v rfl
  rw [dif_neg (by simpa using hlen)];simp only [tr];congr 2;apply Array.ext';simp only [List.map_toArray];apply List.map_congr_left;intro v hv;exact uJ (hA v hv)
end
end Go.Aw
end
