/-
  Parts of a proof. No condition.
-/
import Derived.Test.YtoekkmbbbllogaaGreatQAj
set_option linter.unusedSimpArgs false
set_option linter.unusedVariables false
noncomputable section
namespace Go.Aw
open Go.RowKit
def at0 (ρ:Nat→Nat):Nat→Loc:=fun k=>.lay (ρ k) 0 0
def ren (ρ:Nat→Nat):Value→Value:=tr (at0 ρ)
def ren1 (ρ:Nat→Nat):Value→Value:=trS (at0 ρ)
def nmT (n:Nat):Value→Prop:=scT (at0 id) n
def nmS (n:Nat):Value→Prop:=scS (at0 id) n
def ObjRen (ρ:Nat→Nat)(n:Nat):AObj→AObj→Prop
 |.cells wr0 g0 sz0 cs0,.cells wr g sz cs=>wr0=wr∧g0=g∧sz0=sz∧cs=cs0.map (ren1 ρ)∧∀ v∈cs0,nmS n v
 |.map es0,.map es=>es=es0.map (fun e=>(e.1,ren1 ρ e.2))∧∀ e∈es0,nmS n e.2
 |.zero,.zero=>True
 |.iter m0 s0 t0 q0,.iter m s t q=>m=ρ m0∧s0=s∧t0=t∧q0=q∧m0<n
 |_,_=>False
structure RenOK (b:Nat) (ρ:Nat→Nat) (e0:List (Nat × Value)) (h0:Heap) (n0:Nat) (e:List (Nat × Value)) (h:Heap) (nx:Nat):Prop where
 env:∀ t v,look e0 t=some v→look e t=some (ren ρ v)∧nmT n0 v
 heap:∀ k o,look h0 k=some o→k<n0∧∃ o',look h (ρ k)=some o'∧ObjRen ρ n0 o o'
 inj:∀ k k' o o',look h0 k=some o→look h0 k'=some o'→ρ k=ρ k'→k=k'
 fix:∀ k,k<b→ρ k=k
 le:b≤n0
section
variable {ι:Nat→Loc}{ρ:Nat→Nat}{n m:Nat}
theorem trP_ren (v:Value):trP ι (trP (at0 ρ) v)=trP (fun k=>ι (ρ k)) v:=by
 cases v with
 |pointer a =>
  cases a with
  |none=>rfl
  |some a =>
   simp only [trP,at0,Nat.zero_add]
 |slice a n c =>
  cases a with
  |none=>rfl
  |some a =>
   simp only [trP,at0,Nat.zero_add,Nat.add_zero]
 |map a =>
  cases a with
  |none=>rfl
  |some a=>simp only [trP,at0]
 |_=>rfl
theorem trFn_ren {f:Fn}(h:scFn ι n (trFn (at0 ρ) f)):trFn ι (trFn (at0 ρ) f)=trFn (fun k=>ι (ρ k)) f:=by
 cases f with
 |yield l =>
  have h:=h.2
  simp only [trFn,at0]
  cases hl:ι (ρ l) with
  |nil p=>rw [hl] at h;cases h
  |lay b o e=>rfl
 |_=>rfl
theorem trS_ren {v:Value}(h:scS ι n (trS (at0 ρ) v)):trS ι (trS (at0 ρ) v)=trS (fun k=>ι (ρ k)) v:=by
 cases v with
 |func f a c =>
  have h1:=trFn_ren (ι:=ι) (n:=n) (f:=f) h.1
  simp only [trS,h1,Array.map_map]
  congr 2
  funext x
  exact trP_ren x
 |pointer a=>have:=trP_ren (ι:=ι) (ρ:=ρ) (.pointer a);cases a <;> exact this
 |slice a n c=>have:=trP_ren (ι:=ι) (ρ:=ρ) (.slice a n c);cases a <;> exact this
 |map a=>have:=trP_ren (ι:=ι) (ρ:=ρ) (.map a);cases a <;> exact this
 |_=>rfl
theorem trA_ren {v:Value}(h:scA ι n (trA (at0 ρ) v)):trA ι (trA (at0 ρ) v)=trA (fun k=>ι (ρ k)) v:=by
 cases v with
 |agg cs =>
  simp only [trA,Array.map_map]
  congr 1
  apply Array.map_congr_left
  intro x hx
  exact trS_ren (n:=n) (h (trS (at0 ρ) x) (by simp only [Array.toList_map,List.mem_map];exact⟨x,by simpa using hx,rfl⟩))
 |pointer a=>have:=trS_ren (ι:=ι) (ρ:=ρ) (n:=n) (v:=.pointer a);cases a <;> exact this h
 |slice a l c=>have:=trS_ren (ι:=ι) (ρ:=ρ) (n:=n) (v:=.slice a l c);cases a <;> exact this h
 |map a=>have:=trS_ren (ι:=ι) (ρ:=ρ) (n:=n) (v:=.map a);cases a <;> exact this h
 |func f a c=>exact trS_ren (ι:=ι) (ρ:=ρ) (n:=n) (v:=.func f a c) h
 |_=>rfl
theorem tr_ren {v:Value}(h:scT ι n (ren ρ v)):tr ι (ren ρ v)=tr (fun k=>ι (ρ k)) v:=by
 unfold ren at h ⊢
 cases v with
 |tuple cs =>
  simp only [tr,Array.map_map]
  congr 1
  apply Array.map_congr_left
  intro x hx
  exact trA_ren (n:=n) (h (trA (at0 ρ) x) (by simp only [Array.toList_map,List.mem_map];exact⟨x,by simpa using hx,rfl⟩))
 |pointer a=>have:=trA_ren (ι:=ι) (ρ:=ρ) (n:=n) (v:=.pointer a);cases a <;> exact this h
 |slice a l c=>have:=trA_ren (ι:=ι) (ρ:=ρ) (n:=n) (v:=.slice a l c);cases a <;> exact this h
 |map a=>have:=trA_ren (ι:=ι) (ρ:=ρ) (n:=n) (v:=.map a);cases a <;> exact this h
 |func f a c=>exact trA_ren (ι:=ι) (ρ:=ρ) (n:=n) (v:=.func f a c) h
 |agg c=>exact trA_ren (ι:=ι) (ρ:=ρ) (n:=n) (v:=.agg c) h
 |_=>rfl
theorem scP_ren {v:Value}(h:scP ι n (trP (at0 ρ) v))(hm:scP (at0 id) m v):scP (fun k=>ι (ρ k)) m v:=by
 cases v with
 |pointer a =>
  cases a with
  |none=>trivial
  |some a=>exact⟨hm.1,h.2⟩
 |slice a l c =>
  cases a with
  |none=>trivial
  |some a=>exact⟨hm.1,fun hf=>h.2 hf⟩
 |map a =>
  cases a with
  |none=>trivial
  |some a=>exact⟨hm.1,h.2⟩
 |agg c=>exact hm.elim
 |tuple c=>exact hm.elim
 |_=>trivial
theorem scS_ren {v:Value}(h:scS ι n (trS (at0 ρ) v))(hm:scS (at0 id) m v):scS (fun k=>ι (ρ k)) m v:=by
 cases v with
 |func f a c =>
  refine⟨?_,fun x hx=>?_⟩
  ·have h1:=h.1
   have h2:=hm.1
   cases f with
   |yield l=>exact⟨h2.1,h1.2⟩
   |_=>trivial
  ·refine scP_ren (n:=n) (h.2 _ ?_) (hm.2 x hx)
   simp only [Array.toList_map,List.mem_map]
   exact⟨x,hx,rfl⟩
 |pointer a=>have:=scP_ren (ι:=ι) (ρ:=ρ) (n:=n) (m:=m) (v:=.pointer a);cases a <;> exact this h hm
 |slice a l c=>have:=scP_ren (ι:=ι) (ρ:=ρ) (n:=n) (m:=m) (v:=.slice a l c);cases a <;> exact this h hm
 |map a=>have:=scP_ren (ι:=ι) (ρ:=ρ) (n:=n) (m:=m) (v:=.map a);cases a <;> exact this h hm
 |agg c=>exact hm.elim
 |tuple c=>exact hm.elim
 |_=>trivial
theorem scA_ren {v:Value}(h:scA ι n (trA (at0 ρ) v))(hm:scA (at0 id) m v):scA (fun k=>ι (ρ k)) m v:=by
 cases v with
 |agg cs =>
  intro x hx
  refine scS_ren (n:=n) (h _ ?_) (hm x hx)
  simp only [Array.toList_map,List.mem_map]
  exact⟨x,hx,rfl⟩
 |pointer a=>have:=scS_ren (ι:=ι) (ρ:=ρ) (n:=n) (m:=m) (v:=.pointer a);cases a <;> exact this h hm
 |slice a l c=>have:=scS_ren (ι:=ι) (ρ:=ρ) (n:=n) (m:=m) (v:=.slice a l c);cases a <;> exact this h hm
 |map a=>have:=scS_ren (ι:=ι) (ρ:=ρ) (n:=n) (m:=m) (v:=.map a);cases a <;> exact this h hm
 |func f a c=>exact scS_ren (ι:=ι) (ρ:=ρ) (n:=n) (m:=m) (v:=.func f a c) h hm
 |tuple c=>exact hm.elim
 |_=>trivial
theorem scT_ren {v:Value}(h:scT ι n (ren ρ v))(hm:nmT m v):scT (fun k=>ι (ρ k)) m v:=by
 unfold ren at h
 unfold nmT at hm
 cases v with
 |tuple cs =>
  intro x hx
  refine scA_ren (n:=n) (h _ ?_) (hm x hx)
  simp only [Array.toList_map,List.mem_map]
  exact⟨x,hx,rfl⟩
 |pointer a=>have:=scA_ren (ι:=ι) (ρ:=ρ) (n:=n) (m:=m) (v:=.pointer a);cases a <;> exact this h hm
 |slice a l c=>have:=scA_ren (ι:=ι) (ρ:=ρ) (n:=n) (m:=m) (v:=.slice a l c);cases a <;> exact this h hm
 |map a=>have:=scA_ren (ι:=ι) (ρ:=ρ) (n:=n) (m:=m) (v:=.map a);cases a <;> exact this h hm
 |func f a c=>exact scA_ren (ι:=ι) (ρ:=ρ) (n:=n) (m:=m) (v:=.func f a c) h hm
 |agg c=>exact scA_ren (ι:=ι) (ρ:=ρ) (n:=n) (m:=m) (v:=.agg c) h hm
 |_=>trivial
theorem gS_ren {v:Value}(h:gS (trS (at0 ρ) v)=true):gS v=true:=by
 cases v with
 |pointer a=>cases a with
  |none=>rfl
  |some a=>simp [trS,trP,at0,gS] at h
 |slice a n c=>cases a with
  |none=>rfl
  |some a=>simp [trS,trP,at0,gS] at h
 |map a=>cases a with
  |none=>rfl
  |some a=>simp [trS,trP,at0,gS] at h
 |func f a c =>
  cases f with
  |func f=>simpa [trS,trFn,gS] using h
  |yield l=>simp [trS,trFn,at0,gS] at h
  |_=>simp [trS,trFn,gS] at h
 |_=>exact h
theorem allG_ren {l:List Value}(h:allG (l.map (ren1 ρ))=true):allG l=true :=
 allG_of fun v hv=>gS_ren (allG_mem h (List.mem_map_of_mem hv))
theorem ORel_ren {B:Nat}{w:World}{o0 o:AObj}{l:Loc}(h:ORel ι B w o l)(hs:OSc ι n o)(hr:ObjRen ρ m o0 o):ORel (fun k=>ι (ρ k)) B w o0 l:=by
 cases o0 with
 |cells wr0 g0 sz0 cs0 =>
  cases o with
  |cells wr g sz cs =>
   obtain⟨rfl,rfl,rfl,rfl,hn⟩:=hr
   cases l with
   |nil p =>
    have h1:cs0.map (ren1 ρ)=[]∧(sz0=0∨wr0=true→p.isSome=true):=by cases wr0 <;> exact h
    have h2:cs0=[]:=by simpa using h1.1
    cases wr0 <;> exact⟨h2,h1.2⟩
   |lay b off e =>
    cases wr0 with
    |true =>
     obtain⟨h1,h2,arr,t,h3,h4,h5⟩:=h
     refine⟨h1,fun hg=>allG_ren (h2 hg),arr,t,h3,by simpa using h4,fun i v hv=>?_⟩
     rw [← trS_ren (n:=n) (hs _ (List.mem_map_of_mem (List.mem_of_getElem? hv)))]
     exact h5 i _ (by rw [List.getElem?_map,hv];rfl)
    |false =>
     obtain⟨h1,h2,h5⟩:=h
     refine⟨h1,fun hg=>allG_ren (h2 hg),fun i v hv=>?_⟩
     rw [← trS_ren (n:=n) (hs _ (List.mem_map_of_mem (List.mem_of_getElem? hv)))]
     exact h5 i _ (by rw [List.getElem?_map,hv];rfl)
  |_=>exact hr.elim
 |map es0 =>
  cases o with
  |map es =>
   obtain⟨rfl,hn⟩:=hr
   cases l with
   |nil p=>exact h.elim
   |lay b off e =>
    obtain⟨h1,ents,clock,h2,h3,h4,h5⟩:=h
    refine⟨h1,ents,clock,h2,h3.trans ?_,fun x hx=>h4 (x.1,ren1 ρ x.2) (List.mem_map_of_mem hx),h5⟩
    rw [List.map_map]
    apply List.map_congr_left
    intro x hx
    simp only [Function.comp_apply,ren1]
    rw [trS_ren (n:=n) (hs (x.1,ren1 ρ x.2) (List.mem_map_of_mem hx))]
  |_=>exact hr.elim
 |zero =>
  cases o with
  |zero=>cases l <;> exact h
  |_=>exact hr.elim
 |iter m0 s0 t0 q0 =>
  cases o with
  |iter m s t q =>
   obtain⟨rfl,rfl,rfl,rfl,_⟩:=hr
   cases l with
   |nil p=>exact h.elim
   |lay b off e=>exact h
  |_=>exact hr.elim
 |_=>exact hr.elim
theorem OSc_ren {o0 o:AObj}(h:OSc ι n o)(hr:ObjRen ρ m o0 o):OSc (fun k=>ι (ρ k)) m o0:=by
 cases o0 with
 |cells wr0 g0 sz0 cs0 =>
  cases o with
  |cells wr g sz cs =>
   obtain⟨rfl,rfl,rfl,rfl,hn⟩:=hr
   exact fun v hv=>scS_ren (n:=n) (h _ (List.mem_map_of_mem hv)) (hn v hv)
  |_=>exact hr.elim
 |map es0 =>
  cases o with
  |map es =>
   obtain⟨rfl,hn⟩:=hr
   exact fun x hx=>scS_ren (n:=n) (h (x.1,ren1 ρ x.2) (List.mem_map_of_mem hx)) (hn x hx)
  |_=>exact hr.elim
 |zero=>trivial
 |iter m0 s0 t0 q0 =>
  cases o with
  |iter m s t q=>exact hr.2.2.2.2
  |_=>exact hr.elim
 |_=>exact hr.elim
theorem ObjRen.alone {o0 o:AObj}(hr:ObjRen ρ m o0 o)(h:o0.alone=true):o.alone=true:=by
 cases o0 <;> cases o <;> first|exact hr.elim|(obtain⟨rfl,_⟩:=hr;exact h)|exact h
variable {b:Nat}{e0 e:List (Nat × Value)}{h0 h:Heap}{n0 nx:Nat}
theorem RenOK.relH (r:RenOK b ρ e0 h0 n0 e h nx){B:Nat}{w:World}(H:RelH ι B h nx w):RelH (fun k=>ι (ρ k)) B h0 n0 w:=by
 refine⟨fun k o hk=>?_,fun k k' o o' h1 h2 hne ha q hq=>?_,fun k o hk=>(r.heap k o hk).1,H.size,fun k o hk=>?_⟩
 ·obtain⟨_,o',h1,h2⟩:=r.heap k o hk
  exact ORel_ren (H.obj _ _ h1) (H.sc _ _ h1) h2
 ·obtain⟨_,p,k1,k2⟩:=r.heap k o h1
  obtain⟨_,p',k3,k4⟩:=r.heap k' o' h2
  exact H.sep _ _ p p' k1 k3 (fun e=>hne (r.inj k k' o o' h1 h2 e)) (k2.alone ha) q hq
 ·obtain⟨_,o',h1,h2⟩:=r.heap k o hk
  exact OSc_ren (H.sc _ _ h1) h2
theorem RenOK.envOK (r:RenOK b ρ e0 h0 n0 e h nx){a:Act}(H:EnvOK ι nx e a):EnvOK (fun k=>ι (ρ k)) n0 e0 a:=by
 intro t v hv
 obtain⟨h1,h2⟩:=r.env t v hv
 obtain⟨h3,h4⟩:=H t _ h1
 exact⟨by rw [← tr_ren h4];exact h3,scT_ren h4 h2⟩
end
end Go.Aw
end

noncomputable section
namespace Go.Aw
open Go.RowKit
def vstep (A:Ar)(T:Tab)(C:VC)(Y:VY)(tn:Nat)(ops:List Oper)(o:Oper)(e:List (Nat × Value))(h:Heap)(nx:Nat)(K:KS):Prop :=
 vguard A ops e o.guard (fun e=>vop A T C Y e h nx o.op fun v h' nx'=>vput tn e o.dst v fun e'=>K e' h' nx') (fun e=>vput tn e o.dst undef fun e'=>K e' h nx)
def allM (l:List Nat):List Nat→Bool
 |[]=>true
 |j::r=>match memB j l with|true=>allM l r|false=>false
theorem allM_iff {l m:List Nat}:allM l m=true↔∀ j∈m,j∈l:=by
 induction m with
 |nil=>simp [allM]
 |cons x r ih =>
  simp only [allM]
  split
  ·rename_i h
   rw [ih]
   constructor
   ·intro h2 j hj
    rcases List.mem_cons.1 hj with rfl|hj
    ·exact memB_iff.1 h
    ·exact h2 j hj
   ·exact fun h2 j hj=>h2 j (.tail _ hj)
  ·rename_i h
   constructor
   ·intro h2;cases h2
   ·intro h2
    rw [memB_iff.2 (h2 x (.head _))] at h
    cases h
def readyL (all:List Oper)(done:List Nat):List Oper→Nat→List Nat
 |[],_=>[]
 |o::r,i=>match memB i done with
  |true=>readyL all done r (i+1)
  |false=>(match allM done (predsOf o) with|true=>i::readyL all done r (i+1)|false=>readyL all done r (i+1))
theorem readyL_mem {all:List Oper}{done:List Nat}:∀ {l:List Oper} {i k:Nat},k∈readyL all done l i↔∃ j o,k=i+j∧getL l j=some o∧k∉done∧∀ x∈predsOf o,x∈done:=by
 intro l
 induction l with
 |nil =>
  intro i k
  constructor
  ·intro h;cases h
  ·rintro ⟨j,o,_,h,_⟩
   rw [getL_eq] at h
   simp at h
 |cons p r ih =>
  intro i k
  have shift:(∃ j o,k=i+1+j∧getL r j=some o∧k∉done∧∀ x∈predsOf o,x∈done)→∃ j o,k=i+j∧getL (p::r) j=some o∧k∉done∧∀ x∈predsOf o,x∈done:=by
   rintro ⟨j,o,h1,h2,h3⟩
   refine⟨j+1,o,by omega,?_,h3⟩
   rw [getL_eq] at h2 ⊢
   simpa using h2
  have back:(∃ j o,k=i+j∧getL (p::r) j=some o∧k∉done∧∀ x∈predsOf o,x∈done)→(k=i∧i∉done∧∀ x∈predsOf p,x∈done)∨∃ j o,k=i+1+j∧getL r j=some o∧k∉done∧∀ x∈predsOf o,x∈done:=by
   rintro ⟨j,o,h1,h2,h3⟩
   cases j with
   |zero =>
    rw [getL_eq] at h2
    simp at h2
    subst h2
    exact .inl ⟨by omega,by rw [show i=k by omega];exact h3.1,h3.2⟩
   |succ j =>
    refine .inr ⟨j,o,by omega,?_,h3⟩
    rw [getL_eq] at h2 ⊢
    simpa using h2
  simp only [readyL]
  split
  ·rename_i hm
   rw [ih]
   refine⟨shift,fun h=>?_⟩
   rcases back h with ⟨_,hn,_⟩|h
   ·exact absurd (memB_iff.1 hm) hn
   ·exact h
  ·rename_i hm
   have hn:i∉done:=fun h=>by rw [memB_iff.2 h] at hm;cases hm
   split
   ·rename_i ha
    rw [List.mem_cons,ih]
    constructor
    ·rintro (rfl|h)
     ·exact⟨0,p,rfl,by rw [getL_eq];rfl,hn,allM_iff.1 ha⟩
     ·exact shift h
    ·intro h
     rcases back h with ⟨h,_⟩|h
     ·exact .inl h
     ·exact .inr h
   ·rename_i ha
    rw [ih]
    refine⟨shift,fun h=>?_⟩
    rcases back h with ⟨_,_,h⟩|h
    ·rw [allM_iff.2 h] at ha;cases ha
    ·exact h
def vall (F:Nat→Prop):List Nat→Prop
 |[]=>True
 |[i]=>F i
 |i::r=>F i∧vall F r
theorem vall_iff {F:Nat→Prop}:∀ {l:List Nat},vall F l↔∀ i∈l,F i
 |[]=>by simp [vall]
 |[i]=>by simp [vall]
 |i::j::r=>by
  rw [show vall F (i::j::r)=(F i∧vall F (j::r)) from rfl,vall_iff]
  simp
def vany (A:Ar)(T:Tab)(C:VC)(Y:VY)(tn:Nat)(ops:List Oper)(K:KS):Nat→List Nat→KS
 |0,_=>K
 |n+1,done=>fun e h nx=>match readyL ops done ops 0 with
  |[]=>K e h nx
  |i::r=>vall (fun j=>match getL ops j with|some o=>vstep A T C Y tn ops o e h nx (vany A T C Y tn ops K n (j::done))|none=>False) (i::r)
section
variable {P:Program}{T:Tab}{C:VC}{Y:VY}{ops:Array Oper}
variable {B:Nat}{w0:World}{ιb:Nat→Loc}{nxb tn:Nat}{ds:List Deferred}{K:KS}
theorem vstep_ok (hT:TabOK P T)(hC:CallsOK P C)(hY:YieldsOK P Y)(r:Option Nat){Q:Exit→Act→World→Prop}{i:Nat}{o:Oper}(ho:getL ops.toList i=some o){ι:Nat→Loc}{e:List (Nat × Value)}{h:Heap}{nx:Nat}{a:Act}{w:World}
  (hl:vstep std T C Y tn ops.toList o e h nx K) (I:Inv B w0 ιb nxb tn ds ι e h nx a w) {next:Act→World→Prop}
  (hQ:∀ ι e h nx a w,K e h nx→Inv B w0 ιb nxb tn ds ι e h nx a w→next a w):wpOpIn (Fr r) 0 P ops Q i next a w:=by
 have hoo:ops[i]? = some o:=by rw [getL_eq] at ho;simpa using ho
 unfold wpOpIn
 simp only [hoo]
 unfold vstep at hl
 obtain⟨env1,he1,hcase⟩:=vguard_ok I.env hl
 rcases hcase with ⟨hw,hl⟩|⟨hw,hl⟩
 ·rw [if_pos hw]
  refine (vop_ok hT hC hY he1 I.heap hl).upon (vop_nodefer hl) rfl r _ _ fun v h' nx' ι' w' k1 k2 k3 k4 k5 k6=>?_
  obtain⟨env2,k7,k8,k9,k10⟩:=vput_ok (he1.names k6 k5) I.size k1 k2
  exact hQ ι' env2 h' nx' _ w' k7 (I.step k8 k3 k4 k5 k6 k9 k10)
 ·rw [hw]
  refine⟨fun _ _=>trivial,?_⟩
  obtain⟨env2,k7,k8,k9,k10⟩:=vput_ok he1 I.size hl (v:=undef) (scT_g rfl)
  rw [tr_g (show gT undef=true from rfl)] at k8 k9 k10
  exact hQ ι env2 h nx _ w k7 (I.step k8 I.heap (Bel.refl _ _) (fun _ _=>rfl) (Nat.le_refl _) k9 k10)
theorem ready_same {listed:Array Bool}(hs:listed.size=ops.size){done:List Nat}(hd:∀ i,Lst listed i↔i∈done){i:Nat}:i∈Region.ready .any ops listed↔i∈readyL ops.toList done ops.toList 0:=by
 rw [ready_iff hs,readyL_mem]
 constructor
 ·rintro ⟨h1,h2,h3⟩
  have ho:getL ops.toList i=some ops[i]:=by rw [getL_eq];simp [h1]
  refine⟨i,ops[i],by omega,ho,fun h=>h2 ((hd i).2 h),fun x hx=>(hd x).1 (h3 x ?_)⟩
  unfold predsAt
  rw [ho]
  exact hx
 ·rintro ⟨j,o,h1,h2,h3,h4⟩
  have hij:i=j:=by omega
  subst hij
  have hlt:i<ops.size:=by
   rw [getL_eq] at h2
   have:=(List.getElem?_eq_some_iff.1 h2).1
   simpa using this
  refine⟨hlt,fun h=>h3 ((hd i).1 h),fun x hx=>(hd x).2 (h4 x ?_)⟩
  unfold predsAt at hx
  rw [h2] at hx
  exact hx
theorem vany_ok (hT:TabOK P T)(hC:CallsOK P C)(hY:YieldsOK P Y)(r:Option Nat){Q:Exit→Act→World→Prop}
  (hQ:∀ ι e h nx a w,K e h nx→Inv B w0 ιb nxb tn ds ι e h nx a w→Q .normal a w):∀ (n:Nat) (listed:Array Bool) (done:List Nat) (ι:Nat→Loc) (e:List (Nat × Value)) (h:Heap) (nx:Nat) (a:Act) (w:World),
  listed.size=ops.size→(∀ i,Lst listed i↔i∈done)→left ops.size listed≤n→vany std T C Y tn ops.toList K n done e h nx→Inv B w0 ιb nxb tn ds ι e h nx a w→wpAnyIn (Fr r) 0 P .any ops Q n listed a w:=by
 intro n
 induction n with
 |zero =>
  intro listed done ι e h nx a w hs hd hl hv I
  refine⟨?_,hQ ι e h nx a w hv I⟩
  refine List.eq_nil_iff_forall_not_mem.2 fun i hi=>?_
  obtain⟨h1,h2,_⟩:=(ready_iff hs).1 hi
  have:=left_set h1 hs h2
  omega
 |succ n ih =>
  intro listed done ι e h nx a w hs hd hl hv I
  simp only [vany] at hv
  split at hv
  ·rename_i hr
   have hno:∀ i,i∉Region.ready .any ops listed:=fun i hi=>by
    have:=(ready_same hs hd).1 hi
    rw [hr] at this
    cases this
   exact⟨fun _=>hQ ι e h nx a w hv I,fun i hi=>absurd hi (hno i)⟩
  ·rename_i i0 r0 hr
   rw [vall_iff] at hv
   refine⟨fun hn=>?_,fun i hi=>?_⟩
   ·exfalso
    have:i0∈Region.ready .any ops listed:=(ready_same hs hd).2 (by rw [hr];exact .head _)
    rw [hn] at this
    cases this
   ·obtain⟨h1,h2,_⟩:=(ready_iff hs).1 hi
    have hv':=hv i (by rw [← hr];exact (ready_same hs hd).1 hi)
    split at hv'
    case h_2=>exact hv'.elim
    rename_i o ho
    refine vstep_ok hT hC hY r ho hv' I fun ι e h nx a w hk J=>?_
    have hset:=Lst.set (listed:=listed) (i:=i) (by omega)
    refine ih _ (i::done) ι e h nx a w (by simp [hs]) (fun j=>?_) (by have:=left_set h1 hs h2;omega) hk J
    rw [hset]
    unfold adds
    rw [hd j,List.mem_cons]
theorem vanyR_ok (hT:TabOK P T)(hC:CallsOK P C)(hY:YieldsOK P Y)(hm:P.follows .mixedOrders=true){ι:Nat→Loc}{env:List (Nat × Value)}{h:Heap}{nx:Nat}{a:Act}{w:World}(I:Inv B w0 ιb nxb tn ds ι env h nx a w)
  (hl:vany std T C Y tn ops.toList K ops.size [] env h nx) (r:Option Nat) {id:Nat} {Q:Exit→Act→World→Prop} (hQ:∀ ι env h nx a w,K env h nx→Inv B w0 ιb nxb tn ds ι env h nx a w→Q .normal a w) :
  (Code.region id ops true).wpIn (Fr r) 0 P Q a w:=by
 refine wpIn_region_any hm ?_
 have H:=I.heap.drawn (w.drawn+1)
 have hb:Bel B w { w with drawn:=w.drawn+1 }:=⟨rfl,rfl,rfl,Nat.le_refl _,fun _ _=>rfl,Nat.le_succ _⟩
 have hno:∀ i,¬ Lst (Array.replicate ops.size false) i:=by
  intro i
  unfold Lst
  by_cases h:i<ops.size <;> simp [h]
 refine vany_ok hT hC hY r hQ ops.size _ [] ι env h nx a _ (by simp) (fun i=>⟨fun h=>absurd h (hno i),fun h=>by cases h⟩) ?_ hl ⟨I.env,H,I.below.trans hb,I.old,I.le,I.size,I.defers⟩
 unfold left
 exact Nat.le_trans (List.length_filter_le _ _) (by simp)
end
end Go.Aw
end

noncomputable section
namespace Go.Aw
open Go.RowKit
def viter (F:KS→KS)(n:Nat):KS:=@Nat.rec (fun _=>KS) (fun _ _ _=>False) (fun _ ih e h nx=>F ih e h nx) n
inductive LM where
 |fuel (n:Nat)
 |inv (b:Nat)
def LM.low:LM→Nat→Prop
 |.fuel _,_=>True
 |.inv b,n=>n≤b
def Into (b:Nat)(I:KS):KS:=fun e h nx=>∃ e0 h0 n0 ρ,I e0 h0 n0∧RenOK b ρ e0 h0 n0 e h nx
def vloop (M:LM)(F:KS→KS):KS:=fun e h nx =>
 match M with
 |.fuel n=>viter F n e h nx
 |.inv b=>∃ I:Nat→KS,(∃ n,Into b (I n) e h nx)∧∀ n e h nx,I n e h nx→F (fun e h nx=>∃ m,m<n∧Into b (I m) e h nx) e h nx
def vfirst (A:Ar)(T:Tab)(C:VC)(Y:VY)(tn:Nat)(ops:List Oper)(K:KS):Nat→List Nat→KS
 |0,_=>K
 |n+1,done=>fun e h nx=>match readyL ops done ops 0 with
  |[]=>K e h nx
  |j::_=>(match getL ops j with|some o=>vstep A T C Y tn ops o e h nx (vfirst A T C Y tn ops K n (j::done))|none=>False)
theorem det_vstep {A:Ar}{T:Tab}{C:VC}{Y:VY}(hC:DetC C)(hY:DetC Y){tn:Nat}{ops:List Oper}{o:Oper}{e:List (Nat × Value)}{h:Heap}{nx:Nat}:DetS (vstep A T C Y tn ops o e h nx):=by
 show DetS (fun K=>vstep A T C Y tn ops o e h nx K)
 unfold vstep
 exact detS_guard (F:=fun e K=>vop A T C Y e h nx o.op fun v h' nx'=>vput tn e o.dst v fun e'=>K e' h' nx') (G:=fun e K=>vput tn e o.dst undef fun e'=>K e' h nx)
  (fun e=>detS_bind (F:=fun v h' nx' K=>vput tn e o.dst v fun e'=>K e' h' nx') (det_vop hC hY) fun v h' nx'=>detS_put (F:=fun e' K=>K e' h' nx') fun e'=>detS_pure)
  (fun e=>detS_put (F:=fun e' K=>K e' h nx) fun e'=>detS_pure)
theorem det_vfirst {A:Ar}{T:Tab}{C:VC}{Y:VY}(hC:DetC C)(hY:DetC Y){tn:Nat}{ops:List Oper}:∀ n done e h nx,DetS (fun K=>vfirst A T C Y tn ops K n done e h nx)
 |0,_,e,h,nx=>detS_pure
 |n+1,done,e,h,nx=>by
  intro K hl
  simp only [vfirst] at hl ⊢
  split at hl
  ·exact⟨e,h,nx,hl,fun K' q=>q⟩
  ·split at hl
   case h_2=>exact hl.elim
   rename_i o ho
   obtain⟨e1,h1,n1,q1,q2⟩:=det_vstep hC hY _ hl
   obtain⟨e2,h2,n2,q3,q4⟩:=det_vfirst hC hY n _ e1 h1 n1 K q1
   exact⟨e2,h2,n2,q3,fun K' q=>q2 _ (q4 K' q)⟩
def vregA (A:Ar)(T:Tab)(C:VC)(Y:VY)(tn:Nat)(M:LM)(ops:Array Oper):List (Nat × Value)→Heap→Nat→KS→Prop:=fun e h nx K =>
 match M with
 |.fuel _=>vfirst A T C Y tn ops.toList (fun _ _ _=>∃ e0 h0 n0,vany A T C Y tn ops.toList (Into nx fun e' h' n'=>e'=e0∧h'=h0∧n'=n0) ops.size [] e h nx∧K e0 h0 n0) ops.size [] e h nx
 |.inv b=>∃ I:KS,vany A T C Y tn ops.toList (fun e h nx=>I e h nx∨Into b I e h nx) ops.size [] e h nx∧∀ e h nx,I e h nx→K e h nx
def vregS (A:Ar)(T:Tab)(C:VC)(Y:VY)(tn:Nat)(M:LM)(ops:List Oper)(e:List (Nat × Value))(h:Heap)(nx:Nat)(K:KS):Prop :=
 match hasNext ops with
 |false=>vops A T C Y tn ops ops e h nx K
 |true=>(match M with
  |.fuel _=>False
  |.inv _=>vopsN A T C Y tn ops ops e h nx K)
theorem det_vregS {A:Ar}{T:Tab}{C:VC}{Y:VY}(hC:DetC C)(hY:DetC Y){tn:Nat}{n:Nat}{ops:List Oper}{e:List (Nat × Value)}{h:Heap}{nx:Nat}:DetS (vregS A T C Y tn (.fuel n) ops e h nx):=by
 intro K hl
 unfold vregS at *
 split at hl
 ·exact det_vops hC hY _ _ _ _ K hl
 ·exact hl.elim
abbrev VR:=Operand→Array Tmp→Code→Code→KS→(Nat→KS)→KS→KS
def vcode (A:Ar)(T:Tab)(C:VC)(Y:VY)(tn:Nat)(PL:Nat→Option Plan)(M:LM)(R:VR)(c:Code):KS→(Nat→KS)→KS→KS :=
 @Code.rec (fun _=>KS→(Nat→KS)→KS→KS) (fun kn _ _=>kn)
  (fun id ops draw kn _ _ e h nx=>match draw with
   |false=>vregS A T C Y tn M ops.toList e h nx kn
   |true=>(match PL id with|some p=>vregion A T C Y tn ops.toList p e h nx kn|none=>vregA A T C Y tn M ops e h nx kn))
  (fun _ _ iha ihb kn kx kr=>iha (ihb kn kx kr) kx kr)
  (fun c _ _ iht ihf kn kx kr e h nx=>match opv e c with
   |some (.bool b)=>br b (fun _=>iht kn kx kr e h nx) (fun _=>ihf kn kx kr e h nx)
   |_=>False)
  (fun id _ ih kn kx kr=>ih kn (fun j=>match Nat.beq j id with|true=>kn|false=>kx j) kr)
  (fun _ ih _ kx kr=>vloop M (fun k=>ih k kx kr))
  (fun g ps as bd _ _ kn kx kr=>R g ps as bd kn kx kr)
  (fun id _ kx _=>kx id)
  (fun _ ih kn kx kr=>ih kn kx kr)
  (fun _ kn _ _=>kn)
  (fun _ _ _ _ _ _ _=>False)
  (fun _ _ kr=>kr)
  (fun _ _ _ _ _ _ _=>False) c
section
variable {A:Ar}{T:Tab}{C:VC}{Y:VY}{tn:Nat}{PL:Nat→Option Plan}{M:LM}{R:VR}{kn kr:KS}{kx:Nat→KS}{e:List (Nat × Value)}{h:Heap}{nx:Nat}
theorem vcode_region {id:Nat}{ops:Array Oper}{draw:Bool}:vcode A T C Y tn PL M R (.region id ops draw) kn kx kr e h nx=match draw with
 |false=>vregS A T C Y tn M ops.toList e h nx kn
 |true=>(match PL id with|some p=>vregion A T C Y tn ops.toList p e h nx kn|none=>vregA A T C Y tn M ops e h nx kn):=rfl
theorem vcode_cond {c:Operand}{t f:Code}:vcode A T C Y tn PL M R (.cond c t f) kn kx kr e h nx=match opv e c with
 |some (.bool b)=>br b (fun _=>vcode A T C Y tn PL M R t kn kx kr e h nx) (fun _=>vcode A T C Y tn PL M R f kn kx kr e h nx)
 |_=>False:=rfl
theorem vcode_block {id:Nat}{b:Code}:vcode A T C Y tn PL M R (.block id b) kn kx kr e h nx=vcode A T C Y tn PL M R b kn (fun j=>match Nat.beq j id with|true=>kn|false=>kx j) kr e h nx:=rfl
theorem vcode_loop {b:Code}:vcode A T C Y tn PL M R (.loop b) kn kx kr e h nx=vloop M (fun k=>vcode A T C Y tn PL M R b k kx kr) e h nx:=rfl
end
def plansOK (PL:Nat→Option Plan):Code→Bool
 |.region id ops true=>(match PL id with|some p=>planOK ops p|none=>true)
 |.seq a b=>plansOK PL a&&plansOK PL b
 |.cond _ a b=>plansOK PL a&&plansOK PL b
 |.block _ b=>plansOK PL b
 |.loop b=>plansOK PL b
 |.scope b=>plansOK PL b
 |_=>true
def markOf (b:Nat):Deferred:={ target:=.collected b,args:=#[] }
def Marks (B0 B:Nat)(w:World)(ds:List Deferred):Prop:=∃ bs:List Nat,ds=bs.map markOf∧bs.Nodup∧∀ b∈bs,B0≤b∧b<B∧w.heap[b]? = some (.deferred (some []))
def CInv (B0:Nat)(w0:World)(ι0:Nat→Loc)(nx0 tn:Nat)(ι:Nat→Loc)(env:List (Nat × Value))(h:Heap)(nx:Nat)(a:Act)(w:World):Prop :=
 ∃ B w1 ι1 nx1 ds,B0≤B∧Bel B0 w0 w1∧(∀ k,k<nx0→ι1 k=ι0 k)∧nx0≤nx1∧Marks B0 B w1 ds∧Inv B w1 ι1 nx1 tn ds ι env h nx a w
section
variable {P:Program}{T:Tab}{C:VC}{Y:VY}{B0:Nat}{w0:World}{ι0:Nat→Loc}{nx0 tn:Nat}{PL:Nat→Option Plan}{M:LM}{R:VR}
structure Ends (B0:Nat) (w0:World) (ι0:Nat→Loc) (nx0 tn:Nat) (kn:KS) (kx:Nat→KS) (kr:KS) (Q:Exit→Act→World→Prop):Prop where
 n:∀ ι e h nx a w,kn e h nx→CInv B0 w0 ι0 nx0 tn ι e h nx a w→Q .normal a w
 x:∀ id ι e h nx a w,kx id e h nx→CInv B0 w0 ι0 nx0 tn ι e h nx a w→Q (.exit id) a w
 r:∀ ι e h nx a w,kr e h nx→CInv B0 w0 ι0 nx0 tn ι e h nx a w→Q .ret a w
def RangeOK (P:Program)(r:Option Nat)(tn:Nat)(R:VR):Prop:=∀ g ps as bd kn kx kr e h nx,R g ps as bd kn kx kr e h nx→∀ B0 w0 ι0 nx0 Q,Ends B0 w0 ι0 nx0 tn kn kx kr Q→∀ ι a w,CInv B0 w0 ι0 nx0 tn ι e h nx a w →
 (Code.rangeFunc g ps as bd).wpIn (Fr r) 0 P Q a w
theorem stepR_scope {b:Frame}{a:Act}{k:List Item}{cs:List Frame}{w:World}{c:Code}:step P (lone (b.atR a (.code (.scope c)::k)) cs w)=.next (lone (b.atR a (.code c::.inScope c::k)) cs w) :=
 step_lone_go (by simp [stepG,stepG.exec,Frame.atR])
theorem stepR_inScope {b:Frame}{a:Act}{k:List Item}{cs:List Frame}{w:World}{c:Code}:step P (lone (b.atR a (.inScope c::k)) cs w)=.next (lone (b.atR a k) cs w) :=
 step_lone_go (by simp [stepG,stepG.exec,Frame.atR])
theorem wpIn_scope_straight {F:Fence}{n:Nat}{c:Code}{Q:Exit→Act→World→Prop}{a:Act}{w:World}(h:c.wpIn F n P (fun e a w=>(∀ l,e≠.goto l)∧Q e a w) a w):(Code.scope c).wpIn F n P Q a w:=by
 intro b k cs hro hb hr
 have h0:(lone (b.atR a (.code (.scope c)::k)) cs w).fenced P F:=fenced_calm hb hr rfl
 obtain⟨e,a₁,w₁,⟨hg,hq⟩,harr⟩:=h b (.inScope c::k) cs hro hb hr
 cases e with
 |normal=>exact⟨.normal,a₁,w₁,hq,.head h0 stepR_scope (StepsIn.trans harr (.one (fenced_calm hb hr rfl) stepR_inScope))⟩
 |exit id =>
  have hx:exitTo id (.inScope c::k)=exitTo id k:=by simp [exitTo]
  exact⟨.exit id,a₁,w₁,hq,fun k' hk=>.head h0 stepR_scope (harr.1 k' (by rw [hx];exact hk)),
   fun hr' hk=>let ⟨k₁,h1,h2⟩:=harr.2 hr' (by rw [hx];exact hk);⟨k₁,h1,.head h0 stepR_scope h2⟩⟩
 |goto l=>exact absurd rfl (hg l)
 |ret=>exact⟨_,a₁,w₁,hq,.of_steps (.one h0 stepR_scope) harr⟩
 |panic ch=>exact⟨_,a₁,w₁,hq,.of_steps (.one h0 stepR_scope) harr⟩
 |outgrown=>exact⟨_,a₁,w₁,hq,.of_steps (.one h0 stepR_scope) harr⟩
theorem CInv.into {ι:Nat→Loc}{e:List (Nat × Value)}{h:Heap}{nx:Nat}{a:Act}{w:World}{b:Nat}{I:KS}(J:CInv B0 w0 ι0 nx0 tn ι e h nx a w)(hb:nx0≤b)(hi:Into b I e h nx):∃ ι' e' h' nx',I e' h' nx'∧CInv B0 w0 ι0 nx0 tn ι' e' h' nx' a w:=by
 obtain⟨e',h',nx',ρ,hI,r⟩:=hi
 obtain⟨B,w1,ι1,nx1,ds,h1,h2,h3,h4,h5,J⟩:=J
 refine⟨fun k=>ι (ρ k),e',h',nx',hI,B,w1,ι0,nx0,ds,h1,h2,fun _ _=>rfl,Nat.le_refl _,h5,r.envOK J.env,r.relH J.heap,J.below,fun k hk=>?_,Nat.le_trans hb r.le,J.size,J.defers⟩
 rw [r.fix k (Nat.lt_of_lt_of_le hk hb)]
 exact (J.old k (Nat.lt_of_lt_of_le hk h4)).trans (h3 k hk)
theorem least {p:Nat→Prop}(h:∃ n,p n):∃ m,p m∧∀ k,p k→m≤k:=by
 obtain⟨n,hn⟩:=h
 induction n using Nat.strongRecOn with
 |_ n ih =>
  by_cases hk:∃ k,p k∧k<n
  ·obtain⟨k,h1,h2⟩:=hk
   exact ih k h2 h1
  ·exact⟨n,hn,fun k h1=>Nat.le_of_not_lt fun h2=>hk ⟨k,h1,h2⟩⟩
theorem wpIn_loop_ks {r:Option Nat}{c:Code}{Q:Exit→Act→World→Prop}{a:Act}{w:World}{I:Nat→Act→World→Prop}{n:Nat}(h₀:I n a w)
  (round:∀ n a w,I n a w→c.wpIn (Fr r) 0 P (Exit.then (fun a' w'=>∃ m,m<n∧I m a' w') Q) a w):(Code.loop c).wpIn (Fr r) 0 P Q a w:=by
 classical
 refine wpIn_loop (fun a w=>∃ n,I n a w) (fun a w=>if h:∃ n,I n a w then Classical.choose (least h) else 0) ⟨n,h₀⟩ fun a w h=>?_
 have hs:=Classical.choose_spec (least h)
 refine Code.wpIn_mono (fun e a' w' hq=>?_) (round _ a w hs.1)
 cases e <;> try exact hq
 obtain⟨m,hm,hI⟩:=hq
 refine⟨⟨m,hI⟩,?_⟩
 have h':∃ n,I n a' w':=⟨m,hI⟩
 simp only [dif_pos h',dif_pos h]
 exact Nat.lt_of_le_of_lt ((Classical.choose_spec (least h')).2 m hI) hm
end
end Go.Aw
end

noncomputable section
namespace Go.Aw
open Go.RowKit
section
variable {P:Program}{T:Tab}{C:VC}{Y:VY}{tn:Nat}{PL:Nat→Option Plan}{M:LM}{R:VR}
def RMono (R:VR):Prop:=∀ g ps as bd (kn kn':KS) (kx kx':Nat→KS) (kr kr':KS) e h nx,(∀ e h nx,kn e h nx→kn' e h nx)→(∀ id e h nx,kx id e h nx→kx' id e h nx)→(∀ e h nx,kr e h nx→kr' e h nx)→R g ps as bd kn kx kr e h nx→R g ps as bd kn' kx' kr' e h nx
theorem vregS_ok (hT:TabOK P T)(hC:CallsOK P C)(hY:YieldsOK P Y)(r:Option Nat){B:Nat}{w1:World}{ι1:Nat→Loc}{nx1:Nat}{ds:List Deferred}{ops:Array Oper}{Q:Exit→Act→World→Prop}{K:KS}{ι:Nat→Loc}{e:List (Nat × Value)}{h:Heap}{nx:Nat}{a:Act}{w:World}
  (hl:vregS std T C Y tn M ops.toList e h nx K) (J:Inv B w1 ι1 nx1 tn ds ι e h nx a w) (hQ:∀ ι' env' h' nx' a' w',K env' h' nx'→Inv B w1 ι1 nx1 tn ds ι' env' h' nx' a' w'→Q .normal a' w'):wpListIn (Fr r) 0 P ops Q ops.toList a w:=by
 unfold vregS at hl
 split at hl
 ·exact vops_ok hT hC hY r ops.toList ι e h nx a w hl J hQ
 ·split at hl
  ·exact hl.elim
  ·exact vopsN_ok hT hC hY r ops.toList ι e h nx a w hl J hQ
theorem vcode_ok (hT:TabOK P T)(hC:CallsOK P C)(hY:YieldsOK P Y)(hD:DetC C)(hDY:DetC Y)(hm:P.follows .mixedOrders=true)(r:Option Nat)(hR:RangeOK P r tn R)(hRm:RMono R) :
  ∀ (c:Code),plansOK PL c=true→∀ (kn:KS) (kx:Nat→KS) (kr:KS) e h nx,vcode std T C Y tn PL M R c kn kx kr e h nx→∀ B0 w0 ι0 nx0 Q,M.low nx0→Ends B0 w0 ι0 nx0 tn kn kx kr Q→∀ ι a w,CInv B0 w0 ι0 nx0 tn ι e h nx a w →
    c.wpIn (Fr r) 0 P Q a w:=by
 intro c
 induction c with
 |skip=>exact fun _ kn kx kr e h nx hl B0 w0 ι0 nx0 Q hM E ι a w I=>wpIn_skip (E.n ι e h nx a w hl I)
 |region id ops draw =>
  intro hp kn kx kr e h nx hl B0 w0 ι0 nx0 Q hM E ι a w I
  obtain⟨B,w1,ι1,nx1,ds,h1,h2,h3,h4,h5,J⟩:=I
  simp only [vcode_region,vcode_cond,vcode_loop] at hl
  cases draw with
  |false =>
   refine wpIn_region_list (vregS_ok hT hC hY r hl J fun ι' e' h' nx' a' w' hk J'=>?_)
   exact E.n ι' e' h' nx' a' w' hk ⟨B,w1,ι1,nx1,ds,h1,h2,h3,h4,h5,J'⟩
  |true =>
   simp only [plansOK] at hp
   simp only at hl
   cases hpl:PL id with
   |none =>
    rw [hpl] at hl
    simp only [vregA] at hl
    cases M with
    |fuel n =>
     obtain⟨ea,ha,na,⟨e0,h0,n0,hi,hK⟩,hr⟩:=det_vfirst hD hDY _ _ _ _ _ _ hl
     refine vanyR_ok hT hC hY hm J hi r fun ι' e' h' nx' a' w' hk J'=>?_
     obtain⟨ι2,e2,h2',nx2,⟨rfl,rfl,rfl⟩,k2⟩:=CInv.into ⟨B,w1,ι1,nx1,ds,h1,h2,h3,h4,h5,J'⟩ (Nat.le_trans h4 J.le) hk
     exact E.n ι2 _ _ _ a' w' hK k2
    |inv b =>
     obtain⟨I,hi,hI⟩:=hl
     refine vanyR_ok hT hC hY hm J hi r fun ι' e' h' nx' a' w' hk J'=>?_
     rcases hk with hk|hk
     ·exact E.n ι' e' h' nx' a' w' (hI _ _ _ hk) ⟨B,w1,ι1,nx1,ds,h1,h2,h3,h4,h5,J'⟩
     obtain⟨ι2,e2,h2',nx2,k1,k2⟩:=CInv.into ⟨B,w1,ι1,nx1,ds,h1,h2,h3,h4,h5,J'⟩ hM hk
     exact E.n ι2 e2 h2' nx2 a' w' (hI _ _ _ k1) k2
   |some p =>
    rw [hpl] at hl hp
    exact vregion_ok hT hC hY hD hm (planOK_spec hp) J hl r fun ι' e' h' nx' a' w' hk J'=>E.n ι' e' h' nx' a' w' hk ⟨B,w1,ι1,nx1,ds,h1,h2,h3,h4,h5,J'⟩
 |seq a b iha ihb =>
  intro hp kn kx kr e h nx hl B0 w0 ι0 nx0 Q hM E ι ac w I
  simp only [plansOK,Bool.and_eq_true] at hp
  refine wpIn_seq (iha hp.1 _ kx kr e h nx hl B0 w0 ι0 nx0 _ hM ⟨fun ι e h nx a w hk I=>?_,fun id ι e h nx a w hk I=>?_,fun ι e h nx a w hk I=>?_⟩ ι ac w I)
  ·exact ihb hp.2 kn kx kr e h nx hk B0 w0 ι0 nx0 Q hM E ι a w I
  ·exact E.x id ι e h nx a w hk I
  ·exact E.r ι e h nx a w hk I
 |cond c t f iht ihf =>
  intro hp kn kx kr e h nx hl B0 w0 ι0 nx0 Q hM E ι a w I
  simp only [plansOK,Bool.and_eq_true] at hp
  simp only [vcode_region,vcode_cond,vcode_loop] at hl
  split at hl
  case h_2=>exact hl.elim
  rename_i b hb
  have hc:a.eval c=.bool b:=by
   obtain⟨B,w1,ι1,nx1,ds,h1,h2,h3,h4,h5,J⟩:=I
   rw [(J.env.opv hb).1,tr_bool]
  rcases br_cases hl with ⟨rfl,hl⟩|⟨rfl,hl⟩
  ·exact wpIn_cond_true hc (iht hp.1 kn kx kr e h nx hl B0 w0 ι0 nx0 Q hM E ι a w I)
  ·exact wpIn_cond_false hc (ihf hp.2 kn kx kr e h nx hl B0 w0 ι0 nx0 Q hM E ι a w I)
 |block id b ih =>
  intro hp kn kx kr e h nx hl B0 w0 ι0 nx0 Q hM E ι a w I
  refine wpIn_block (ih hp _ _ kr e h nx hl B0 w0 ι0 nx0 (Exit.inBlock id Q) hM ⟨E.n,fun j ι e h nx a w hk I=>?_,E.r⟩ ι a w I)
  cases hb:Nat.beq j id with
  |true =>
   rw [hb] at hk
   simp only [Exit.inBlock,if_pos (beq_true hb)]
   exact E.n ι e h nx a w hk I
  |false =>
   rw [hb] at hk
   simp only [Exit.inBlock,if_neg (beq_false hb)]
   exact E.x j ι e h nx a w hk I
 |loop b ih =>
  intro hp kn kx kr e h nx hl B0 w0 ι0 nx0 Q hM E ι a w I
  simp only [vcode_region,vcode_cond,vcode_loop] at hl
  cases M with
  |fuel n0 =>
   refine wpIn_loop_ks (I:=fun n a w=>∃ ι e h nx,viter (fun k=>vcode std T C Y tn PL (.fuel n0) R b k kx kr) n e h nx∧CInv B0 w0 ι0 nx0 tn ι e h nx a w) (n:=n0) ⟨ι,e,h,nx,hl,I⟩ fun m a w hi=>?_
   obtain⟨ι,e,h,nx,h1,I⟩:=hi
   cases m with
   |zero=>exact h1.elim
   |succ m =>
    refine ih hp (viter (fun k=>vcode std T C Y tn PL (.fuel n0) R b k kx kr) m) kx kr e h nx h1 B0 w0 ι0 nx0 (Exit.then (fun a' w'=>∃ m',m'<m+1∧∃ ι e h nx,viter (fun k=>vcode std T C Y tn PL (.fuel n0) R b k kx kr) m' e h nx∧CInv B0 w0 ι0 nx0 tn ι e h nx a' w') Q) hM ⟨fun ι e h nx a w hk I=>?_,fun id ι e h nx a w hk I=>E.x id ι e h nx a w hk I,fun ι e h nx a w hk I=>E.r ι e h nx a w hk I⟩ ι a w I
    exact⟨m,Nat.lt_succ_self m,ι,e,h,nx,hk,I⟩
  |inv bs =>
   obtain⟨J,⟨n,h0⟩,hJ⟩:=hl
   obtain⟨ι',e',h',nx',h0',I'⟩:=I.into hM h0
   refine wpIn_loop_ks (I:=fun n a w=>∃ ι e h nx,J n e h nx∧CInv B0 w0 ι0 nx0 tn ι e h nx a w) (n:=n) ⟨ι',e',h',nx',h0',I'⟩ fun n a w hi=>?_
   obtain⟨ι,e,h,nx,h1,I⟩:=hi
   refine ih hp _ kx kr e h nx (hJ n e h nx h1) B0 w0 ι0 nx0 (Exit.then (fun a' w'=>∃ m,m<n∧∃ ι e h nx,J m e h nx∧CInv B0 w0 ι0 nx0 tn ι e h nx a' w') Q) hM ⟨fun ι e h nx a w hk I=>?_,fun id ι e h nx a w hk I=>E.x id ι e h nx a w hk I,fun ι e h nx a w hk I=>E.r ι e h nx a w hk I⟩ ι a w I
   obtain⟨m,hm,hk⟩:=hk
   obtain⟨ι',e',h',nx',hk',I'⟩:=I.into hM hk
   exact⟨m,hm,ι',e',h',nx',hk',I'⟩
 |rangeFunc g ps as bd _ _=>exact fun _ kn kx kr e h nx hl B0 w0 ι0 nx0 Q hM E ι a w I=>hR g ps as bd kn kx kr e h nx hl B0 w0 ι0 nx0 Q E ι a w I
 |exit id=>exact fun _ kn kx kr e h nx hl B0 w0 ι0 nx0 Q hM E ι a w I=>wpIn_exit (E.x id ι e h nx a w hl I)
 |ret=>exact fun _ kn kx kr e h nx hl B0 w0 ι0 nx0 Q hM E ι a w I=>wpIn_ret (E.r ι e h nx a w hl I)
 |label l=>exact fun _ kn kx kr e h nx hl B0 w0 ι0 nx0 Q hM E ι a w I=>wpIn_label (E.n ι e h nx a w hl I)
 |scope b ih =>
  intro hp kn kx kr e h nx hl B0 w0 ι0 nx0 Q hM E ι a w I
  refine wpIn_scope_straight (ih hp kn kx kr e h nx hl B0 w0 ι0 nx0 _ hM ⟨fun ι e h nx a w hk I=>⟨fun l he=>(by cases he),E.n ι e h nx a w hk I⟩,fun id ι e h nx a w hk I=>⟨fun l he=>(by cases he),E.x id ι e h nx a w hk I⟩,fun ι e h nx a w hk I=>⟨fun l he=>(by cases he),E.r ι e h nx a w hk I⟩⟩ ι a w I)
 |goto l=>exact fun _ _ _ _ _ _ _ hl=>hl.elim
 |refuse s=>exact fun _ _ _ _ _ _ _ hl=>hl.elim
end
end Go.Aw
end
