/-
  Parts of the proof, put together. No condition.
-/
import Derived.Test.YtjahkcbdecgbhaaGreatQBa
set_option linter.unusedSimpArgs false
set_option linter.unusedVariables false
noncomputable section
namespace Go.Aw
open Go.RowKit
def GF (k:Nat)(ι:Nat→Loc):Nat→Loc:=fun j=>if j=0 then ι k else ι (j - 1)
theorem FZ (k:Nat)(ι:Nat→Loc):GF k ι 0=ι k:=if_pos rfl
theorem tA (k:Nat)(ι:Nat→Loc)(j:Nat):GF k ι (1+j)=ι j:=by
 unfold GF;rw [if_neg (by omega),Nat.add_sub_cancel_left]
def PK (F:Heap)(nx:Nat):Prop:=1≤nx∧∀ j o,look F j=some o→0<j∧j<nx∧bU id nx o o
theorem bN {b n0 nx:Nat}{I:KS}{e0 e:List (Nat × Value)}{F:Heap}{o0 o:aV}(hF:PK F n0)(hI:I e0 ((0,o0)::F) n0)(he:∀ p∈e0,look e p.1=some (jH id p.2)∧BM n0 p.2)(ho:bU id n0 o0 o)(hb:b≤n0) :
  qJ b I e ((0,o)::F) nx:=by
 refine⟨e0,(0,o0)::F,n0,id,hI,fun t v hv=>he (t,v) (a8 hv),fun k q hk=>?_,fun k k' q q' _ _ e=>e,fun k _=>rfl,hb⟩;rw [aD] at hk;split at hk
 ·rename_i hb1;injection hk with hk;subst hk;have:=beq_true hb1;subst this;exact⟨hF.1,o,rfl,ho⟩
 ·obtain⟨h1,h2,h3⟩:=hF.2 k q hk;refine⟨h2,q,?_,h3⟩;show look ((0,o)::F) k=some q;rw [aD];rename_i hb1;rw [hb1];exact hk
theorem gC {n:Nat}:∀ (h:Heap) {j:Nat} {o:aV},look h j=some o→look (l8 n h) (n+j)=some (R8 n o)
 |[],j,o,hl=>(by cases hl)
 |(i,q)::r,j,o,hl=>by
  rw [aD] at hl;simp only [l8];rw [aD];split at hl
  ·rename_i hb;injection hl with hl;subst hl;have:=beq_true hb;subst this;rw [Nat.beq_refl]
  ·rename_i hb;have hne:Nat.beq (n+i) (n+j)=false:=by
    cases hb':Nat.beq (n+i) (n+j) with
    |false=>rfl
    |true =>
     have:=beq_true hb';have:i=j:=(by omega);subst this;rw [Nat.beq_refl] at hb;cases hb
   rw [hne];exact gC r hl
theorem K0 {ι:Nat→Loc}{σ:Nat→Nat}{n:Nat}{v:Value}(h:oG ι n v):oG (lH σ) n v:=by
 cases v with
 |pointer a=>cases a with
  |none=>trivial
  |some a=>exact⟨h.1,rfl⟩
 |slice a l c=>cases a with
  |none=>trivial
  |some a=>exact⟨h.1,fun hf=>by cases hf⟩
 |map a=>cases a with
  |none=>trivial
  |some a=>exact⟨h.1,rfl⟩
 |agg c=>exact h.elim
 |tuple c=>exact h.elim
 |_=>trivial
theorem aAw {ι:Nat→Loc}{σ:Nat→Nat}{n:Nat}{v:Value}(h:gN ι n v):gN (lH σ) n v:=by
 cases v with
 |func f a c =>
  refine⟨?_,fun x hx=>K0 (h.2 x hx)⟩;have h1:=h.1;cases f with
  |yield l=>exact⟨h1.1,rfl⟩
  |_=>trivial
 |pointer a=>have:=K0 (ι:=ι) (σ:=σ) (n:=n) (v:=.pointer a);cases a <;> exact this h
 |slice a l c=>have:=K0 (ι:=ι) (σ:=σ) (n:=n) (v:=.slice a l c);cases a <;> exact this h
 |map a=>have:=K0 (ι:=ι) (σ:=σ) (n:=n) (v:=.map a);cases a <;> exact this h
 |agg c=>exact h.elim
 |tuple c=>exact h.elim
 |_=>trivial
section
variable {ι ι0:Nat→Loc}{B n:Nat}{w:World}
theorem aE3 {v:Value}(hs:gN ι n v)(hι:∀ j,j<n→ι0 (1+j)=ι j):gN ι0 (1+n) (bO (fun k=>1+k) v) :=
 jP (m:=n) (gR (ι:=ι) (ι':=fun k=>ι0 (1+k)) (Nat.le_refl _) hι hs) (fun k hk=>by omega)
theorem aDV {v:Value}(hs:gN ι n v)(hι:∀ j,j<n→ι0 (1+j)=ι j):bS ι0 (bO (fun k=>1+k) v)=bS ι v:=by
 unfold bO;rw [iO (n:=1+n) (aE3 hs hι)];exact lV (ι:=ι) (ι':=fun k=>ι0 (1+k)) hι hs
theorem aE6 {v:Value}(hs:gN ι n v):CS (1+n) (bO (fun k=>1+k) v) :=
 jP (m:=n) (aAw hs) (fun k hk=>by omega)
theorem aHr {v:Value}(hs:gN ι n v):bO id (bO (fun k=>1+k) v)=bO (fun k=>1+k) v:=by
 unfold bO;rw [iO (n:=1+n) (aE6 hs)];rfl
theorem aBg {wr g:Bool}{sz:Nat}{cs:List Value}{l:Loc}(h:kG ι B w (.cells wr g sz cs) l)(hs:∀ v∈cs,gN ι n v)(hι:∀ j,j<n→ι0 (1+j)=ι j):kG ι0 B w (R8 1 (.cells wr g sz cs)) l:=by
 have hg:∀ {q:Prop},(g=true→c7 cs=true)→g=true→c7 (cs.map (bO fun k=>1+k))=true:=fun hq e=>uM fun v hv=>by
  obtain⟨u,hu,rfl⟩:=List.mem_map.1 hv;exact aDW (bA (hq e) hu)
 have key:∀ {Φ:Nat→Value→Prop},(∀ (i:Nat) v,cs[i]? = some v→Φ i (bS ι v))→∀ (i:Nat) v,(cs.map (bO fun k=>1+k))[i]? = some v→Φ i (bS ι0 v):=fun hΦ i v hv=>by
  rw [List.getElem?_map] at hv;obtain⟨u,hu,rfl⟩:=Option.map_eq_some_iff.1 hv;rw [aDV (hs u (List.mem_of_getElem? hu)) hι];exact hΦ i u hu
 cases l with
 |nil p =>
  have h1:cs=[]∧(sz=0∨wr=true→p.isSome=true):=(by cases wr <;> exact h);obtain⟨rfl,hz⟩:=h1;cases wr <;> exact⟨rfl,hz⟩
 |lay b o e =>
  cases wr with
  |true =>
   obtain⟨x1,x2,arr,t,x3,x4,x5⟩:=h;exact⟨x1,hg (q:=True) x2,arr,t,x3,by rw [List.length_map];exact x4,key (Φ:=fun i v=>arr[o+i]? = some v) x5⟩
  |false =>
   obtain⟨x1,x2,x3⟩:=h;exact⟨x1,hg (q:=True) x2,key (Φ:=fun i v=>w.cell? ⟨b,o+i,none⟩=some v) x3⟩
theorem WT {wr g:Bool}{sz:Nat}{cs:List Value}{l:Loc}(h:kG ι0 B w (R8 1 (.cells wr g sz cs)) l)(hs:∀ v∈cs,gN ι n v)(hι:∀ j,j<n→ι0 (1+j)=ι j)(hg0:g=true→c7 cs=true):kG ι B w (.cells wr g sz cs) l:=by
 have key:∀ {Φ:Nat→Value→Prop},(∀ (i:Nat) v,(cs.map (bO fun k=>1+k))[i]? = some v→Φ i (bS ι0 v))→∀ (i:Nat) v,cs[i]? = some v→Φ i (bS ι v):=fun hΦ i v hv=>by
  rw [← aDV (hs v (List.mem_of_getElem? hv)) hι];exact hΦ i _ (by rw [List.getElem?_map,hv];rfl)
 cases l with
 |nil p =>
  have h1:cs.map (bO fun k=>1+k)=[]∧(sz=0∨wr=true→p.isSome=true):=(by cases wr <;> exact h);have h2:cs=[]:=(by simpa using h1.1);cases wr <;> exact⟨h2,h1.2⟩
 |lay b o e =>
  cases wr with
  |true =>
   obtain⟨x1,x2,arr,t,x3,x4,x5⟩:=h;rw [List.length_map] at x4;exact⟨x1,hg0,arr,t,x3,x4,key (Φ:=fun i v=>arr[o+i]? = some v) x5⟩
  |false =>
   obtain⟨x1,x2,x3⟩:=h;exact⟨x1,hg0,key (Φ:=fun i v=>w.cell? ⟨b,o+i,none⟩=some v) x3⟩
end
theorem W2 (n:Nat)(o:aV):(R8 n o).alone=o.alone:=by cases o <;> rfl
section
variable {α:Type}(E:El α)
end
end Go.Aw
end

noncomputable section
namespace Go.Aw
def lS (p:Nat):Value:=.func (.func 209) #[] #[.pointer (some ⟨p,0,none⟩)]
theorem aD4 {ι:Nat→Loc}{k p:Nat}:tr ι (lS p)=tr (GF k ι) (lS (1+p)):=by
 simp [lS,tr,dO,bS,nW,dS,tA]
theorem aBu {ι:Nat→Loc}{k p n:Nat}(h:eL ι n (lS p)):eL (GF k ι) (1+n) (lS (1+p)):=by
 have h1:oG ι n (.pointer (some ⟨p,0,none⟩)):=h.2 _ (by simp);refine⟨trivial,fun v hv=>?_⟩;simp only [List.mem_cons,List.not_mem_nil,or_false] at hv;subst hv;exact⟨by have:=h1.1;show 1+p<1+n;simp only at this;omega,by show (GF k ι (1+p)).gG=true;rw [tA];exact h1.2⟩
theorem aAg {F:Heap}{p:Nat}{D:List Dt}(h:nH F p D):nH (l8 1 F) (1+p) D:=by
 obtain⟨b,c,k0,k1,wr,g,sz,r0,wr1,g1,sz1,r1,wr2,g2,sz2,cs,n0,c0,n1,c1,f,cc,h1,h2,h3,h4⟩:=h;refine⟨1+b,1+c,1+k0,1+k1,wr,g,sz,_,wr1,g1,sz1,_,wr2,g2,sz2,cs.map (bO fun k=>1+k),n0,c0,n1,c1,f,cc,gC F h1,gC F h2,gC F h3,?_⟩;rw [← List.map_take,h4];exact cB (aI rC D)
theorem Q6 {F:Heap}{p:Nat}{D:List Dt}(h:nH F p D):nH (dW F) p D:=by
 obtain⟨b,c,k0,k1,wr,g,sz,r0,wr1,g1,sz1,r1,wr2,g2,sz2,cs,n0,c0,n1,c1,f,cc,h1,h2,h3,h4⟩:=h;exact⟨b,c,k0,k1,_,g,sz,r0,_,g1,sz1,r1,_,g2,sz2,cs,n0,c0,n1,c1,f,cc,by rw [fT,h1];rfl,by rw [fT,h2];rfl,by rw [fT,h3];rfl,h4⟩
theorem QT {F:Heap}{p nx:Nat}{D:List Dt}{o:aV}(hF:PK F nx)(h:nH F p D):nH ((0,o)::F) p D:=by
 have key:∀ {j q},look F j=some q→look ((0,o)::F) j=some q:=fun {j q} hj=>by
  have:=(hF.2 j q hj).1;rw [aD,show Nat.beq 0 j=false by cases hb:Nat.beq 0 j with|false=>rfl|true=>have:=beq_true hb;omega];exact hj
 obtain⟨b,c,k0,k1,wr,g,sz,r0,wr1,g1,sz1,r1,wr2,g2,sz2,cs,n0,c0,n1,c1,f,cc,h1,h2,h3,h4⟩:=h;exact⟨b,c,k0,k1,wr,g,sz,r0,wr1,g1,sz1,r1,wr2,g2,sz2,cs,n0,c0,n1,c1,f,cc,key h1,key h2,key h3,h4⟩
theorem xR {F:Heap}{p nx:Nat}{D:List Dt}{o:aV}(hF:PK F nx)(h:nH F p D):nH (dW ((0,o)::F)) p D:=Q6 (QT hF h)
def VD (h:Heap):Prop:=∀ j o,look h j=some o→∃ wr g sz cs,o=.cells wr g sz cs
theorem aT {F:Heap}{k:Nat}{wr g:Bool}{sz:Nat}{cs:List Value}(h:VD F):VD ((k,.cells wr g sz cs)::F):=by
 intro j o hj;rw [aD] at hj;split at hj
 ·injection hj with hj;exact⟨_,_,_,_,hj.symm⟩
 ·exact h j o hj
theorem YZ {p:Nat}:jH id (lS p)=lS p:=by simp [lS,jH,tr,dO,bS,nW,dS,lH]
theorem aY {F:Heap}{p nx:Nat}{D:List Dt}{o:aV}(hF:PK F nx)(h:nH F p D):nH (rem ((0,o)::F) 0) p D:=by
 have key:∀ {j q},look F j=some q→look (rem ((0,o)::F) 0) j=some q:=fun {j q} hj=>by
  have:=(hF.2 j q hj).1;rw [dF,if_neg (by omega),aD,show Nat.beq 0 j=false by cases hb:Nat.beq 0 j with|false=>rfl|true=>have:=beq_true hb;omega];exact hj
 obtain⟨b,c,k0,k1,wr,g,sz,r0,wr1,g1,sz1,r1,wr2,g2,sz2,cs,n0,c0,n1,c1,f,cc,h1,h2,h3,h4⟩:=h;exact⟨b,c,k0,k1,wr,g,sz,r0,wr1,g1,sz1,r1,wr2,g2,sz2,cs,n0,c0,n1,c1,f,cc,key h1,key h2,key h3,h4⟩
def QE (s:List Dt→List Int→List Value→Nat→Option (Bool × List Int)):XF:=fun args h nx K=>∃ k c r p l D,args=.slice (some ⟨k,0,none⟩) l.length c::(r++[lS p])∧look h k=some (.cells true false 1 (flat aP.fl l))∧VD h∧nH (rem h k) p D ∧
 (match s D l r c with|some pr=>dE pr.1 (K (.tuple #[]) (wM h k (.cells true false 1 (flat aP.fl pr.2))) nx)|none=>False)
section
theorem sO {P:Program}{C:VC}{f:Nat}{s:List Dt→List Int→List Value→Nat→Option (Bool × List Int)}(hC:bE P C)
  (hs:∀ D l r c l',s D l r c=some (true,l')→dU r=true ∧
   ∀ F nx p,PK F nx→VD F→nH F p D→C f (.slice (some ⟨0,0,none⟩) l.length c::(r++[lS p])) ((0,.cells true false 1 (flat aP.fl l))::F) nx (fun v h _=>v=.tuple #[]∧h=(0,.cells true false 1 (flat aP.fl l'))::F)):cE P f (QE s):=by
 refine⟨fun args h nx K hx ι B w H hsc=>?_,fun args h nx K hx=>?_⟩
 ·obtain⟨k,c,r,p,l,D,rfl,hk,hcH,hdir,hx⟩:=hx;split at hx
  case h_2=>exact hx.elim
  rename_i pr e1;obtain⟨b,l'⟩:=pr;obtain⟨rfl,hx⟩:=aF.1 hx;obtain⟨a1,a4⟩:=hs D l r c l' e1;have a2:c7 (flat aP.fl l')=true:=aI aP l';have hcp:=hsc (lS p) (.tail _ (List.mem_append_right _ (.head _)));have hsl:k<nx∧((ι k).gG=false→l.length=0∧c=0):=hsc _ (.head _);have hcells:∀ j o,look h j=some o→∃ wr g sz cs,o=.cells wr g sz cs:=hcH;have hι0:∀ j,j<nx→GF k ι (1+j)=ι j:=fun j _=>tA k ι j;have hF:∀ j q,look (l8 1 (rem h k)) j=some q→∃ i o,j=1+i∧i≠k∧look h i=some o∧q=R8 1 o:=by
   intro j q hq;obtain⟨i,o,e2,e3,e4⟩:=lJ _ hq;rw [dF] at e3;split at e3
   ·cases e3
   ·rename_i hne;exact⟨i,o,e2,hne,e3,e4⟩
  have hFr:PK (l8 1 (rem h k)) (1+nx):=by
   refine⟨by omega,fun j q hq=>?_⟩;obtain⟨i,o,rfl,hne,hi,rfl⟩:=hF j q hq;have hlow:=H.low i o hi;obtain⟨wr,g,sz,cs,rfl⟩:=hcells i o hi;refine⟨by omega,by omega,rfl,rfl,rfl,?_,fun v hv=>?_⟩
   ·rw [List.map_map];exact List.map_congr_left fun v hv=>(aHr (H.sc i _ hi v hv)).symm
   ·obtain⟨u,hu,rfl⟩:=List.mem_map.1 hv;exact aE6 (H.sc i _ hi u hu)
  have hAll:VD (l8 1 (rem h k)):=fun j q hq=>by
   obtain⟨i,o,_,_,hi,rfl⟩:=hF j q hq;obtain⟨wr,g,sz,cs,rfl⟩:=hcells i o hi;exact⟨_,_,_,_,rfl⟩
  have H0:aQ (GF k ι) B ((0,.cells true false 1 (flat aP.fl l))::l8 1 (rem h k)) (1+nx) w:=by
   refine⟨fun j q hq=>?_,fun j j' q q' hq hq' hne ha b hb=>?_,fun j q hq=>?_,H.size,fun j q hq=>?_⟩
   ·rw [aD] at hq;split at hq
    ·rename_i hb;injection hq with hq;subst hq;have:=beq_true hb;subst this;rw [FZ];exact aAf (aI aP l) (H.obj k _ hk)
    ·obtain⟨i,o,rfl,hne,hi,rfl⟩:=hF j q hq;obtain⟨wr,g,sz,cs,rfl⟩:=hcells i o hi;rw [tA];exact aBg (H.obj i _ hi) (H.sc i _ hi) hι0
   ·rw [aD] at hq hq';split at hq
    ·rename_i hb1;have:=beq_true hb1;subst this;split at hq'
     ·rename_i hb2;exact absurd (beq_true hb2) hne
     ·obtain⟨i,o,rfl,hni,hi,rfl⟩:=hF j' q' hq';rw [FZ] at hb;rw [tA];exact H.sep k i _ _ hk hi (fun e=>hni e.symm) rfl b hb
    ·obtain⟨i,o,rfl,hni,hi,rfl⟩:=hF j q hq;rw [W2] at ha;rw [tA] at hb;split at hq'
     ·rename_i hb2;have:=beq_true hb2;subst this;rw [FZ];exact H.sep i k _ _ hi hk hni ha b hb
     ·obtain⟨i',o',rfl,hni',hi',rfl⟩:=hF j' q' hq';rw [tA];exact H.sep i i' _ _ hi hi' (fun e=>hne (by rw [e])) ha b hb
   ·rw [aD] at hq;split at hq
    ·rename_i hb;rw [← beq_true hb];omega
    ·exact (hFr.2 j q hq).2.1
   ·rw [aD] at hq;split at hq
    ·injection hq with hq;subst hq;exact fun v hv=>cM (bA (aI aP l) hv)
    ·obtain⟨i,o,rfl,hni,hi,rfl⟩:=hF j q hq;obtain⟨wr,g,sz,cs,rfl⟩:=hcells i o hi;intro v hv;obtain⟨u,hu,rfl⟩:=List.mem_map.1 hv;exact aE3 (H.sc i _ hi u hu) hι0
  have hrun:=hC f _ _ (1+nx) _ (a4 _ _ (1+p) hFr hAll (aAg hdir)) (GF k ι) B w H0 (fun v hv=>by
   cases hv with
   |head=>exact⟨show 0<1+nx by omega,fun hf=>hsl.2 (by rw [FZ] at hf;exact hf)⟩
   |tail _ hm =>
    rcases List.mem_append.1 hm with hm|hm
    ·exact dL (bY a1 hm)
    ·simp only [List.mem_cons,List.not_mem_nil,or_false] at hm;subst hm;exact aBu hcp)
  refine⟨hrun.1,?_⟩;have he:((.slice (some ⟨k,0,none⟩) l.length c::(r++[lS p])):List Value).map (tr ι)=((.slice (some ⟨0,0,none⟩) l.length c::(r++[lS (1+p)])):List Value).map (tr (GF k ι)):=by
   rw [List.map_cons,List.map_cons,List.map_append,List.map_append];congr 1;congr 1
   ·exact List.map_congr_left fun v hv=>by rw [gJ (bY a1 hv),gJ (bY a1 hv)]
   ·exact congrArg (fun v=>[v]) aD4
  rw [he];refine CallsIn.mono hrun.2 fun e w' hret=>?_;cases e with
  |returned u =>
   obtain⟨v,h',nx',ι1,⟨rfl,rfl⟩,q2,q3,q4,q5,q6,rfl⟩:=hret;have hι1:∀ j,j<nx→ι1 (1+j)=ι j:=fun j hj=>(q5 (1+j) (by omega)).trans (tA k ι j);have hι10:ι1 0=ι k:=(q5 0 (by omega)).trans (FZ k ι);have hback:∀ j o,look (wM h k (.cells true false 1 (flat aP.fl l'))) j=some o→(j=k∧o=.cells true false 1 (flat aP.fl l'))∨(j≠k∧look h j=some o):=by
    intro j o hj;rw [m0] at hj;split at hj
    ·rename_i e;injection hj with hj;exact .inl ⟨e,hj.symm⟩
    ·rename_i e;exact .inr ⟨e,hj⟩
   refine⟨.tuple #[],_,nx,ι,hx,?_,⟨fun j o hj=>?_,fun j j' o o' hj hj' hne ha b hb=>?_,fun j o hj=>?_,q3.size,fun j o hj=>?_⟩,q4,fun _ _=>rfl,Nat.le_refl _,?_⟩
   ·exact fun v hv=>(by cases hv)
   ·rcases hback j o hj with ⟨rfl,rfl⟩|⟨hne,hj⟩
    ·have:=q3.obj 0 (.cells true false 1 (flat aP.fl l')) rfl;rw [hι10] at this;exact aAf a2 this
    ·obtain⟨wr,g,sz,cs,rfl⟩:=hcells j o hj;have hlow:=H.low j _ hj;have h1:look ((0,.cells true false 1 (flat aP.fl l'))::l8 1 (rem h k)) (1+j)=some (R8 1 (.cells wr g sz cs)):=by
      rw [aD,show Nat.beq 0 (1+j)=false by cases hb:Nat.beq 0 (1+j) with|false=>rfl|true=>have:=beq_true hb;omega];exact gC _ (by rw [dF,if_neg hne];exact hj)
     have h2:=q3.obj _ _ h1;rw [hι1 j hlow] at h2;refine WT h2 (H.sc j _ hj) hι1 ?_;intro hgt;have h3:=H.obj j _ hj;cases hl:ι j with
     |nil p =>
      rw [hl] at h3;have h4:cs=[]∧(sz=0∨wr=true→p.isSome=true):=(by cases wr <;> exact h3);rw [h4.1];rfl
     |lay b off ex =>
      rw [hl] at h3;cases wr with
      |true=>exact h3.2.1 hgt
      |false=>exact h3.2.1 hgt
   ·rcases hback j o hj with ⟨e3,e4⟩|⟨hnk,hj2⟩
    ·rcases hback j' o' hj' with ⟨e5,e6⟩|⟨hnk',hj3⟩
     ·exact absurd (e3.trans e5.symm) hne
     ·exact H.sep j j' _ _ (by rw [e3];exact hk) hj3 hne rfl b hb
    ·rcases hback j' o' hj' with ⟨e5,e6⟩|⟨hnk',hj3⟩
     ·exact H.sep j j' _ _ hj2 (by rw [e5];exact hk) hne ha b hb
     ·exact H.sep j j' _ _ hj2 hj3 hne ha b hb
   ·rcases hback j o hj with ⟨rfl,rfl⟩|⟨hnk,hj⟩
    ·exact hsl.1
    ·exact H.low j o hj
   ·rcases hback j o hj with ⟨rfl,rfl⟩|⟨hnk,hj⟩
    ·exact fun v hv=>cM (bA a2 hv)
    ·exact H.sc j o hj
   ·simp [tr]
  |_=>exact hret.elim
 ·obtain⟨k,c,r,p,l,D,rfl,hk,hcH,hdir,hx⟩:=hx;split at hx
  case h_2=>exact hx.elim
  rename_i pr e1;obtain⟨hb,hx⟩:=aF.1 hx;exact⟨_,_,_,hx,fun K' hk'=>⟨k,c,r,p,l,D,rfl,hk,hcH,hdir,by rw [e1];exact aJ hb hk'⟩⟩
end
end Go.Aw
end

noncomputable section
namespace Go.Aw
set_option maxRecDepth 100000
def mI (L:List Int)(x y:Nat):List Int:=(L.set x (aN L y)).set y (aN L x)
theorem iA (L:List Int)(x y:Nat):(mI L x y).length=L.length:=by simp [mI]
theorem B9 {L:List Int}{x y o1 o2:Nat}(h1:o1=x*1)(h2:o2=y*1)(hx:x<L.length)(hy:y<L.length):dJ (dJ (flat aP.fl L) o1 [iv (aN L y)]) o2 [iv (aN L x)]=flat aP.fl (mI L x y):=by
 rw [h1,h2,CR _ _ _ hx,CR _ _ _ (by rw [List.length_set];exact hy)];rfl
def oI (L:List Int)(a b:Nat):Nat→List Int
 |0=>L
 |i+1=>mI (oI L a b i) (a+i) (b+i)
theorem gZ (L:List Int)(a b:Nat):∀ i,(oI L a b i).length=L.length
 |0=>rfl
 |i+1=>by unfold oI;rw [iA];exact gZ L a b i
def aFD (D:List Dt)(l:List Int)(r:List Value)(c:Nat):Option (Bool × List Int):=match r with
 |[.int .i64 a,.int .i64 b,.int .i64 n]=>some (decide (0≤a)&&decide (0≤b)&&decide (0≤n)&&decide (a+n≤l.length)&&decide (b+n≤l.length)&&decide (l.length≤1000000),oI l a.toNat b.toNat n.toNat)
 |_=>none
theorem ZL {D:List Dt}{l:List Int}{r:List Value}{c:Nat}{l':List Int}(h:aFD D l r c=some (true,l')):∃ a b n:Int,r=[iv a,iv b,iv n]∧0≤a∧0≤b∧0≤n∧a+n≤l.length∧b+n≤l.length∧l.length≤1000000∧l'=oI l a.toNat b.toNat n.toNat:=by
 unfold aFD at h;split at h
 ·rename_i a b n;injection h with h;injection h with h1 h2;simp only [Bool.and_eq_true,decide_eq_true_eq] at h1;exact⟨a,b,n,rfl,h1.1.1.1.1.1,h1.1.1.1.1.2,h1.1.1.1.2,h1.1.1.2,h1.1.2,h1.2,h2.symm⟩
 ·cases h
def VB (N c:Nat)(a b n j:Int):List (Nat × Value):=[(0,.slice (some ⟨0,0,none⟩) N c),(1,iv a),(2,iv b),(3,iv n),(10,iv j)]
theorem cK {nx N c k:Nat}{e:List (Nat × Value)}(h:1≤nx)(he:look e k=some (.slice (some ⟨0,0,none⟩) N c)):look e k=some (jH id (.slice (some ⟨0,0,none⟩) N c))∧BM nx (.slice (some ⟨0,0,none⟩) N c):=⟨he,h,fun h=>by cases h⟩
def Y9:Nat × XF:=(276,QE aFD)
theorem aIg:cE Go.Proofs.Tryz.prog Y9.1 Y9.2:=sO (aK (xl:=[]) .nil) fun D l r c l' hs=>by
 obtain⟨a,b,n,rfl,ha,hb,hn,han,hbn,hl,rfl⟩:=ZL hs;refine⟨rfl,fun F nx p hF hC hD=>?_⟩;(conv=>whnf);refine⟨fun q e h nx'=>∃ (i:Nat) (j:Int),j=i∧i≤n.toNat∧q=n.toNat - i∧e=VB l.length c a b n j∧h=(0,.cells true false 1 (flat aP.fl (oI l a.toNat b.toNat i)))::F∧nx'=nx,⟨n.toNat,?_⟩,?_⟩
 ·refine bN (e0:=VB l.length c a b n 0) (o0:=.cells true false 1 (flat aP.fl l)) (n0:=nx) hF ⟨0,0,rfl,Nat.zero_le _,rfl,rfl,rfl,rfl⟩ ?_ (aM (aI _ _)) (Nat.le_refl _);unfold VB;refine List.forall_mem_cons.2 ⟨cK hF.1 rfl,?_⟩;((repeat' refine iE rfl rfl ?_);exact iN)
 ·rintro q e h nx' ⟨i,j,hj,hi,rfl,rfl,rfl,rfl⟩;have sl:=gZ l a.toNat b.toNat i;have nxt:oI l a.toNat b.toNat (i+1)=mI (oI l a.toNat b.toNat i) (a.toNat+i) (b.toNat+i):=rfl;generalize hs0:oI l a.toNat b.toNat i=L at sl nxt;have hl1:(flat aP.fl L).length=L.length:=(by rw [bD];exact Nat.mul_one _);unfold VB;((conv=>whnf);refine bm (fun h1=>?_) (fun h1=>?_))
  ·have hlt:i<n.toNat:=(by simp [aA,aC] at h1;omega);have bM:=B9 (L:=L) (x:=a.toNat+i) (y:=b.toNat+i) (o1:=0+(a+j).toNat*1) (o2:=0+(b+j).toNat*1) (by omega) (by omega) (by omega) (by omega)
   repeat' first
    |(((conv=>whnf);refine bm (fun g=>?_) (fun g=>?_)))
    |((conv=>whnf)
      refine iL (fP L (i:=a.toNat+i) (by omega) ?_) ?_
      ·show _+Int.toNat (a+j)*1=_;omega)
    |((conv=>whnf)
      refine iL (fP L (i:=b.toNat+i) (by omega) ?_) ?_
      ·show _+Int.toNat (b+j)*1=_;omega)
   all_goals first
    |(exfalso;simp [aA,aC,aH] at g;omega)
    |(have g:(0+(a+j).toNat*1+1).ble (flat aP.fl L).length=false:=g
      rw [hl1] at g;exact eK g (by omega))
    |(have g:(0+(b+j).toNat*1+1).ble (dJ (flat aP.fl L) (0+(a+j).toNat*1) [iv (aN L (b.toNat+i))]).length=false:=g
      rw [dC (by rw [hl1];show 0+(a+j).toNat*1+1≤L.length;omega),hl1] at g;exact eK g (by omega))
    |skip
   (conv=>whnf);refine⟨n.toNat - (i+1),by omega,?_⟩;refine bN (e0:=VB l.length c a b n (j+1)) (o0:=.cells true false 1 (flat aP.fl (mI L (a.toNat+i) (b.toNat+i)))) (n0:=nx') hF ⟨i+1,j+1,by omega,by omega,rfl,rfl,by rw [nxt],rfl⟩ ?_ (bG (aI _ _) bM) (Nat.le_refl _);unfold VB;refine List.forall_mem_cons.2 ⟨cK hF.1 rfl,?_⟩;((repeat' refine iE rfl rfl ?_);exact iN)
  ·have hge:i=n.toNat:=(by simp [aA,aC] at h1;omega);(conv=>whnf);exact⟨rfl,by rw [← hs0,hge]⟩
def bP (m:Nat):Nat→List Int→Nat→Nat→List Int
 |0,L,_,_=>L
 |k+1,L,i,j=>if i=j then oI L (m - i) m i else if j<i then bP m k (oI L (m - i) m j) (i - j) j else bP m k (oI L (m - i) (m+j - i) i) i (j - i)
def aF0 (D:List Dt)(l:List Int)(r:List Value)(c:Nat):Option (Bool × List Int):=match r with
 |[.int .i64 a,.int .i64 m,.int .i64 b]=>some (decide (0≤a)&&decide (a<m)&&decide (m<b)&&decide (b≤l.length)&&decide (l.length≤1000000),bP m.toNat ((m - a).toNat+(b - m).toNat) l (m - a).toNat (b - m).toNat)
 |_=>none
theorem YI {D:List Dt}{l:List Int}{r:List Value}{c:Nat}{l':List Int}(h:aF0 D l r c=some (true,l')):∃ a m b:Int,r=[iv a,iv m,iv b]∧0≤a∧a<m∧m<b∧b≤l.length∧l.length≤1000000∧l'=bP m.toNat ((m - a).toNat+(b - m).toNat) l (m - a).toNat (b - m).toNat:=by
 unfold aF0 at h;split at h
 ·rename_i a m b;injection h with h;injection h with h1 h2;simp only [Bool.and_eq_true,decide_eq_true_eq] at h1;exact⟨a,m,b,rfl,h1.1.1.1.1,h1.1.1.1.2,h1.1.1.2,h1.1.2,h1.2,h2.symm⟩
 ·cases h
def N4 (N c:Nat)(m i j:Int)(p:Nat):List (Nat × Value):=[(0,.slice (some ⟨0,0,none⟩) N c),(2,iv m),(4,lS p),(10,iv i),(11,iv j)]
theorem dK {nx p k:Nat}{e:List (Nat × Value)}(h:p<nx)(he:look e k=some (lS p)):look e k=some (jH id (lS p))∧BM nx (lS p) :=
 ⟨by rw [YZ];exact he,trivial,fun v hv=>by
  simp only [List.mem_cons,List.not_mem_nil,or_false] at hv;subst hv;exact⟨h,rfl⟩⟩
theorem yV {F:Heap}{p nx:Nat}{D:List Dt}(hF:PK F nx)(h:nH F p D):p<nx:=by
 obtain⟨b,c,k0,k1,wr,g,sz,r0,wr1,g1,sz1,r1,wr2,g2,sz2,cs,n0,c0,n1,c1,f,cc,h1,_⟩:=h;exact (hF.2 p _ h1).2.1
def Y7:Nat × XF:=(273,QE aF0)
theorem aHp:cE Go.Proofs.Tryz.prog Y7.1 Y7.2:=sO (aK (xl:=[Y9]) (.cons aIg .nil)) fun D l r c l' hs=>by
 obtain⟨a,m,b,rfl,ha,ham,hmb,hb,hl,rfl⟩:=YI hs;refine⟨rfl,fun F nx p hF hC hD=>?_⟩;have hp:=yV hF hD;((conv=>whnf);refine bm (fun g1=>?_) (fun g1=>?_))
 ·((conv=>whnf);refine bm (fun g2=>?_) (fun g2=>?_))
  ·(conv=>whnf)
   refine⟨fun q e h nx'=>∃ (i j k:Nat) (x y:Int) (L:List Int),x=i∧y=j∧1≤i∧1≤j∧i≤m.toNat∧m.toNat+j≤l.length∧i+j≤k∧q=i+j∧L.length=l.length ∧
    bP m.toNat ((m - a).toNat+(b - m).toNat) l (m - a).toNat (b - m).toNat=bP m.toNat k L i j∧e=N4 l.length c m x y p∧h=(0,.cells true false 1 (flat aP.fl L))::F∧nx'=nx,⟨(m - a).toNat+(b - m).toNat,?_⟩,?_⟩
   ·refine bN (e0:=N4 l.length c m (m - a) (b - m) p) (o0:=.cells true false 1 (flat aP.fl l)) (n0:=nx) hF ⟨(m - a).toNat,(b - m).toNat,_,m - a,b - m,l,by omega,by omega,by omega,by omega,by omega,by omega,Nat.le_refl _,rfl,rfl,rfl,rfl,rfl,rfl⟩ ?_ (aM (aI _ _)) (Nat.le_refl _);unfold N4;refine List.forall_mem_cons.2 ⟨cK hF.1 rfl,List.forall_mem_cons.2 ⟨⟨rfl,dL rfl⟩,List.forall_mem_cons.2 ⟨dK hp rfl,?_⟩⟩⟩;((repeat' refine iE rfl rfl ?_);exact iN)
   ·rintro q e h nx' ⟨i,j,k,x,y,L,hx,hy,hi1,hj1,hi,hj,hk,rfl,hL,hrot,rfl,rfl,rfl⟩;unfold N4;((conv=>whnf);refine bm (fun h1=>?_) (fun h1=>?_))
    ·have h1:i≠j:=by
      have:x≠y:=(by simpa [aA,aC] using h1);omega
     obtain⟨k',rfl⟩:∃ k',k=k'+1:=⟨k - 1,by omega⟩;((conv=>whnf);refine bm (fun h2=>?_) (fun h2=>?_))
     ·have h2:j<i:=(by simp [aA,aC] at h2;omega);((conv=>whnf);refine bm (fun h3=>?_) (fun h3=>?_))
      ·(conv=>whnf);refine⟨0,c,[iv (m - x),iv m,iv y],p,L,D,by rw [hL];rfl,rfl,?_,?_,?_⟩
       ·exact aT hC
       ·exact aY hF hD
       ·((conv=>whnf);refine bm (fun h4=>?_) (fun h4=>?_))
        ·((conv=>whnf);refine bm (fun h5=>?_) (fun h5=>?_))
         ·(conv=>whnf);refine⟨_,Nat.lt_of_lt_of_le (show i - j+j<i+j by omega) (Nat.le_refl _),?_⟩;refine bN (e0:=N4 l.length c m (x - y) y p) (o0:=.cells true false 1 (flat aP.fl (oI L (m.toNat - i) m.toNat j))) (n0:=nx') hF ⟨i - j,j,k',x - y,y,_,by omega,hy,by omega,hj1,by omega,hj,by omega,rfl,by rw [gZ,hL],?_,rfl,rfl,rfl⟩ ?_ (bG (aI _ _) ?_) (Nat.le_refl _)
          ·rw [hrot]
           conv=>lhs;unfold bP
           rw [if_neg h1,if_pos h2]
          ·unfold N4;refine List.forall_mem_cons.2 ⟨cK hF.1 rfl,List.forall_mem_cons.2 ⟨⟨rfl,dL rfl⟩,List.forall_mem_cons.2 ⟨dK hp rfl,?_⟩⟩⟩;((repeat' refine iE rfl rfl ?_);exact iN)
          ·show flat aP.fl (oI L (m - x).toNat m.toNat y.toNat)=_;rw [show (m - x).toNat=m.toNat - i by omega,show y.toNat=j by omega]
         ·exfalso;simp [aA,aC,aH] at h5;omega
        ·exfalso;have h4:(decide (0≤m - x)&&decide (0≤m)&&decide (0≤y)&&decide (m - x+y≤L.length)&&decide (m+y≤L.length)&&decide (L.length≤1000000))=false:=h4;simp at h4;omega
      ·exfalso;simp [aA,aC,aH] at h3;omega
     ·have h2:i<j:=(by simp [aA,aC] at h2;omega);((conv=>whnf);refine bm (fun h3=>?_) (fun h3=>?_))
      ·((conv=>whnf);refine bm (fun h3b=>?_) (fun h3b=>?_))
       ·((conv=>whnf);refine bm (fun h3c=>?_) (fun h3c=>?_))
        ·(conv=>whnf);refine⟨0,c,[iv (m - x),iv (m+y - x),iv x],p,L,D,by rw [hL];rfl,rfl,?_,?_,?_⟩
         ·exact aT hC
         ·exact aY hF hD
         ·((conv=>whnf);refine bm (fun h4=>?_) (fun h4=>?_))
          ·((conv=>whnf);refine bm (fun h5=>?_) (fun h5=>?_))
           ·(conv=>whnf);refine⟨_,Nat.lt_of_lt_of_le (show i+(j - i)<i+j by omega) (Nat.le_refl _),?_⟩;refine bN (e0:=N4 l.length c m x (y - x) p) (o0:=.cells true false 1 (flat aP.fl (oI L (m.toNat - i) (m.toNat+j - i) i))) (n0:=nx') hF ⟨i,j - i,k',x,y - x,_,hx,by omega,hi1,by omega,hi,by omega,by omega,rfl,by rw [gZ,hL],?_,rfl,rfl,rfl⟩ ?_ (bG (aI _ _) ?_) (Nat.le_refl _)
            ·rw [hrot]
             conv=>lhs;unfold bP
             rw [if_neg h1,if_neg (by omega)]
            ·unfold N4;refine List.forall_mem_cons.2 ⟨cK hF.1 rfl,List.forall_mem_cons.2 ⟨⟨rfl,dL rfl⟩,List.forall_mem_cons.2 ⟨dK hp rfl,?_⟩⟩⟩;((repeat' refine iE rfl rfl ?_);exact iN)
            ·show flat aP.fl (oI L (m - x).toNat (m+y - x).toNat x.toNat)=_;rw [show (m - x).toNat=m.toNat - i by omega,show (m+y - x).toNat=m.toNat+j - i by omega,show x.toNat=i by omega]
           ·exfalso;simp [aA,aC,aH] at h5;omega
          ·exfalso;have h4:(decide (0≤m - x)&&decide (0≤m+y - x)&&decide (0≤x)&&decide (m - x+x≤L.length)&&decide (m+y - x+x≤L.length)&&decide (L.length≤1000000))=false:=h4;simp at h4;omega
        ·exfalso;simp [aA,aC,aH] at h3c;omega
       ·exfalso;simp [aA,aC,aH] at h3b;omega
      ·exfalso;simp [aA,aC,aH] at h3;omega
    ·have h1:i=j:=by
      have:x=y:=(by simpa [aA,aC] using h1);omega
     obtain⟨k',rfl⟩:∃ k',k=k'+1:=⟨k - 1,by omega⟩;((conv=>whnf);refine bm (fun h3=>?_) (fun h3=>?_))
     ·(conv=>whnf);refine⟨0,c,[iv (m - x),iv m,iv x],p,L,D,by rw [hL];rfl,rfl,?_,?_,?_⟩
      ·exact aT hC
      ·exact aY hF hD
      ·((conv=>whnf);refine bm (fun h4=>?_) (fun h4=>?_))
       ·(conv=>whnf);refine⟨rfl,?_⟩;rw [hrot]
        conv=>rhs;unfold bP
        rw [if_pos h1];show (0,aV.cells true false 1 (flat aP.fl (oI L (m - x).toNat m.toNat x.toNat)))::F=_;rw [show (m - x).toNat=m.toNat - i by omega,show x.toNat=i by omega]
       ·exfalso;have h4:(decide (0≤m - x)&&decide (0≤m)&&decide (0≤x)&&decide (m - x+x≤L.length)&&decide (m+x≤L.length)&&decide (L.length≤1000000))=false:=h4;simp at h4;omega
     ·exfalso;simp [aA,aC,aH] at h3;omega
  ·exfalso;simp [aA,aC,aH] at g2;omega
 ·exfalso;simp [aA,aC,aH] at g1;omega
end Go.Aw
end
