/-
  Parts of a proof. No condition.
-/
import Derived.Test.YtjahkcbdecgbhaaGreatQAv
set_option linter.unusedSimpArgs false
set_option linter.unusedVariables false
noncomputable section
namespace Go.Aw
open Go.RowKit
def AJ (k:Nat)(ι:Nat→Loc):Nat→Loc:=fun j=>if j=0 then ι k else ι (j - 1)
theorem pI (k:Nat)(ι:Nat→Loc):AJ k ι 0=ι k:=if_pos rfl
theorem kR (k:Nat)(ι:Nat→Loc)(j:Nat):AJ k ι (1+j)=ι j:=by
 unfold AJ;rw [if_neg (by omega),Nat.add_sub_cancel_left]
def LL (F:Heap)(nx:Nat):Prop:=1≤nx∧∀ j o,look F j=some o→0<j∧j<nx∧bT id nx o o
theorem bL {b n0 nx:Nat}{I:KS}{e0 e:List (Nat × Value)}{F:Heap}{o0 o:aX}(hF:LL F n0)(hI:I e0 ((0,o0)::F) n0)(he:∀ p∈e0,look e p.1=some (iQ id p.2)∧BB n0 p.2)(ho:bT id n0 o0 o)(hb:b≤n0) :
  qU b I e ((0,o)::F) nx:=by
 refine⟨e0,(0,o0)::F,n0,id,hI,fun t v hv=>he (t,v) (bA hv),fun k q hk=>?_,fun k k' q q' _ _ e=>e,fun k _=>rfl,hb⟩;rw [aE] at hk;split at hk
 ·rename_i hb1;injection hk with hk;subst hk;have:=beq_true hb1;subst this;exact⟨hF.1,o,rfl,ho⟩
 ·obtain⟨h1,h2,h3⟩:=hF.2 k q hk;refine⟨h2,q,?_,h3⟩;show look ((0,o)::F) k=some q;rw [aE];rename_i hb1;rw [hb1];exact hk
theorem fC {n:Nat}:∀ (h:Heap) {j:Nat} {o:aX},look h j=some o→look (kQ n h) (n+j)=some (LY n o)
 |[],j,o,hl=>(by cases hl)
 |(i,q)::r,j,o,hl=>by
  rw [aE] at hl;simp only [kQ];rw [aE];split at hl
  ·rename_i hb;injection hl with hl;subst hl;have:=beq_true hb;subst this;rw [Nat.beq_refl]
  ·rename_i hb;have hne:Nat.beq (n+i) (n+j)=false:=by
    cases hb':Nat.beq (n+i) (n+j) with
    |false=>rfl
    |true =>
     have:=beq_true hb';have:i=j:=(by omega);subst this;rw [Nat.beq_refl] at hb;cases hb
   rw [hne];exact fC r hl
theorem M5 {ι:Nat→Loc}{σ:Nat→Nat}{n:Nat}{v:Value}(h:oK ι n v):oK (lW σ) n v:=by
 cases v with
 |pointer a=>cases a with
  |none=>trivial
  |some a=>exact⟨h.1,rfl⟩
 |slice a l c=>cases a with
  |none=>trivial
  |some a=>exact⟨h.1,fun hf=>by cases hf⟩
 |map a=>cases a with
  |none=>trivial
  |some a=>exact⟨h.1,rfl⟩
 |agg c=>exact h.elim
 |tuple c=>exact h.elim
 |_=>trivial
theorem aCu {ι:Nat→Loc}{σ:Nat→Nat}{n:Nat}{v:Value}(h:iM ι n v):iM (lW σ) n v:=by
 cases v with
 |func f a c =>
  refine⟨?_,fun x hx=>M5 (h.2 x hx)⟩;have h1:=h.1;cases f with
  |yield l=>exact⟨h1.1,rfl⟩
  |_=>trivial
 |pointer a=>have:=M5 (ι:=ι) (σ:=σ) (n:=n) (v:=.pointer a);cases a <;> exact this h
 |slice a l c=>have:=M5 (ι:=ι) (σ:=σ) (n:=n) (v:=.slice a l c);cases a <;> exact this h
 |map a=>have:=M5 (ι:=ι) (σ:=σ) (n:=n) (v:=.map a);cases a <;> exact this h
 |agg c=>exact h.elim
 |tuple c=>exact h.elim
 |_=>trivial
section
variable {ι ι0:Nat→Loc}{B n:Nat}{w:World}
theorem aCp {v:Value}(hs:iM ι n v)(hι:∀ j,j<n→ι0 (1+j)=ι j):iM ι0 (1+n) (bP (fun k=>1+k) v) :=
 j4 (m:=n) (iR (ι:=ι) (ι':=fun k=>ι0 (1+k)) (Nat.le_refl _) hι hs) (fun k hk=>by omega)
theorem aG0 {v:Value}(hs:iM ι n v)(hι:∀ j,j<n→ι0 (1+j)=ι j):bR ι0 (bP (fun k=>1+k) v)=bR ι v:=by
 unfold bP;rw [jI (n:=1+n) (aCp hs hι)];exact mI (ι:=ι) (ι':=fun k=>ι0 (1+k)) hι hs
theorem aBm {v:Value}(hs:iM ι n v):B3 (1+n) (bP (fun k=>1+k) v) :=
 j4 (m:=n) (aCu hs) (fun k hk=>by omega)
theorem aGv {v:Value}(hs:iM ι n v):bP id (bP (fun k=>1+k) v)=bP (fun k=>1+k) v:=by
 unfold bP;rw [jI (n:=1+n) (aBm hs)];rfl
theorem VU {wr g:Bool}{sz:Nat}{cs:List Value}{l:Loc}(h:jZ ι B w (.cells wr g sz cs) l)(hs:∀ v∈cs,iM ι n v)(hι:∀ j,j<n→ι0 (1+j)=ι j):jZ ι0 B w (LY 1 (.cells wr g sz cs)) l:=by
 have hg:∀ {q:Prop},(g=true→dG cs=true)→g=true→dG (cs.map (bP fun k=>1+k))=true:=fun hq e=>rQ fun v hv=>by
  obtain⟨u,hu,rfl⟩:=List.mem_map.1 hv;exact aG4 (aW (hq e) hu)
 have key:∀ {Φ:Nat→Value→Prop},(∀ (i:Nat) v,cs[i]? = some v→Φ i (bR ι v))→∀ (i:Nat) v,(cs.map (bP fun k=>1+k))[i]? = some v→Φ i (bR ι0 v):=fun hΦ i v hv=>by
  rw [List.getElem?_map] at hv;obtain⟨u,hu,rfl⟩:=Option.map_eq_some_iff.1 hv;rw [aG0 (hs u (List.mem_of_getElem? hu)) hι];exact hΦ i u hu
 cases l with
 |nil p =>
  have h1:cs=[]∧(sz=0∨wr=true→p.isSome=true):=(by cases wr <;> exact h);obtain⟨rfl,hz⟩:=h1;cases wr <;> exact⟨rfl,hz⟩
 |lay b o e =>
  cases wr with
  |true =>
   obtain⟨x1,x2,arr,t,x3,x4,x5⟩:=h;exact⟨x1,hg (q:=True) x2,arr,t,x3,by rw [List.length_map];exact x4,key (Φ:=fun i v=>arr[o+i]? = some v) x5⟩
  |false =>
   obtain⟨x1,x2,x3⟩:=h;exact⟨x1,hg (q:=True) x2,key (Φ:=fun i v=>w.cell? ⟨b,o+i,none⟩=some v) x3⟩
theorem I4 {wr g:Bool}{sz:Nat}{cs:List Value}{l:Loc}(h:jZ ι0 B w (LY 1 (.cells wr g sz cs)) l)(hs:∀ v∈cs,iM ι n v)(hι:∀ j,j<n→ι0 (1+j)=ι j)(hg0:g=true→dG cs=true):jZ ι B w (.cells wr g sz cs) l:=by
 have key:∀ {Φ:Nat→Value→Prop},(∀ (i:Nat) v,(cs.map (bP fun k=>1+k))[i]? = some v→Φ i (bR ι0 v))→∀ (i:Nat) v,cs[i]? = some v→Φ i (bR ι v):=fun hΦ i v hv=>by
  rw [← aG0 (hs v (List.mem_of_getElem? hv)) hι];exact hΦ i _ (by rw [List.getElem?_map,hv];rfl)
 cases l with
 |nil p =>
  have h1:cs.map (bP fun k=>1+k)=[]∧(sz=0∨wr=true→p.isSome=true):=(by cases wr <;> exact h);have h2:cs=[]:=(by simpa using h1.1);cases wr <;> exact⟨h2,h1.2⟩
 |lay b o e =>
  cases wr with
  |true =>
   obtain⟨x1,x2,arr,t,x3,x4,x5⟩:=h;rw [List.length_map] at x4;exact⟨x1,hg0,arr,t,x3,x4,key (Φ:=fun i v=>arr[o+i]? = some v) x5⟩
  |false =>
   obtain⟨x1,x2,x3⟩:=h;exact⟨x1,hg0,key (Φ:=fun i v=>w.cell? ⟨b,o+i,none⟩=some v) x3⟩
end
theorem J5 (n:Nat)(o:aX):(LY n o).alone=o.alone:=by cases o <;> rfl
def rv (k c:Nat):Option Nat→Value
 |none=>.tuple #[]
 |some m=>.slice (some ⟨k,0,none⟩) m c
section
variable {α:Type}(E:El α)
def frX (s:List α→List Value→Nat→Option (Bool × Option Nat × List Value)):XF:=fun args h nx K=>match args with
 |.slice (some ⟨k,0,none⟩) n c::r=>∃ l,n=l.length∧look h k=some (.cells true false E.sz (flat E.fl l))∧fN h=true∧(match s l r c with|some p=>dJ p.1 (K (rv k c p.2.1) (r7 h k (.cells true false E.sz p.2.2)) nx)|none=>False)
 |_=>False
theorem aHG {P:Program}{C:VC}{f:Nat}{s:List α→List Value→Nat→Option (Bool × Option Nat × List Value)}(hC:bH P C)
  (hs:∀ l r c m cs',s l r c=some (true,m,cs')→dW r=true∧dG cs'=true∧(∀ q,m=some q→q≤l.length) ∧
   ∀ F nx,LL F nx→C f (.slice (some ⟨0,0,none⟩) l.length c::r) ((0,.cells true false E.sz (flat E.fl l))::F) nx (fun v h _=>v=rv 0 c m∧h=(0,.cells true false E.sz cs')::F)):cH P f (frX E s):=by
 refine⟨fun args h nx K hx ι B w H hsc=>?_,fun args h nx K hx=>?_⟩
 ·unfold frX at hx;split at hx
  case h_2=>exact hx.elim
  rename_i k n c r;obtain⟨l,rfl,hk,hcH,hx⟩:=hx;split at hx
  case h_2=>exact hx.elim
  rename_i p e1;obtain⟨b,m,cs'⟩:=p;obtain⟨rfl,hx⟩:=aH.1 hx;obtain⟨a1,a2,a3,a4⟩:=hs l r c m cs' e1;have hsl:k<nx∧((ι k).fP=false→l.length=0∧c=0):=hsc _ (.head _);have hcells:∀ j o,look h j=some o→∃ wr g sz cs,o=.cells wr g sz cs:=fun j o hj=>oU hcH hj;have hι0:∀ j,j<nx→AJ k ι (1+j)=ι j:=fun j _=>kR k ι j;have hF:∀ j q,look (kQ 1 (rem h k)) j=some q→∃ i o,j=1+i∧i≠k∧look h i=some o∧q=LY 1 o:=by
   intro j q hq;obtain⟨i,o,e2,e3,e4⟩:=iU _ hq;rw [c7] at e3;split at e3
   ·cases e3
   ·rename_i hne;exact⟨i,o,e2,hne,e3,e4⟩
  have hFr:LL (kQ 1 (rem h k)) (1+nx):=by
   refine⟨by omega,fun j q hq=>?_⟩;obtain⟨i,o,rfl,hne,hi,rfl⟩:=hF j q hq;have hlow:=H.low i o hi;obtain⟨wr,g,sz,cs,rfl⟩:=hcells i o hi;refine⟨by omega,by omega,rfl,rfl,rfl,?_,fun v hv=>?_⟩
   ·rw [List.map_map];exact List.map_congr_left fun v hv=>(aGv (H.sc i _ hi v hv)).symm
   ·obtain⟨u,hu,rfl⟩:=List.mem_map.1 hv;exact aBm (H.sc i _ hi u hu)
  have H0:aT (AJ k ι) B ((0,.cells true false E.sz (flat E.fl l))::kQ 1 (rem h k)) (1+nx) w:=by
   refine⟨fun j q hq=>?_,fun j j' q q' hq hq' hne ha b hb=>?_,fun j q hq=>?_,H.size,fun j q hq=>?_⟩
   ·rw [aE] at hq;split at hq
    ·rename_i hb;injection hq with hq;subst hq;have:=beq_true hb;subst this;rw [pI];exact K6 (aG E l) (H.obj k _ hk)
    ·obtain⟨i,o,rfl,hne,hi,rfl⟩:=hF j q hq;obtain⟨wr,g,sz,cs,rfl⟩:=hcells i o hi;rw [kR];exact VU (H.obj i _ hi) (H.sc i _ hi) hι0
   ·rw [aE] at hq hq';split at hq
    ·rename_i hb1;have:=beq_true hb1;subst this;split at hq'
     ·rename_i hb2;exact absurd (beq_true hb2) hne
     ·obtain⟨i,o,rfl,hni,hi,rfl⟩:=hF j' q' hq';rw [pI] at hb;rw [kR];exact H.sep k i _ _ hk hi (fun e=>hni e.symm) rfl b hb
    ·obtain⟨i,o,rfl,hni,hi,rfl⟩:=hF j q hq;rw [J5] at ha;rw [kR] at hb;split at hq'
     ·rename_i hb2;have:=beq_true hb2;subst this;rw [pI];exact H.sep i k _ _ hi hk hni ha b hb
     ·obtain⟨i',o',rfl,hni',hi',rfl⟩:=hF j' q' hq';rw [kR];exact H.sep i i' _ _ hi hi' (fun e=>hne (by rw [e])) ha b hb
   ·rw [aE] at hq;split at hq
    ·rename_i hb;rw [← beq_true hb];omega
    ·exact (hFr.2 j q hq).2.1
   ·rw [aE] at hq;split at hq
    ·injection hq with hq;subst hq;exact fun v hv=>cL (aW (aG E l) hv)
    ·obtain⟨i,o,rfl,hni,hi,rfl⟩:=hF j q hq;obtain⟨wr,g,sz,cs,rfl⟩:=hcells i o hi;intro v hv;obtain⟨u,hu,rfl⟩:=List.mem_map.1 hv;exact aCp (H.sc i _ hi u hu) hι0
  have hrun:=hC f _ _ (1+nx) _ (a4 _ _ hFr) (AJ k ι) B w H0 (fun v hv=>by
   cases hv with
   |head=>exact⟨show 0<1+nx by omega,fun hf=>hsl.2 (by rw [pI] at hf;exact hf)⟩
   |tail _ hm=>exact cY (cB a1 hm))
  refine⟨hrun.1,?_⟩;have he:((.slice (some ⟨k,0,none⟩) l.length c::r):List Value).map (tr ι)=((.slice (some ⟨0,0,none⟩) l.length c::r):List Value).map (tr (AJ k ι)):=by
   rw [List.map_cons,List.map_cons];congr 1;exact List.map_congr_left fun v hv=>by rw [gY (cB a1 hv),gY (cB a1 hv)]
  rw [he];refine CallsIn.mono hrun.2 fun e w' hret=>?_;cases e with
  |returned u =>
   obtain⟨v,h',nx',ι1,⟨rfl,rfl⟩,q2,q3,q4,q5,q6,rfl⟩:=hret;have hι1:∀ j,j<nx→ι1 (1+j)=ι j:=fun j hj=>(q5 (1+j) (by omega)).trans (kR k ι j);have hι10:ι1 0=ι k:=(q5 0 (by omega)).trans (pI k ι);have hback:∀ j o,look (r7 h k (.cells true false E.sz cs')) j=some o→(j=k∧o=.cells true false E.sz cs')∨(j≠k∧look h j=some o):=by
    intro j o hj;rw [mC] at hj;split at hj
    ·rename_i e;injection hj with hj;exact .inl ⟨e,hj.symm⟩
    ·rename_i e;exact .inr ⟨e,hj⟩
   refine⟨rv k c m,_,nx,ι,hx,?_,⟨fun j o hj=>?_,fun j j' o o' hj hj' hne ha b hb=>?_,fun j o hj=>?_,q3.size,fun j o hj=>?_⟩,q4,fun _ _=>rfl,Nat.le_refl _,?_⟩
   ·cases m with
    |none=>exact fun v hv=>(by cases hv)
    |some q =>
     refine⟨hsl.1,fun hf=>?_⟩;have:=hsl.2 hf;have:=a3 q rfl;omega
   ·rcases hback j o hj with ⟨rfl,rfl⟩|⟨hne,hj⟩
    ·have:=q3.obj 0 (.cells true false E.sz cs') rfl;rw [hι10] at this;exact K6 a2 this
    ·obtain⟨wr,g,sz,cs,rfl⟩:=hcells j o hj;have hlow:=H.low j _ hj;have h1:look ((0,.cells true false E.sz cs')::kQ 1 (rem h k)) (1+j)=some (LY 1 (.cells wr g sz cs)):=by
      rw [aE,show Nat.beq 0 (1+j)=false by cases hb:Nat.beq 0 (1+j) with|false=>rfl|true=>have:=beq_true hb;omega];exact fC _ (by rw [c7,if_neg hne];exact hj)
     have h2:=q3.obj _ _ h1;rw [hι1 j hlow] at h2;refine I4 h2 (H.sc j _ hj) hι1 ?_;intro hgt;have h3:=H.obj j _ hj;cases hl:ι j with
     |nil p =>
      rw [hl] at h3;have h4:cs=[]∧(sz=0∨wr=true→p.isSome=true):=(by cases wr <;> exact h3);rw [h4.1];rfl
     |lay b off ex =>
      rw [hl] at h3;cases wr with
      |true=>exact h3.2.1 hgt
      |false=>exact h3.2.1 hgt
   ·rcases hback j o hj with ⟨e3,e4⟩|⟨hnk,hj2⟩
    ·rcases hback j' o' hj' with ⟨e5,e6⟩|⟨hnk',hj3⟩
     ·exact absurd (e3.trans e5.symm) hne
     ·exact H.sep j j' _ _ (by rw [e3];exact hk) hj3 hne rfl b hb
    ·rcases hback j' o' hj' with ⟨e5,e6⟩|⟨hnk',hj3⟩
     ·exact H.sep j j' _ _ hj2 (by rw [e5];exact hk) hne ha b hb
     ·exact H.sep j j' _ _ hj2 hj3 hne ha b hb
   ·rcases hback j o hj with ⟨rfl,rfl⟩|⟨hnk,hj⟩
    ·exact hsl.1
    ·exact H.low j o hj
   ·rcases hback j o hj with ⟨rfl,rfl⟩|⟨hnk,hj⟩
    ·exact fun v hv=>cL (aW a2 hv)
    ·exact H.sc j o hj
   ·cases m with
    |none=>simp [rv,tr]
    |some q=>simp only [rv,tr,dU,bR,dV,hι10]
  |_=>exact hret.elim
 ·unfold frX at hx;split at hx
  case h_2=>exact hx.elim
  rename_i k n c r;obtain⟨l,hn,hk,hcH,hx⟩:=hx;split at hx
  case h_2=>exact hx.elim
  rename_i p e1;obtain⟨hb,hx⟩:=aH.1 hx;exact⟨_,_,_,hx,fun K' hk'=>⟨l,hn,hk,hcH,by rw [e1];exact aJ hb hk'⟩⟩
end
end Go.Aw
end

noncomputable section
namespace Go.Aw
def mJ (p:Nat):Value:=.func (.func 209) #[] #[.pointer (some ⟨p,0,none⟩)]
theorem aDW {ι:Nat→Loc}{k p:Nat}:tr ι (mJ p)=tr (AJ k ι) (mJ (1+p)):=by
 simp [mJ,tr,dU,bR,oI,dV,kR]
theorem aEU {ι:Nat→Loc}{k p n:Nat}(h:fA ι n (mJ p)):fA (AJ k ι) (1+n) (mJ (1+p)):=by
 have h1:oK ι n (.pointer (some ⟨p,0,none⟩)):=h.2 _ (by simp);refine⟨trivial,fun v hv=>?_⟩;simp only [List.mem_cons,List.not_mem_nil,or_false] at hv;subst hv;exact⟨by have:=h1.1;show 1+p<1+n;simp only at this;omega,by show (AJ k ι (1+p)).fP=true;rw [kR];exact h1.2⟩
theorem aD2 {F:Heap}{p:Nat}{D:List Dt}(h:nN F p D):nN (kQ 1 F) (1+p) D:=by
 obtain⟨b,c,k0,k1,wr,g,sz,r0,wr1,g1,sz1,r1,wr2,g2,sz2,cs,n0,c0,n1,c1,f,cc,h1,h2,h3,h4⟩:=h;refine⟨1+b,1+c,1+k0,1+k1,wr,g,sz,_,wr1,g1,sz1,_,wr2,g2,sz2,cs.map (bP fun k=>1+k),n0,c0,n1,c1,f,cc,fC F h1,fC F h2,fC F h3,?_⟩;rw [← List.map_take,h4];exact bW (aG pS D)
theorem RE {F:Heap}{p:Nat}{D:List Dt}(h:nN F p D):nN (eU F) p D:=by
 obtain⟨b,c,k0,k1,wr,g,sz,r0,wr1,g1,sz1,r1,wr2,g2,sz2,cs,n0,c0,n1,c1,f,cc,h1,h2,h3,h4⟩:=h;exact⟨b,c,k0,k1,_,g,sz,r0,_,g1,sz1,r1,_,g2,sz2,cs,n0,c0,n1,c1,f,cc,by rw [gO,h1];rfl,by rw [gO,h2];rfl,by rw [gO,h3];rfl,h4⟩
theorem TA {F:Heap}{p nx:Nat}{D:List Dt}{o:aX}(hF:LL F nx)(h:nN F p D):nN ((0,o)::F) p D:=by
 have key:∀ {j q},look F j=some q→look ((0,o)::F) j=some q:=fun {j q} hj=>by
  have:=(hF.2 j q hj).1;rw [aE,show Nat.beq 0 j=false by cases hb:Nat.beq 0 j with|false=>rfl|true=>have:=beq_true hb;omega];exact hj
 obtain⟨b,c,k0,k1,wr,g,sz,r0,wr1,g1,sz1,r1,wr2,g2,sz2,cs,n0,c0,n1,c1,f,cc,h1,h2,h3,h4⟩:=h;exact⟨b,c,k0,k1,wr,g,sz,r0,wr1,g1,sz1,r1,wr2,g2,sz2,cs,n0,c0,n1,c1,f,cc,key h1,key h2,key h3,h4⟩
theorem AM {F:Heap}{p nx:Nat}{D:List Dt}{o:aX}(hF:LL F nx)(h:nN F p D):nN (eU ((0,o)::F)) p D:=RE (TA hF h)
def X2 (h:Heap):Prop:=∀ j o,look h j=some o→∃ wr g sz cs,o=.cells wr g sz cs
theorem aV {F:Heap}{k:Nat}{wr g:Bool}{sz:Nat}{cs:List Value}(h:X2 F):X2 ((k,.cells wr g sz cs)::F):=by
 intro j o hj;rw [aE] at hj;split at hj
 ·injection hj with hj;exact⟨_,_,_,_,hj.symm⟩
 ·exact h j o hj
theorem aCe {p:Nat}:iQ id (mJ p)=mJ p:=by simp [mJ,iQ,tr,dU,bR,oI,dV,lW]
theorem a8 {F:Heap}{p nx:Nat}{D:List Dt}{o:aX}(hF:LL F nx)(h:nN F p D):nN (rem ((0,o)::F) 0) p D:=by
 have key:∀ {j q},look F j=some q→look (rem ((0,o)::F) 0) j=some q:=fun {j q} hj=>by
  have:=(hF.2 j q hj).1;rw [c7,if_neg (by omega),aE,show Nat.beq 0 j=false by cases hb:Nat.beq 0 j with|false=>rfl|true=>have:=beq_true hb;omega];exact hj
 obtain⟨b,c,k0,k1,wr,g,sz,r0,wr1,g1,sz1,r1,wr2,g2,sz2,cs,n0,c0,n1,c1,f,cc,h1,h2,h3,h4⟩:=h;exact⟨b,c,k0,k1,wr,g,sz,r0,wr1,g1,sz1,r1,wr2,g2,sz2,cs,n0,c0,n1,c1,f,cc,key h1,key h2,key h3,h4⟩
def RH (s:List Dt→List Int→List Value→Nat→Option (Bool × List Int)):XF:=fun args h nx K=>∃ k c r p l D,args=.slice (some ⟨k,0,none⟩) l.length c::(r++[mJ p])∧look h k=some (.cells true false 1 (flat aN.fl l))∧X2 h∧nN (rem h k) p D ∧
 (match s D l r c with|some pr=>dJ pr.1 (K (.tuple #[]) (r7 h k (.cells true false 1 (flat aN.fl pr.2))) nx)|none=>False)
section
theorem sT {P:Program}{C:VC}{f:Nat}{s:List Dt→List Int→List Value→Nat→Option (Bool × List Int)}(hC:bH P C)
  (hs:∀ D l r c l',s D l r c=some (true,l')→dW r=true ∧
   ∀ F nx p,LL F nx→X2 F→nN F p D→C f (.slice (some ⟨0,0,none⟩) l.length c::(r++[mJ p])) ((0,.cells true false 1 (flat aN.fl l))::F) nx (fun v h _=>v=.tuple #[]∧h=(0,.cells true false 1 (flat aN.fl l'))::F)):cH P f (RH s):=by
 refine⟨fun args h nx K hx ι B w H hsc=>?_,fun args h nx K hx=>?_⟩
 ·obtain⟨k,c,r,p,l,D,rfl,hk,hcH,hdir,hx⟩:=hx;split at hx
  case h_2=>exact hx.elim
  rename_i pr e1;obtain⟨b,l'⟩:=pr;obtain⟨rfl,hx⟩:=aH.1 hx;obtain⟨a1,a4⟩:=hs D l r c l' e1;have a2:dG (flat aN.fl l')=true:=aG aN l';have hcp:=hsc (mJ p) (.tail _ (List.mem_append_right _ (.head _)));have hsl:k<nx∧((ι k).fP=false→l.length=0∧c=0):=hsc _ (.head _);have hcells:∀ j o,look h j=some o→∃ wr g sz cs,o=.cells wr g sz cs:=hcH;have hι0:∀ j,j<nx→AJ k ι (1+j)=ι j:=fun j _=>kR k ι j;have hF:∀ j q,look (kQ 1 (rem h k)) j=some q→∃ i o,j=1+i∧i≠k∧look h i=some o∧q=LY 1 o:=by
   intro j q hq;obtain⟨i,o,e2,e3,e4⟩:=iU _ hq;rw [c7] at e3;split at e3
   ·cases e3
   ·rename_i hne;exact⟨i,o,e2,hne,e3,e4⟩
  have hFr:LL (kQ 1 (rem h k)) (1+nx):=by
   refine⟨by omega,fun j q hq=>?_⟩;obtain⟨i,o,rfl,hne,hi,rfl⟩:=hF j q hq;have hlow:=H.low i o hi;obtain⟨wr,g,sz,cs,rfl⟩:=hcells i o hi;refine⟨by omega,by omega,rfl,rfl,rfl,?_,fun v hv=>?_⟩
   ·rw [List.map_map];exact List.map_congr_left fun v hv=>(aGv (H.sc i _ hi v hv)).symm
   ·obtain⟨u,hu,rfl⟩:=List.mem_map.1 hv;exact aBm (H.sc i _ hi u hu)
  have hAll:X2 (kQ 1 (rem h k)):=fun j q hq=>by
   obtain⟨i,o,_,_,hi,rfl⟩:=hF j q hq;obtain⟨wr,g,sz,cs,rfl⟩:=hcells i o hi;exact⟨_,_,_,_,rfl⟩
  have H0:aT (AJ k ι) B ((0,.cells true false 1 (flat aN.fl l))::kQ 1 (rem h k)) (1+nx) w:=by
   refine⟨fun j q hq=>?_,fun j j' q q' hq hq' hne ha b hb=>?_,fun j q hq=>?_,H.size,fun j q hq=>?_⟩
   ·rw [aE] at hq;split at hq
    ·rename_i hb;injection hq with hq;subst hq;have:=beq_true hb;subst this;rw [pI];exact K6 (aG aN l) (H.obj k _ hk)
    ·obtain⟨i,o,rfl,hne,hi,rfl⟩:=hF j q hq;obtain⟨wr,g,sz,cs,rfl⟩:=hcells i o hi;rw [kR];exact VU (H.obj i _ hi) (H.sc i _ hi) hι0
   ·rw [aE] at hq hq';split at hq
    ·rename_i hb1;have:=beq_true hb1;subst this;split at hq'
     ·rename_i hb2;exact absurd (beq_true hb2) hne
     ·obtain⟨i,o,rfl,hni,hi,rfl⟩:=hF j' q' hq';rw [pI] at hb;rw [kR];exact H.sep k i _ _ hk hi (fun e=>hni e.symm) rfl b hb
    ·obtain⟨i,o,rfl,hni,hi,rfl⟩:=hF j q hq;rw [J5] at ha;rw [kR] at hb;split at hq'
     ·rename_i hb2;have:=beq_true hb2;subst this;rw [pI];exact H.sep i k _ _ hi hk hni ha b hb
     ·obtain⟨i',o',rfl,hni',hi',rfl⟩:=hF j' q' hq';rw [kR];exact H.sep i i' _ _ hi hi' (fun e=>hne (by rw [e])) ha b hb
   ·rw [aE] at hq;split at hq
    ·rename_i hb;rw [← beq_true hb];omega
    ·exact (hFr.2 j q hq).2.1
   ·rw [aE] at hq;split at hq
    ·injection hq with hq;subst hq;exact fun v hv=>cL (aW (aG aN l) hv)
    ·obtain⟨i,o,rfl,hni,hi,rfl⟩:=hF j q hq;obtain⟨wr,g,sz,cs,rfl⟩:=hcells i o hi;intro v hv;obtain⟨u,hu,rfl⟩:=List.mem_map.1 hv;exact aCp (H.sc i _ hi u hu) hι0
  have hrun:=hC f _ _ (1+nx) _ (a4 _ _ (1+p) hFr hAll (aD2 hdir)) (AJ k ι) B w H0 (fun v hv=>by
   cases hv with
   |head=>exact⟨show 0<1+nx by omega,fun hf=>hsl.2 (by rw [pI] at hf;exact hf)⟩
   |tail _ hm =>
    rcases List.mem_append.1 hm with hm|hm
    ·exact cY (cB a1 hm)
    ·simp only [List.mem_cons,List.not_mem_nil,or_false] at hm;subst hm;exact aEU hcp)
  refine⟨hrun.1,?_⟩;have he:((.slice (some ⟨k,0,none⟩) l.length c::(r++[mJ p])):List Value).map (tr ι)=((.slice (some ⟨0,0,none⟩) l.length c::(r++[mJ (1+p)])):List Value).map (tr (AJ k ι)):=by
   rw [List.map_cons,List.map_cons,List.map_append,List.map_append];congr 1;congr 1
   ·exact List.map_congr_left fun v hv=>by rw [gY (cB a1 hv),gY (cB a1 hv)]
   ·exact congrArg (fun v=>[v]) aDW
  rw [he];refine CallsIn.mono hrun.2 fun e w' hret=>?_;cases e with
  |returned u =>
   obtain⟨v,h',nx',ι1,⟨rfl,rfl⟩,q2,q3,q4,q5,q6,rfl⟩:=hret;have hι1:∀ j,j<nx→ι1 (1+j)=ι j:=fun j hj=>(q5 (1+j) (by omega)).trans (kR k ι j);have hι10:ι1 0=ι k:=(q5 0 (by omega)).trans (pI k ι);have hback:∀ j o,look (r7 h k (.cells true false 1 (flat aN.fl l'))) j=some o→(j=k∧o=.cells true false 1 (flat aN.fl l'))∨(j≠k∧look h j=some o):=by
    intro j o hj;rw [mC] at hj;split at hj
    ·rename_i e;injection hj with hj;exact .inl ⟨e,hj.symm⟩
    ·rename_i e;exact .inr ⟨e,hj⟩
   refine⟨.tuple #[],_,nx,ι,hx,?_,⟨fun j o hj=>?_,fun j j' o o' hj hj' hne ha b hb=>?_,fun j o hj=>?_,q3.size,fun j o hj=>?_⟩,q4,fun _ _=>rfl,Nat.le_refl _,?_⟩
   ·exact fun v hv=>(by cases hv)
   ·rcases hback j o hj with ⟨rfl,rfl⟩|⟨hne,hj⟩
    ·have:=q3.obj 0 (.cells true false 1 (flat aN.fl l')) rfl;rw [hι10] at this;exact K6 a2 this
    ·obtain⟨wr,g,sz,cs,rfl⟩:=hcells j o hj;have hlow:=H.low j _ hj;have h1:look ((0,.cells true false 1 (flat aN.fl l'))::kQ 1 (rem h k)) (1+j)=some (LY 1 (.cells wr g sz cs)):=by
      rw [aE,show Nat.beq 0 (1+j)=false by cases hb:Nat.beq 0 (1+j) with|false=>rfl|true=>have:=beq_true hb;omega];exact fC _ (by rw [c7,if_neg hne];exact hj)
     have h2:=q3.obj _ _ h1;rw [hι1 j hlow] at h2;refine I4 h2 (H.sc j _ hj) hι1 ?_;intro hgt;have h3:=H.obj j _ hj;cases hl:ι j with
     |nil p =>
      rw [hl] at h3;have h4:cs=[]∧(sz=0∨wr=true→p.isSome=true):=(by cases wr <;> exact h3);rw [h4.1];rfl
     |lay b off ex =>
      rw [hl] at h3;cases wr with
      |true=>exact h3.2.1 hgt
      |false=>exact h3.2.1 hgt
   ·rcases hback j o hj with ⟨e3,e4⟩|⟨hnk,hj2⟩
    ·rcases hback j' o' hj' with ⟨e5,e6⟩|⟨hnk',hj3⟩
     ·exact absurd (e3.trans e5.symm) hne
     ·exact H.sep j j' _ _ (by rw [e3];exact hk) hj3 hne rfl b hb
    ·rcases hback j' o' hj' with ⟨e5,e6⟩|⟨hnk',hj3⟩
     ·exact H.sep j j' _ _ hj2 (by rw [e5];exact hk) hne ha b hb
     ·exact H.sep j j' _ _ hj2 hj3 hne ha b hb
   ·rcases hback j o hj with ⟨rfl,rfl⟩|⟨hnk,hj⟩
    ·exact hsl.1
    ·exact H.low j o hj
   ·rcases hback j o hj with ⟨rfl,rfl⟩|⟨hnk,hj⟩
    ·exact fun v hv=>cL (aW a2 hv)
    ·exact H.sc j o hj
   ·simp [tr]
  |_=>exact hret.elim
 ·obtain⟨k,c,r,p,l,D,rfl,hk,hcH,hdir,hx⟩:=hx;split at hx
  case h_2=>exact hx.elim
  rename_i pr e1;obtain⟨hb,hx⟩:=aH.1 hx;exact⟨_,_,_,hx,fun K' hk'=>⟨k,c,r,p,l,D,rfl,hk,hcH,hdir,by rw [e1];exact aJ hb hk'⟩⟩
end
end Go.Aw
end

noncomputable section
namespace Go.Aw
set_option maxRecDepth 100000
def m7 (L:List Int)(x y:Nat):List Int:=(L.set x (aK L y)).set y (aK L x)
theorem jA (L:List Int)(x y:Nat):(m7 L x y).length=L.length:=by simp [m7]
theorem DQ {L:List Int}{x y o1 o2:Nat}(h1:o1=x*1)(h2:o2=y*1)(hx:x<L.length)(hy:y<L.length):c8 (c8 (flat aN.fl L) o1 [iv (aK L y)]) o2 [iv (aK L x)]=flat aN.fl (m7 L x y):=by
 rw [h1,h2,EG _ _ _ hx,EG _ _ _ (by rw [List.length_set];exact hy)];rfl
def pK (L:List Int)(a b:Nat):Nat→List Int
 |0=>L
 |i+1=>m7 (pK L a b i) (a+i) (b+i)
theorem iX (L:List Int)(a b:Nat):∀ i,(pK L a b i).length=L.length
 |0=>rfl
 |i+1=>by unfold pK;rw [jA];exact iX L a b i
def aH5 (D:List Dt)(l:List Int)(r:List Value)(c:Nat):Option (Bool × List Int):=match r with
 |[.int .i64 a,.int .i64 b,.int .i64 n]=>some (decide (0≤a)&&decide (0≤b)&&decide (0≤n)&&decide (a+n≤l.length)&&decide (b+n≤l.length)&&decide (l.length≤1000000),pK l a.toNat b.toNat n.toNat)
 |_=>none
theorem aDb {D:List Dt}{l:List Int}{r:List Value}{c:Nat}{l':List Int}(h:aH5 D l r c=some (true,l')):∃ a b n:Int,r=[iv a,iv b,iv n]∧0≤a∧0≤b∧0≤n∧a+n≤l.length∧b+n≤l.length∧l.length≤1000000∧l'=pK l a.toNat b.toNat n.toNat:=by
 unfold aH5 at h;split at h
 ·rename_i a b n;injection h with h;injection h with h1 h2;simp only [Bool.and_eq_true,decide_eq_true_eq] at h1;exact⟨a,b,n,rfl,h1.1.1.1.1.1,h1.1.1.1.1.2,h1.1.1.1.2,h1.1.1.2,h1.1.2,h1.2,h2.symm⟩
 ·cases h
def XU (N c:Nat)(a b n j:Int):List (Nat × Value):=[(0,.slice (some ⟨0,0,none⟩) N c),(1,iv a),(2,iv b),(3,iv n),(10,iv j)]
theorem cV {nx N c k:Nat}{e:List (Nat × Value)}(h:1≤nx)(he:look e k=some (.slice (some ⟨0,0,none⟩) N c)):look e k=some (iQ id (.slice (some ⟨0,0,none⟩) N c))∧BB nx (.slice (some ⟨0,0,none⟩) N c):=⟨he,h,fun h=>by cases h⟩
def aAT:Nat × XF:=(276,RH aH5)
theorem aKq:cH Go.Proofs.Tryz.prog aAT.1 aAT.2:=sT (aL (xl:=[]) .nil) fun D l r c l' hs=>by
 obtain⟨a,b,n,rfl,ha,hb,hn,han,hbn,hl,rfl⟩:=aDb hs;refine⟨rfl,fun F nx p hF hC hD=>?_⟩;(conv=>whnf);refine⟨fun q e h nx'=>∃ (i:Nat) (j:Int),j=i∧i≤n.toNat∧q=n.toNat - i∧e=XU l.length c a b n j∧h=(0,.cells true false 1 (flat aN.fl (pK l a.toNat b.toNat i)))::F∧nx'=nx,⟨n.toNat,?_⟩,?_⟩
 ·refine bL (e0:=XU l.length c a b n 0) (o0:=.cells true false 1 (flat aN.fl l)) (n0:=nx) hF ⟨0,0,rfl,Nat.zero_le _,rfl,rfl,rfl,rfl⟩ ?_ (aO (aG _ _)) (Nat.le_refl _);unfold XU;refine List.forall_mem_cons.2 ⟨cV hF.1 rfl,?_⟩;((repeat' refine iE rfl rfl ?_);exact iN)
 ·rintro q e h nx' ⟨i,j,hj,hi,rfl,rfl,rfl,rfl⟩;have sl:=iX l a.toNat b.toNat i;have nxt:pK l a.toNat b.toNat (i+1)=m7 (pK l a.toNat b.toNat i) (a.toNat+i) (b.toNat+i):=rfl;generalize hs0:pK l a.toNat b.toNat i=L at sl nxt;have hl1:(flat aN.fl L).length=L.length:=(by rw [bD];exact Nat.mul_one _);unfold XU;((conv=>whnf);refine bm (fun h1=>?_) (fun h1=>?_))
  ·have hlt:i<n.toNat:=(by simp [aA,aB] at h1;omega);have bQ:=DQ (L:=L) (x:=a.toNat+i) (y:=b.toNat+i) (o1:=0+(a+j).toNat*1) (o2:=0+(b+j).toNat*1) (by omega) (by omega) (by omega) (by omega)
   repeat' first
    |(((conv=>whnf);refine bm (fun g=>?_) (fun g=>?_)))
    |((conv=>whnf)
      refine gI (eK L (i:=a.toNat+i) (by omega) ?_) ?_
      ·show _+Int.toNat (a+j)*1=_;omega)
    |((conv=>whnf)
      refine gI (eK L (i:=b.toNat+i) (by omega) ?_) ?_
      ·show _+Int.toNat (b+j)*1=_;omega)
   all_goals first
    |(exfalso;simp [aA,aB,aI] at g;omega)
    |(have g:(0+(a+j).toNat*1+1).ble (flat aN.fl L).length=false:=g
      rw [hl1] at g;exact eV g (by omega))
    |(have g:(0+(b+j).toNat*1+1).ble (c8 (flat aN.fl L) (0+(a+j).toNat*1) [iv (aK L (b.toNat+i))]).length=false:=g
      rw [dL (by rw [hl1];show 0+(a+j).toNat*1+1≤L.length;omega),hl1] at g;exact eV g (by omega))
    |skip
   (conv=>whnf);refine⟨n.toNat - (i+1),by omega,?_⟩;refine bL (e0:=XU l.length c a b n (j+1)) (o0:=.cells true false 1 (flat aN.fl (m7 L (a.toNat+i) (b.toNat+i)))) (n0:=nx') hF ⟨i+1,j+1,by omega,by omega,rfl,rfl,by rw [nxt],rfl⟩ ?_ (aZ (aG _ _) bQ) (Nat.le_refl _);unfold XU;refine List.forall_mem_cons.2 ⟨cV hF.1 rfl,?_⟩;((repeat' refine iE rfl rfl ?_);exact iN)
  ·have hge:i=n.toNat:=(by simp [aA,aB] at h1;omega);(conv=>whnf);exact⟨rfl,by rw [← hs0,hge]⟩
def bX (m:Nat):Nat→List Int→Nat→Nat→List Int
 |0,L,_,_=>L
 |k+1,L,i,j=>if i=j then pK L (m - i) m i else if j<i then bX m k (pK L (m - i) m j) (i - j) j else bX m k (pK L (m - i) (m+j - i) i) i (j - i)
def aIa (D:List Dt)(l:List Int)(r:List Value)(c:Nat):Option (Bool × List Int):=match r with
 |[.int .i64 a,.int .i64 m,.int .i64 b]=>some (decide (0≤a)&&decide (a<m)&&decide (m<b)&&decide (b≤l.length)&&decide (l.length≤1000000),bX m.toNat ((m - a).toNat+(b - m).toNat) l (m - a).toNat (b - m).toNat)
 |_=>none
theorem aCC {D:List Dt}{l:List Int}{r:List Value}{c:Nat}{l':List Int}(h:aIa D l r c=some (true,l')):∃ a m b:Int,r=[iv a,iv m,iv b]∧0≤a∧a<m∧m<b∧b≤l.length∧l.length≤1000000∧l'=bX m.toNat ((m - a).toNat+(b - m).toNat) l (m - a).toNat (b - m).toNat:=by
 unfold aIa at h;split at h
 ·rename_i a m b;injection h with h;injection h with h1 h2;simp only [Bool.and_eq_true,decide_eq_true_eq] at h1;exact⟨a,m,b,rfl,h1.1.1.1.1,h1.1.1.1.2,h1.1.1.2,h1.1.2,h1.2,h2.symm⟩
 ·cases h
def PS (N c:Nat)(m i j:Int)(p:Nat):List (Nat × Value):=[(0,.slice (some ⟨0,0,none⟩) N c),(2,iv m),(4,mJ p),(10,iv i),(11,iv j)]
theorem dP {nx p k:Nat}{e:List (Nat × Value)}(h:p<nx)(he:look e k=some (mJ p)):look e k=some (iQ id (mJ p))∧BB nx (mJ p) :=
 ⟨by rw [aCe];exact he,trivial,fun v hv=>by
  simp only [List.mem_cons,List.not_mem_nil,or_false] at hv;subst hv;exact⟨h,rfl⟩⟩
theorem yV {F:Heap}{p nx:Nat}{D:List Dt}(hF:LL F nx)(h:nN F p D):p<nx:=by
 obtain⟨b,c,k0,k1,wr,g,sz,r0,wr1,g1,sz1,r1,wr2,g2,sz2,cs,n0,c0,n1,c1,f,cc,h1,_⟩:=h;exact (hF.2 p _ h1).2.1
def aBd:Nat × XF:=(273,RH aIa)
theorem aJS:cH Go.Proofs.Tryz.prog aBd.1 aBd.2:=sT (aL (xl:=[aAT]) (.cons aKq .nil)) fun D l r c l' hs=>by
 obtain⟨a,m,b,rfl,ha,ham,hmb,hb,hl,rfl⟩:=aCC hs;refine⟨rfl,fun F nx p hF hC hD=>?_⟩;have hp:=yV hF hD;((conv=>whnf);refine bm (fun g1=>?_) (fun g1=>?_))
 ·((conv=>whnf);refine bm (fun g2=>?_) (fun g2=>?_))
  ·(conv=>whnf)
   refine⟨fun q e h nx'=>∃ (i j k:Nat) (x y:Int) (L:List Int),x=i∧y=j∧1≤i∧1≤j∧i≤m.toNat∧m.toNat+j≤l.length∧i+j≤k∧q=i+j∧L.length=l.length ∧
    bX m.toNat ((m - a).toNat+(b - m).toNat) l (m - a).toNat (b - m).toNat=bX m.toNat k L i j∧e=PS l.length c m x y p∧h=(0,.cells true false 1 (flat aN.fl L))::F∧nx'=nx,⟨(m - a).toNat+(b - m).toNat,?_⟩,?_⟩
   ·refine bL (e0:=PS l.length c m (m - a) (b - m) p) (o0:=.cells true false 1 (flat aN.fl l)) (n0:=nx) hF ⟨(m - a).toNat,(b - m).toNat,_,m - a,b - m,l,by omega,by omega,by omega,by omega,by omega,by omega,Nat.le_refl _,rfl,rfl,rfl,rfl,rfl,rfl⟩ ?_ (aO (aG _ _)) (Nat.le_refl _);unfold PS;refine List.forall_mem_cons.2 ⟨cV hF.1 rfl,List.forall_mem_cons.2 ⟨⟨rfl,cY rfl⟩,List.forall_mem_cons.2 ⟨dP hp rfl,?_⟩⟩⟩;((repeat' refine iE rfl rfl ?_);exact iN)
   ·rintro q e h nx' ⟨i,j,k,x,y,L,hx,hy,hi1,hj1,hi,hj,hk,rfl,hL,hrot,rfl,rfl,rfl⟩;unfold PS;((conv=>whnf);refine bm (fun h1=>?_) (fun h1=>?_))
    ·have h1:i≠j:=by
      have:x≠y:=(by simpa [aA,aB] using h1);omega
     obtain⟨k',rfl⟩:∃ k',k=k'+1:=⟨k - 1,by omega⟩;((conv=>whnf);refine bm (fun h2=>?_) (fun h2=>?_))
     ·have h2:j<i:=(by simp [aA,aB] at h2;omega);((conv=>whnf);refine bm (fun h3=>?_) (fun h3=>?_))
      ·(conv=>whnf);refine⟨0,c,[iv (m - x),iv m,iv y],p,L,D,by rw [hL];rfl,rfl,?_,?_,?_⟩
       ·exact aV hC
       ·exact a8 hF hD
       ·((conv=>whnf);refine bm (fun h4=>?_) (fun h4=>?_))
        ·((conv=>whnf);refine bm (fun h5=>?_) (fun h5=>?_))
         ·(conv=>whnf);refine⟨_,Nat.lt_of_lt_of_le (show i - j+j<i+j by omega) (Nat.le_refl _),?_⟩;refine bL (e0:=PS l.length c m (x - y) y p) (o0:=.cells true false 1 (flat aN.fl (pK L (m.toNat - i) m.toNat j))) (n0:=nx') hF ⟨i - j,j,k',x - y,y,_,by omega,hy,by omega,hj1,by omega,hj,by omega,rfl,by rw [iX,hL],?_,rfl,rfl,rfl⟩ ?_ (aZ (aG _ _) ?_) (Nat.le_refl _)
          ·rw [hrot]
           conv=>lhs;unfold bX
           rw [if_neg h1,if_pos h2]
          ·unfold PS;refine List.forall_mem_cons.2 ⟨cV hF.1 rfl,List.forall_mem_cons.2 ⟨⟨rfl,cY rfl⟩,List.forall_mem_cons.2 ⟨dP hp rfl,?_⟩⟩⟩;((repeat' refine iE rfl rfl ?_);exact iN)
          ·show flat aN.fl (pK L (m - x).toNat m.toNat y.toNat)=_;rw [show (m - x).toNat=m.toNat - i by omega,show y.toNat=j by omega]
         ·exfalso;simp [aA,aB,aI] at h5;omega
        ·exfalso;have h4:(decide (0≤m - x)&&decide (0≤m)&&decide (0≤y)&&decide (m - x+y≤L.length)&&decide (m+y≤L.length)&&decide (L.length≤1000000))=false:=h4;simp at h4;omega
      ·exfalso;simp [aA,aB,aI] at h3;omega
     ·have h2:i<j:=(by simp [aA,aB] at h2;omega);((conv=>whnf);refine bm (fun h3=>?_) (fun h3=>?_))
      ·((conv=>whnf);refine bm (fun h3b=>?_) (fun h3b=>?_))
       ·((conv=>whnf);refine bm (fun h3c=>?_) (fun h3c=>?_))
        ·(conv=>whnf);refine⟨0,c,[iv (m - x),iv (m+y - x),iv x],p,L,D,by rw [hL];rfl,rfl,?_,?_,?_⟩
         ·exact aV hC
         ·exact a8 hF hD
         ·((conv=>whnf);refine bm (fun h4=>?_) (fun h4=>?_))
          ·((conv=>whnf);refine bm (fun h5=>?_) (fun h5=>?_))
           ·(conv=>whnf);refine⟨_,Nat.lt_of_lt_of_le (show i+(j - i)<i+j by omega) (Nat.le_refl _),?_⟩;refine bL (e0:=PS l.length c m x (y - x) p) (o0:=.cells true false 1 (flat aN.fl (pK L (m.toNat - i) (m.toNat+j - i) i))) (n0:=nx') hF ⟨i,j - i,k',x,y - x,_,hx,by omega,hi1,by omega,hi,by omega,by omega,rfl,by rw [iX,hL],?_,rfl,rfl,rfl⟩ ?_ (aZ (aG _ _) ?_) (Nat.le_refl _)
            ·rw [hrot]
             conv=>lhs;unfold bX
             rw [if_neg h1,if_neg (by omega)]
            ·unfold PS;refine List.forall_mem_cons.2 ⟨cV hF.1 rfl,List.forall_mem_cons.2 ⟨⟨rfl,cY rfl⟩,List.forall_mem_cons.2 ⟨dP hp rfl,?_⟩⟩⟩;((repeat' refine iE rfl rfl ?_);exact iN)
            ·show flat aN.fl (pK L (m - x).toNat (m+y - x).toNat x.toNat)=_;rw [show (m - x).toNat=m.toNat - i by omega,show (m+y - x).toNat=m.toNat+j - i by omega,show x.toNat=i by omega]
           ·exfalso;simp [aA,aB,aI] at h5;omega
          ·exfalso;have h4:(decide (0≤m - x)&&decide (0≤m+y - x)&&decide (0≤x)&&decide (m - x+x≤L.length)&&decide (m+y - x+x≤L.length)&&decide (L.length≤1000000))=false:=h4;simp at h4;omega
        ·exfalso;simp [aA,aB,aI] at h3c;omega
       ·exfalso;simp [aA,aB,aI] at h3b;omega
      ·exfalso;simp [aA,aB,aI] at h3;omega
    ·have h1:i=j:=by
      have:x=y:=(by simpa [aA,aB] using h1);omega
     obtain⟨k',rfl⟩:∃ k',k=k'+1:=⟨k - 1,by omega⟩;((conv=>whnf);refine bm (fun h3=>?_) (fun h3=>?_))
     ·(conv=>whnf);refine⟨0,c,[iv (m - x),iv m,iv x],p,L,D,by rw [hL];rfl,rfl,?_,?_,?_⟩
      ·exact aV hC
      ·exact a8 hF hD
      ·((conv=>whnf);refine bm (fun h4=>?_) (fun h4=>?_))
       ·(conv=>whnf);refine⟨rfl,?_⟩;rw [hrot]
        conv=>rhs;unfold bX
        rw [if_pos h1];show (0,aX.cells true false 1 (flat aN.fl (pK L (m - x).toNat m.toNat x.toNat)))::F=_;rw [show (m - x).toNat=m.toNat - i by omega,show x.toNat=i by omega]
       ·exfalso;have h4:(decide (0≤m - x)&&decide (0≤m)&&decide (0≤x)&&decide (m - x+x≤L.length)&&decide (m+x≤L.length)&&decide (L.length≤1000000))=false:=h4;simp at h4;omega
     ·exfalso;simp [aA,aB,aI] at h3;omega
  ·exfalso;simp [aA,aB,aI] at g2;omega
 ·exfalso;simp [aA,aB,aI] at g1;omega
end Go.Aw
end
