/-
  Parts of a proof. No condition.
-/
import Derived.Test.YticajjhjehljpaaGreatQAi
import Derived.Test.YticajjhjehljpaaGreatQAl
set_option linter.unusedSimpArgs false
set_option linter.unusedVariables false
noncomputable section
namespace Go.Aw
set_option maxRecDepth 100000
set_option maxHeartbeats 2000000
def aL4 (s:List Pt→List Dt→List (List Int)→List Value→YS Int):XF:=fun args h nx K =>
 ∃ p r k0 k1 kd kt kf nm l D ls nE c1 c2 n fo,args=.pointer (some ⟨p,0,none⟩)::r∧wC h p k0 k1 kd kt kf nm l D ls nE c1 c2 n fo ∧
 (match s l D ls r with|some pr=>dT pr.1 (K (ylV pr.2.1 pr.2.2 nx) (cU h nx (.cells true false 1 (flat aR.fl pr.2.1))) (nx+1))|none=>False)
theorem aFB {P:Program}{C:VC}{f:Nat}{s:List Pt→List Dt→List (List Int)→List Value→YS Int}(hC:bC P C)
  (hs:∀ l D ls r out rest,s l D ls r=some (true,out,rest)→fN r=true∧dL rest=true∧ls.length≤1000∧∃ s0,∀ nE c1 c2 n fo,C f (.pointer (some ⟨0,0,none⟩)::r) (fK l D ls nE c1 c2 n fo s0) 2000 (YW aR out rest)):dJ P f (aL4 s):=by
 refine (jD (S:=fun args0 h0 n0 v1 h1 k=>∃ l D ls r s0 nE c1 c2 n fo out rest,dL rest=true∧C f (.pointer (some ⟨0,0,none⟩)::r) (fK l D ls nE c1 c2 n fo s0) 2000 (YW aR out rest)∧args0=.pointer (some ⟨0,0,none⟩)::r∧h0=fK l D ls nE c1 c2 n fo s0∧n0=2000∧v1=ylV out rest 0∧h1=ylH aR out∧k=1) hC ?_).mono ?_ ?_
 ·rintro args0 h0 n0 v1 h1 k ⟨l,D,ls,r,s0,nE,c1,c2,n,fo,out,rest,e2,e3,rfl,rfl,rfl,rfl,rfl,rfl⟩;exact⟨rfl,_,e3,fun v h nx e=>aJB aR e2 e⟩
 ·rintro args h nx K ⟨p,r,k0,k1,kd,kt,kf,nm,l,D,ls,nE,c1,c2,n,fo,rfl,hw,hx⟩;split at hx
  case h_2=>exact hx.elim
  rename_i pr e1;obtain⟨bb,out,rest⟩:=pr;obtain⟨rfl,hx⟩:=aD.1 hx;obtain⟨a1,a2,a3,s0,a4⟩:=hs l D ls r out rest e1;exact⟨_,_,2000,_,_,1,⟨l,D,ls,r,s0,nE,c1,c2,n,fo,out,rest,a2,a4 nE c1 c2 n fo,rfl,rfl,rfl,rfl,rfl,rfl⟩,aCM hw a3 s0 a1,aLX aR a2 hx⟩
 rintro args h nx K ⟨p,r,k0,k1,kd,kt,kf,nm,l,D,ls,nE,c1,c2,n,fo,rfl,hw,hx⟩;split at hx
 case h_2=>exact hx.elim
 rename_i pr e1;obtain⟨hb,hx⟩:=aD.1 hx;exact⟨_,_,_,hx,fun K' hk=>⟨p,r,k0,k1,kd,kt,kf,nm,l,D,ls,nE,c1,c2,n,fo,rfl,hw,by rw [e1];exact aJ hb hk⟩⟩
theorem aV {W h:Heap}{q:Nat}{v:bH}(hx:∀ k o,look W k=some o→look h k=some o)(hq:look W q=none):∀ k o,look W k=some o→look (cU h q v) k=some o:=ext_cons hx hq
theorem gK {W h:Heap}{q:Nat}(hx:∀ k o,look W k=some o→look h k=some o)(hq:look W q=none):∀ k o,look W k=some o→look (rem h q) k=some o:=fun k o hk=>by
 rw [dN,if_neg (fun e=>by rw [e,hq] at hk;cases hk)];exact hx k o hk
theorem c8 {W h:Heap}{q:Nat}{v:bH}(hx:∀ k o,look W k=some o→look h k=some o)(hq:look W q=none):∀ k o,look W k=some o→look (xA h q v) k=some o:=fun k o hk=>by
 rw [kB _ _ (fun e=>by rw [e,hq] at hk;cases hk)];exact hx k o hk
def jT (D:List Dt)(ls:List (List Int))(d:Int):Nat→Int
 |0=>d
 |i+1=>vU D ls (jT D ls d i)
def GL (D:List Dt)(ls:List (List Int))(d:Int):Nat→Nat→Nat
 |0,i=>i
 |k+1,i=>if jT D ls d i=d then i else GL D ls d k (i+1)
theorem jI (D:List Dt)(ls:List (List Int))(d:Int):∀ (k i:Nat),i≤GL D ls d k i∧GL D ls d k i≤i+k∧∀ t,i≤t→t<GL D ls d k i→jT D ls d t≠d
 |0,i=>by unfold GL;exact⟨Nat.le_refl _,Nat.le_refl _,fun t h1 h2=>by omega⟩
 |k+1,i=>by
  unfold GL;split
  ·exact⟨Nat.le_refl _,by omega,fun t h1 h2=>by omega⟩
  rename_i h;obtain⟨h1,h2,h3⟩:=jI D ls d k (i+1);refine⟨by omega,by omega,fun t h4 h5=>?_⟩;by_cases e:t=i
  ·rw [e];exact h
  exact h3 t (by omega) h5
def iT (D:List Dt)(ls:List (List Int))(d:Int):Nat:=GL D ls d D.length 1
def kS (D:List Dt)(ls:List (List Int))(d:Int):List Int:=(List.range (iT D ls d)).map (jT D ls d)
def xH (l:List Pt)(D:List Dt)(ls:List (List Int)):Bool:=IJ l D ls&&(List.range D.length).all fun i=>nxB D ls i&&(decide (0≤vU D ls i)&&decide (vU D ls i<D.length))
theorem MY {l:List Pt}{D:List Dt}{ls:List (List Int)}(h:xH l D ls=true){d:Int}(h1:0≤d)(h2:d<D.length):nxB D ls d=true∧0≤vU D ls d∧vU D ls d<D.length:=by
 simp only [xH,Bool.and_eq_true] at h;have:=List.all_eq_true.1 h.2 d.toNat (List.mem_range.2 (by omega));rw [Int.toNat_of_nonneg h1] at this;simp only [Bool.and_eq_true,decide_eq_true_eq] at this;exact⟨this.1,this.2⟩
theorem DQ {l:List Pt}{D:List Dt}{ls:List (List Int)}(h:xH l D ls=true):IJ l D ls=true:=by
 simp only [xH,Bool.and_eq_true] at h;exact h.1
theorem SJ {l:List Pt}{D:List Dt}{ls:List (List Int)}(h:xH l D ls=true){d:Int}(h1:0≤d)(h2:d<D.length):∀ i,0≤jT D ls d i∧jT D ls d i<D.length
 |0=>⟨h1,h2⟩
 |i+1=>by
  have ih:=SJ h h1 h2 i;exact (MY h ih.1 ih.2).2
def wkS (l:List Pt)(D:List Dt)(ls:List (List Int)):List Value→YS Int
 |[.int .i64 d]=>some (xH l D ls&&decide (0≤d)&&decide (d<D.length)&&decide (jT D ls d (iT D ls d)=d),kS D ls d,[])
 |_=>none
def itL (D:List Dt)(ls:List (List Int))(d:Int)(i:Nat):List Int:=(List.range i).map (jT D ls d)
theorem XJ (D:List Dt)(ls:List (List Int))(d:Int)(i:Nat):(itL D ls d i).length=i:=by simp [itL]
theorem aKP (D:List Dt)(ls:List (List Int))(d:Int)(i:Nat):itL D ls d (i+1)=itL D ls d i++[jT D ls d i]:=by
 unfold itL;rw [List.range_succ,List.map_append];rfl
theorem aCt {l:List Pt}{D:List Dt}{ls:List (List Int)}{d:Int}(h:nxB D ls d=true):nxS l D ls [iv d]=some (true,iv (vU D ls d)):=by
 show some (nxB D ls d,iv (vU D ls d))=_;rw [h]
def e83 (d:Int)(i:Nat)(x:Int):List (Nat × Value):=[(0,.pointer (some ⟨0,0,none⟩)),(1,iv d),(5,.slice (some ⟨2000,0,none⟩) i i),(6,iv x)]
def aK4:Nat × XF:=(42,aL4 wkS)
theorem aNb:dJ Go.Proofs.Tryz.prog aK4.1 aK4.2:=aFB (f:=42) (s:=wkS) (aK (xl:=[aJY]) (.cons aNO .nil)) fun l D ls r out rest hs=>by
 have:∃ d,r=[iv d]∧xH l D ls=true∧0≤d∧d<D.length∧jT D ls d (iT D ls d)=d∧out=kS D ls d∧rest=[]:=by
  unfold wkS at hs;split at hs
  ·rename_i d;injection hs with hs;injection hs with h1 h2;injection h2 with h2 h3;simp only [Bool.and_eq_true,decide_eq_true_eq] at h1;exact⟨d,rfl,h1.1.1.1,h1.1.1.2,h1.1.2,h1.2,h2.symm,h3.symm⟩
  ·cases hs
 obtain⟨d,rfl,hB,h1,h2,h3,rfl,rfl⟩:=this;clear hs;have hn:=KN (DQ hB);have hlow:=jI D ls d D.length 1;have hin:=SJ hB h1 h2;refine⟨rfl,rfl,by omega,ls.length,fun nE c1 c2 n fo=>?_⟩;have hout:kS D ls d=itL D ls d (iT D ls d):=rfl;have hno:∀ q,2000≤q→look (fK l D ls nE c1 c2 n fo ls.length) q=none:=fun q hq=>DS (by omega) (.inr hq);rw [hout];unfold iT at h3 ⊢;generalize GL D ls d D.length 1=N at h3 hlow ⊢;obtain⟨hN1,hN2,hN3⟩:=hlow;(conv=>whnf);refine⟨0,[iv d],4,5,1,2,6,tN ls.length,l,D,ls,nE,c1,c2,n,fo,rfl,MR (ext_cons (fun _ _ h=>h) (DS (by omega) (.inr (Nat.le_refl _)))),?_⟩;rw [aCt (MY hB h1 h2).1];refine aJ rfl ?_;(conv=>whnf);refine⟨fun q e h nx=>∃ i:Nat,1≤i∧i≤N∧q=N - i∧e=e83 d i (jT D ls d i)∧h=[(2000,.cells true false 1 (flat aR.fl (itL D ls d i)))]++fK l D ls nE c1 c2 n fo ls.length∧nx=2001,⟨N - 1,?_⟩,?_⟩
 ·refine rJ (P:=[(2000,.cells true false 1 (flat aR.fl (itL D ls d 1)))]) (W:=fK l D ls nE c1 c2 n fo ls.length) (e0:=e83 d 1 (jT D ls d 1)) (n0:=2001) [] ⟨1,Nat.le_refl _,hN1,rfl,rfl,rfl,rfl⟩ ?_ (tE (by omega)) (ext_cons (fun _ _ h=>h) (DS (by omega) (.inr (Nat.le_refl _)))) ?_ ?_ (fun _ h=>(by cases h)) (by omega)
  ·unfold e83;((repeat' refine iE rfl rfl ?_);exact iN)
  ·exact List.forall_mem_cons.2 ⟨⟨Nat.le_refl _,Nat.lt_succ_self _,Nat.le_refl _,_,rfl,bW (aC _ _) rfl⟩,fun _ h=>(by cases h)⟩
  show ∀ k∈[2000],∀ k'∈[2000],_;decide
 rintro q e h nx ⟨i,hi1,hi,rfl,rfl,rfl,rfl⟩;unfold e83;((conv=>whnf);apply bm<;>intro g1);rotate_left
 ·have hx:jT D ls d i=d:=(by simpa [aA,aF] using g1);have hge:i=N:=by
   refine Decidable.byContradiction fun hc=>hN3 i hi1 (by omega) hx
  subst hge;(conv=>whnf);refine⟨2000,?_,rfl⟩;unfold ylV;rw [XJ];rfl
 have hx:jT D ls d i≠d:=(by simpa [aA,aF] using g1);have hlt:i<N:=by
  refine Decidable.byContradiction fun hc=>hx ?_;rw [show i=N by omega];exact h3
 have hB':=MY hB (hin i).1 (hin i).2;have hs:itL D ls d (i+1)=itL D ls d i++[jT D ls d i]:=aKP D ls d i;have hll:=XJ D ls d i;have hnx:jT D ls d (i+1)=vU D ls (jT D ls d i):=rfl;generalize itL D ls d i=M at hs hll ⊢
 repeat' first
  |((conv=>whnf)
    refine bm1 (k:=i) ?_)
  |(((conv=>whnf);apply bm<;>intro g))
 ·(conv=>whnf);refine⟨0,[iv (jT D ls d i)],4,5,1,2,6,tN ls.length,l,D,ls,nE,c1,c2,n,fo,rfl,MR ?_,?_⟩
  ·exact aV (gK (aV (ext_cons (fun _ _ h=>h) (hno _ (by omega))) (hno _ (by omega))) (hno _ (by omega))) (hno _ (by omega))
  rw [aCt hB'.1];refine aJ rfl ?_;(conv=>whnf);refine⟨N - (i+1),by omega,?_⟩;refine rJ (P:=[(2000,.cells true false 1 (flat aR.fl (itL D ls d (i+1))))]) (W:=fK l D ls nE c1 c2 n fo ls.length) (e0:=e83 d (i+1) (jT D ls d (i+1))) (n0:=2001) [(2000,2002)] ⟨i+1,by omega,by omega,rfl,rfl,rfl,rfl⟩ ?_ (tE (by omega)) ?_ ?_ ?_ (by decide) (by omega)
  ·unfold e83;((repeat' refine iE rfl rfl ?_);exact iN)
  ·exact aV (gK (aV (ext_cons (fun _ _ h=>h) (hno _ (by omega))) (hno _ (by omega))) (hno _ (by omega))) (hno _ (by omega))
  ·refine List.forall_mem_cons.2 ⟨⟨Nat.le_refl _,Nat.lt_succ_self _,Nat.le_of_ble_eq_true rfl,_,rfl,bW (aC _ _) ?_⟩,fun _ h=>(by cases h)⟩;rw [hs,← nQ aR M (jT D ls d i) (n:=i) hll.symm];rfl
  show ∀ k∈[2000],∀ k'∈[2000],_;decide
 exact xY (by rw [cJ,hll];rfl) (by omega) g
def dX {α:Type}(ok:α→Prop)(A:α→List Value)(H:α→Heap)(N:α→Nat)(V:α→Value)(H':α→Heap)(N':α→Nat):XF:=fun args h nx K=>∃ a,ok a∧args=A a∧h=H a∧nx=N a∧K (V a) (H' a) (N' a)
theorem HE {α:Type}{ok:α→Prop}{A:α→List Value}{H:α→Heap}{N:α→Nat}{V:α→Value}{H':α→Heap}{N':α→Nat}{P:Program}{C:VC}{f:Nat}(hC:bC P C)
  (hs:∀ a,ok a→C f (A a) (H a) (N a) (fun v h nx=>∃ ρ,kV (N a) ρ [(0,V a)] (H' a) (N' a) [(0,v)] h nx)):dJ P f (dX ok A H N V H' N'):=by
 refine⟨fun args h nx K hx ι B w HH hsc=>?_,fun args h nx K hx=>?_⟩
 ·obtain⟨a,h1,rfl,rfl,rfl,hk⟩:=hx;obtain⟨c1,c2⟩:=hC f _ _ _ _ (hs a h1) ι B w HH hsc;refine⟨c1,CallsIn.mono c2 fun e w' hr=>?_⟩;cases e with
  |returned u =>
   obtain⟨v,h',nx',ι1,⟨ρ,hρ⟩,q2,q3,q4,q5,q6,rfl⟩:=hr;obtain⟨e1,e2⟩:=hρ.env 0 (V a) rfl;have ev:v=fL ρ (V a):=by
    have:some v=some (fL ρ (V a)):=e1;injection this
   subst ev;refine⟨V a,H' a,N' a,fun k=>ι1 (ρ k),hk,DM q2 e2,hρ.aJi q3,q4,fun k hk=>?_,hρ.le,E3 q2⟩;show ι1 (ρ k)=ι k;rw [hρ.fix k hk];exact q5 k hk
  |_=>exact hr.elim
 obtain⟨a,h1,h2,h3,h4,hk⟩:=hx;exact⟨_,_,_,hk,fun K' hk'=>⟨a,h1,h2,h3,h4,hk'⟩⟩
def mO (D:List Dt)(x:Int):Nat:=(bL D x.toNat).tt.toNat
def DN (D:List Dt)(ls:List (List Int)):Nat→List Bool→Nat→List Bool
 |0,S,_=>S
 |n+1,S,p=>(bE ls p).foldl (fun S x=>if cV S (mO D x)=true then S else DN D ls n S (mO D x)) (S.set p true)
def rB (D:List Dt)(ls:List (List Int))(n:Nat)(S:List Bool)(p i:Nat):List Bool:=((bE ls p).take i).foldl (fun S x=>if cV S (mO D x)=true then S else DN D ls n S (mO D x)) (S.set p true)
theorem aAB {D:List Dt}{ls:List (List Int)}{n:Nat}{S:List Bool}{p i:Nat}(hi:i<(bE ls p).length):rB D ls n S p (i+1)=if cV (rB D ls n S p i) (mO D (aE (bE ls p) i))=true then rB D ls n S p i else DN D ls n (rB D ls n S p i) (mO D (aE (bE ls p) i)):=by
 unfold rB;rw [List.take_succ_eq_append_getElem hi,List.foldl_append,bX hi];rfl
theorem aAX {D:List Dt}{ls:List (List Int)}{n:Nat}{S:List Bool}{p:Nat}:rB D ls n S p (bE ls p).length=DN D ls (n+1) S p:=by
 unfold rB;rw [List.take_length];rfl
def fU (S:List Bool):Nat:=S.countP fun b=>!b
theorem K6 {S:List Bool}{p:Nat}(hp:p<S.length)(h:cV S p=false):fU (S.set p true)+1=fU S:=by
 unfold fU;rw [tB hp] at h
 induction S generalizing p with
 |nil=>simp at hp
 |cons b r ih =>
  cases p with
  |zero =>
   simp only [List.getElem_cons_zero] at h;subst h;simp
  |succ p =>
   simp only [List.getElem_cons_succ] at h;have:=ih (by simpa using hp) h;simp only [List.set_cons_succ,List.countP_cons];omega
theorem SF (S:List Bool)(p:Nat):fU (S.set p true)≤fU S:=by
 unfold fU
 induction S generalizing p with
 |nil=>simp
 |cons b r ih =>
  cases p with
  |zero=>simp [List.countP_cons]
  |succ p =>
   have:=ih p;simp only [List.set_cons_succ,List.countP_cons];omega
theorem FL (D:List Dt)(ls:List (List Int)):∀ (n:Nat) (S:List Bool) (p:Nat),fU (DN D ls n S p)≤fU S∧(DN D ls n S p).length=S.length
 |0,S,p=>⟨Nat.le_refl _,rfl⟩
 |n+1,S,p=>by
  unfold DN;have key:∀ (L:List Int) (M:List Bool),fU (L.foldl (fun S x=>if cV S (mO D x)=true then S else DN D ls n S (mO D x)) M)≤fU M∧(L.foldl (fun S x=>if cV S (mO D x)=true then S else DN D ls n S (mO D x)) M).length=M.length:=by
   intro L
   induction L with
   |nil=>exact fun M=>⟨Nat.le_refl _,rfl⟩
   |cons x r ih =>
    intro M;rw [List.foldl_cons];split
    ·exact ih M
    obtain⟨a1,a2⟩:=ih (DN D ls n M (mO D x));obtain⟨b1,b2⟩:=FL D ls n M (mO D x);exact⟨by omega,by omega⟩
  obtain⟨a1,a2⟩:=key (bE ls p) (S.set p true);have:=SF S p;rw [List.length_set] at a2;exact⟨by omega,a2⟩
theorem VS {D:List Dt}{ls:List (List Int)}{n:Nat}{S:List Bool}{p:Nat}:∀ i,i≤(bE ls p).length→fU (rB D ls n S p i)≤fU (S.set p true)∧(rB D ls n S p i).length=S.length
 |0,_=>by unfold rB;simp
 |i+1,h=>by
  obtain⟨a1,a2⟩:=VS (D:=D) (ls:=ls) (n:=n) (S:=S) (p:=p) i (by omega);rw [aAB (by omega)];split
  ·exact⟨a1,a2⟩
  obtain⟨b1,b2⟩:=FL D ls n (rB D ls n S p i) (mO D (aE (bE ls p) i));exact⟨by omega,by omega⟩
structure aAZ where
 p:Int
 l:List Pt
 D:List Dt
 ls:List (List Int)
 nE:Nat
 c1:Nat
 c2:Nat
 n:Int
 fo:Option (Nat × Nat)
 S:List Bool
def aJ2:Value:=.func (.func 145) #[] #[.pointer (some ⟨2002,0,none⟩),.pointer (some ⟨2000,0,none⟩),.pointer (some ⟨2003,0,none⟩)]
def rW (a:aAZ)(S:List Bool):Heap:=(2003,.cells true false 1 [aJ2])::(2002,.cells true false 1 [.slice (some ⟨2001,0,none⟩) a.ls.length a.ls.length])::(2001,.cells true false 1 (flat pP.fl S))::(2000,.cells true false 1 [.pointer (some ⟨0,0,none⟩)])::fK a.l a.D a.ls a.nE a.c1 a.c2 a.n a.fo a.ls.length
def Y5 (D:List Dt)(ls:List (List Int)):Bool:=ls.all fun L=>decide (L.length≠0)&&decide (L.length≤1000)&&inR D L
theorem aEt {D:List Dt}{ls:List (List Int)}(h:Y5 D ls=true){i:Nat}(hi:i<ls.length):(bE ls i).length≠0∧(bE ls i).length≤1000∧inR D (bE ls i)=true:=by
 have:=List.all_eq_true.1 h _ (List.getElem_mem hi);unfold bE;rw [List.getD_eq_getElem?_getD,List.getElem?_eq_getElem hi];simp only [Bool.and_eq_true,decide_eq_true_eq] at this;exact⟨this.1.1,this.1.2,this.2⟩
def aMl (n:Nat)(a:aAZ):Prop:=IJ a.l a.D a.ls=true∧Y5 a.D a.ls=true∧0≤a.p∧a.p<a.ls.length∧a.S.length=a.ls.length∧cV a.S a.p.toNat=false∧fU a.S≤n
def DK (p:Int)(s q:Nat)(j:Int):List (Nat × Value):=[(0,iv p),(1,.pointer (some ⟨2002,0,none⟩)),(2,.pointer (some ⟨2000,0,none⟩)),(3,.pointer (some ⟨2003,0,none⟩)),(16,.slice (some ⟨s+1000,0,none⟩) q q),(17,iv q),(18,iv j)]
def aJj (n:Nat):XF:=dX (aMl n) (fun a=>[iv a.p,.pointer (some ⟨2002,0,none⟩),.pointer (some ⟨2000,0,none⟩),.pointer (some ⟨2003,0,none⟩)]) (fun a=>rW a a.S) (fun _=>2004) (fun _=>.tuple #[]) (fun a=>rW a (DN a.D a.ls n a.S a.p.toNat)) (fun _=>2004)
theorem sU {W:Heap}{b c:Nat}(h:wO W b)(hb:b≤c):wO W c:=fun k o hk=>by
 obtain⟨h1,h2⟩:=h k o hk;exact⟨by omega,rO (fun _ _=>rfl) hb h2⟩
theorem yF {a:aAZ}{M:List Bool}(hn:a.ls.length≤1000):wO (rW a M) 2004:=by
 unfold rW;refine bG (bG (bG (bG (sU (tE hn) (by omega)) (by omega) ?_) (by omega) (aG (aC _ _))) (by omega) ?_) (by omega) ?_
 ·exact⟨rfl,rfl,rfl,rfl,List.forall_mem_cons.2 ⟨⟨Nat.le_of_ble_eq_true rfl,rfl⟩,fun _ h=>(by cases h)⟩⟩
 ·exact⟨rfl,rfl,rfl,rfl,List.forall_mem_cons.2 ⟨⟨Nat.le_of_ble_eq_true rfl,fun h=>by cases h⟩,fun _ h=>(by cases h)⟩⟩
 refine⟨rfl,rfl,rfl,by simp [aJ2,bJ,bO,lM,dY,jR],List.forall_mem_cons.2 ⟨⟨trivial,?_⟩,fun _ h=>(by cases h)⟩⟩;intro v hv;simp only [List.mem_cons,List.not_mem_nil,or_false] at hv;rcases hv with rfl|rfl|rfl
 ·exact⟨Nat.le_of_ble_eq_true rfl,rfl⟩
 ·exact⟨Nat.le_of_ble_eq_true rfl,rfl⟩
 exact⟨Nat.le_of_ble_eq_true rfl,rfl⟩
theorem aFQ {a:aAZ}{M:List Bool}{s:Nat}(hn:a.ls.length≤1000)(hs:s<a.ls.length)(h0:(bE a.ls s).length≠0):look (rW a M) (s+1000)=some (.cells false false 1 (flat aR.fl (bE a.ls s))):=by
 unfold rW;rw [aU (by omega),aU (by omega),aU (by omega),aU (by omega)];have:=KW (l:=a.l) (D:=a.D) (nE:=a.nE) (c1:=a.c1) (c2:=a.c2) (n:=a.n) (fo:=a.fo) (s:=a.ls.length) hs h0
 rwa [show tN a.ls.length s=s+1000 by unfold tN;rw [if_neg (by omega)]] at this
theorem MZ {p j:Int}{s q:Nat}{e:List (Nat × Value)}(hs:s<1000)(he:∀ x∈DK p s q j,look e x.1=some x.2):∀ x∈DK p s q j,look e x.1=some (fL (rn []) x.2)∧x6 2004 x.2:=by
 have key:∀ x∈DK p s q j,fL (rn []) x.2=x.2∧x6 2004 x.2:=by
  unfold DK;refine List.forall_mem_cons.2 ⟨⟨rfl,bU rfl⟩,List.forall_mem_cons.2 ⟨⟨rfl,Nat.le_of_ble_eq_true rfl,rfl⟩,List.forall_mem_cons.2 ⟨⟨rfl,Nat.le_of_ble_eq_true rfl,rfl⟩,List.forall_mem_cons.2 ⟨⟨rfl,Nat.le_of_ble_eq_true rfl,rfl⟩,List.forall_mem_cons.2 ⟨⟨rfl,show s+1000<2004 by omega,fun h=>by cases h⟩,List.forall_mem_cons.2 ⟨⟨rfl,bU rfl⟩,List.forall_mem_cons.2 ⟨⟨rfl,bU rfl⟩,fun _ h=>(by cases h)⟩⟩⟩⟩⟩⟩⟩
 exact fun x hx=>⟨by rw [(key x hx).1];exact he x hx,(key x hx).2⟩
theorem aEu {W:Heap}{b:Nat}(h:wO W b){v:Value}(hv:gT v=true):∃ ρ,kV b ρ [(0,v)] W b [(0,v)] W b :=
 ⟨id,fun t u hu=>by
  have hm:=aW hu;simp only [List.mem_cons,List.not_mem_nil,or_false] at hm;injection hm with e1 e2;subst e1 e2;exact⟨by rw [fL,gU hv];rfl,bU hv⟩,fun k o hk=>⟨(h k o hk).1,o,hk,(h k o hk).2⟩,fun _ _ _ _ _ _ e=>e,fun _ _=>rfl,Nat.le_refl _⟩
theorem WB {S:List Bool}{p:Nat}(hp:p<S.length)(h:cV S p=false):0<fU S:=by
 have:=K6 hp h;omega
theorem aHw:∀ n,dJ Go.Proofs.Tryz.prog 145 (aJj n)
 |0=>HE (aK (xl:=[]) .nil) fun a ⟨h1,h2,h3,h4,h5,h6,h7⟩=>by
  have:=WB (by omega) h6;omega
 |n+1=>HE (aK (xl:=[(145,aJj n)]) (.cons (aHw n) .nil)) fun a ⟨h1,h2,h3,h4,h5,h6,h7⟩=>by
  obtain⟨p,l,D,ls,nE,c1,c2,nI,fo,S⟩:=a;simp only at h1 h2 h3 h4 h5 h6 h7;have hn:=KN h1;obtain⟨q1,q2,q3⟩:=aEt h2 (i:=p.toNat) (by omega);generalize ha:(⟨p,l,D,ls,nE,c1,c2,nI,fo,S⟩:aAZ)=a;have hvH:∀ M:List Bool,rW a M=(2003,.cells true false 1 [aJ2])::(2002,.cells true false 1 [.slice (some ⟨2001,0,none⟩) ls.length ls.length])::(2001,.cells true false 1 (flat pP.fl M))::(2000,.cells true false 1 [.pointer (some ⟨0,0,none⟩)])::fK l D ls nE c1 c2 nI fo ls.length:=fun M=>(by rw [← ha];rfl);have hpa:a.p=p:=(by rw [← ha]);have hSa:a.S=S:=(by rw [← ha]);have hDa:a.D=D:=(by rw [← ha]);have hla:a.ls=ls:=(by rw [← ha]);simp only [hpa,hSa,hDa,hla];clear ha hpa hSa hDa;rw [hvH S];generalize hpp:p.toNat=s at *;generalize hq:(bE ls s).length=q at *;have hvv:tV (tN ls.length s) (bE ls s)=.slice (some ⟨s+1000,0,none⟩) q q:=(by rw [tV,if_neg (by omega),tN,if_neg (by omega),hq]);have key:∀ o,o=s*1→nth (tC ls.length ls) o=some (.slice (some ⟨s+1000,0,none⟩) q q):=fun o ho=>(by rw [GP (by omega) ho,hvv]);unfold fK IH;rw [lQ (Nat.le_refl _)]
  repeat' first
   |(((conv=>whnf);apply bm<;>intro g))
   |((conv=>whnf)
     refine kW (key _ ?_) ?_
     ·show _+Int.toNat p*1=_;omega)
  all_goals first
   |(exfalso;simp [aA,aF,aH] at g;omega)
   |(exfalso
     have hb:Nat.ble (0+Int.toNat p*1+1) (flat pP.fl S).length=true:=Nat.ble_eq_true_of_le (by rw [cJ];show _≤S.length*1;omega);exact Bool.false_ne_true (g.symm.trans hb))
   |skip
  (conv=>whnf);refine⟨fun q' e h nx=>∃ (i:Nat) (j:Int),j=i∧i≤q∧q'=q - i∧e=DK p s q j∧h=rW a (rB D ls n S s i)∧nx=2004,⟨q,?_⟩,?_⟩
  ·refine rJ (P:=[]) (W:=rW a (rB D ls n S s 0)) (e0:=DK p s q 0) (n0:=2004) [] ⟨0,0,rfl,Nat.zero_le _,rfl,rfl,rfl,rfl⟩ ?_ ?_ ?_ (fun _ h=>(by cases h)) (fun _ h=>(by cases h)) (fun _ h=>(by cases h)) (Nat.le_refl _)
   ·refine MZ (by omega) ?_;unfold DK;exact List.forall_mem_cons.2 ⟨rfl,List.forall_mem_cons.2 ⟨rfl,List.forall_mem_cons.2 ⟨rfl,List.forall_mem_cons.2 ⟨rfl,List.forall_mem_cons.2 ⟨rfl,List.forall_mem_cons.2 ⟨rfl,List.forall_mem_cons.2 ⟨rfl,fun _ h=>(by cases h)⟩⟩⟩⟩⟩⟩⟩
   ·exact yF (by rw [hla];omega)
   intro k o hk;have cU:eY (flat pP.fl S) (0+Int.toNat p*1) [.bool true]=flat pP.fl (rB D ls n S s 0):=by
    rw [hpp,Nat.zero_add,AN _ _ _ (by omega)];rfl
   rw [hvH,← cU] at hk;unfold fK IH at hk;rw [lQ (Nat.le_refl _)] at hk;exact hk
  rintro q' e h nx ⟨i,j,hj,hi,rfl,rfl,rfl,rfl⟩;unfold DK;((conv=>whnf);apply bm<;>intro h8);rotate_left
  ·have hge:i=q:=(by simp [aA,aF] at h8;omega);(conv=>whnf);rw [hge,← hq,aAX];exact aEu (yF (by rw [hla];omega)) rfl
  have hlt:i<q:=(by simp [aA,aF] at h8;omega);have hli:look (rW a (rB D ls n S s i)) (s+1000)=some (.cells false false 1 (flat aR.fl (bE ls s))):=by
   have:=aFQ (a:=a) (M:=rB D ls n S s i) (s:=s) (by rw [hla];omega) (by rw [hla];omega) (by rw [hla,hq];exact q1)
   rwa [hla] at this
  have hd:=sO q3 (i:=i) (by omega);have ht:=SK h1 (i:=(aE (bE ls s) i).toNat) (by omega);((conv=>whnf);apply bm<;>intro h9);rotate_left
  ·exfalso;simp [aA,aF] at h9;omega
  (conv=>whnf);rw [hli];(conv=>whnf);refine kW (iY (bE ls s) (i:=i) (by omega) ?_) ?_
  ·show _+Int.toNat j*1=_;omega
  have hvs:=aAB (D:=D) (n:=n) (S:=S) (show i<(bE ls s).length by omega);have hvl:=(VS (D:=D) (ls:=ls) (n:=n) (S:=S) (p:=s) i (by omega));generalize rB D ls n S s i=M at hvs hvl ⊢;generalize aE (bE ls s) i=x at hd ht hvs ⊢;rw [hvH M];unfold fK IH;rw [lQ (Nat.le_refl _)];have hE:∀ p' S' X,rW ⟨p',l,D,ls,nE,c1,c2,nI,fo,S'⟩ X=rW a X:=fun p' S' X=>(by rw [hvH];rfl);have hcs:=K6 (S:=S) (p:=s) (by omega) h6;((conv=>whnf);apply bm<;>intro b1);rotate_left
  ·exfalso;simp [aA,aF] at b1;omega
  (conv=>whnf);refine kW (V7 D (i:=x.toNat) (by omega) ?_) ?_
  ·show _+Int.toNat x*5+4=_;omega
  ((conv=>whnf);apply bm<;>intro b2);rotate_left
  ·exfalso;simp [aA,aF] at b2;omega
  (conv=>whnf);refine kW (aI3 M (i:=mO D x) (by show Int.toNat _<_;omega) ?_) ?_
  ·show _+Int.toNat (bL D x.toNat).tt*1=_;rw [Nat.zero_add];rfl
  ((conv=>whnf);apply bm<;>intro b3);rotate_left
  ·have hM:cV M (mO D x)=true:=(by simpa [aA,aF] using b3);((conv=>whnf);apply bm<;>intro b4)
   ·(conv=>whnf);refine⟨q - (i+1),by omega,?_⟩;refine rJ (P:=[]) (W:=rW a (rB D ls n S s (i+1))) (e0:=DK p s q (j+1)) (n0:=2004) [] ⟨i+1,j+1,by omega,by omega,rfl,rfl,rfl,rfl⟩ ?_ (yF (by rw [hla];omega)) ?_ (fun _ h=>(by cases h)) (fun _ h=>(by cases h)) (fun _ h=>(by cases h)) (Nat.le_refl _)
    ·refine MZ (by omega) ?_;unfold DK;exact List.forall_mem_cons.2 ⟨rfl,List.forall_mem_cons.2 ⟨rfl,List.forall_mem_cons.2 ⟨rfl,List.forall_mem_cons.2 ⟨rfl,List.forall_mem_cons.2 ⟨rfl,List.forall_mem_cons.2 ⟨rfl,List.forall_mem_cons.2 ⟨rfl,fun _ h=>(by cases h)⟩⟩⟩⟩⟩⟩⟩
    intro k o hk;rw [hvs,if_pos hM,hvH M] at hk;unfold fK IH at hk;rw [lQ (Nat.le_refl _)] at hk;exact hk
   exfalso;simp [aA,aF,aH] at b4;omega
  have hM:cV M (mO D x)=false:=(by simpa [aA,aF] using b3);((conv=>whnf);apply bm<;>intro b4);rotate_left
  ·exfalso;simp [aA,aF] at b4;omega
  (conv=>whnf);refine kW (V7 D (i:=x.toNat) (by omega) ?_) ?_
  ·show _+Int.toNat x*5+4=_;omega
  (conv=>whnf);refine⟨⟨(bL D x.toNat).tt,l,D,ls,nE,c1,c2,nI,fo,M⟩,⟨h1,h2,ht.2.2.1,?_,?_,hM,?_⟩,rfl,?_,rfl,?_⟩
  ·show (bL D x.toNat).tt<(ls.length:Int);omega
  ·show M.length=ls.length;omega
  ·show fU M≤n;omega
  ·show _=rW _ M;unfold rW fK IH;simp only;rw [lQ (Nat.le_refl _)]
  ((conv=>whnf);apply bm<;>intro b5)
  ·(conv=>whnf);refine⟨q - (i+1),by omega,?_⟩;refine rJ (P:=[]) (W:=rW a (rB D ls n S s (i+1))) (e0:=DK p s q (j+1)) (n0:=2004) [] ⟨i+1,j+1,by omega,by omega,rfl,rfl,rfl,rfl⟩ ?_ (yF (by rw [hla];omega)) ?_ (fun _ h=>(by cases h)) (fun _ h=>(by cases h)) (fun _ h=>(by cases h)) (Nat.le_refl _)
   ·refine MZ (by omega) ?_;unfold DK;exact List.forall_mem_cons.2 ⟨rfl,List.forall_mem_cons.2 ⟨rfl,List.forall_mem_cons.2 ⟨rfl,List.forall_mem_cons.2 ⟨rfl,List.forall_mem_cons.2 ⟨rfl,List.forall_mem_cons.2 ⟨rfl,List.forall_mem_cons.2 ⟨rfl,fun _ h=>(by cases h)⟩⟩⟩⟩⟩⟩⟩
   intro k o hk;rw [hvs,if_neg (by rw [hM];decide),← hE (bL D x.toNat).tt M] at hk;exact hk
  exfalso;simp [aA,aF,aH] at b5;omega
def eS (D:List Dt)(ls:List (List Int)):List Bool:=DN D ls 1000 (List.replicate ls.length false) 0
def cnS (l:List Pt)(D:List Dt)(ls:List (List Int)):List Value→Option (Bool × Value)
 |[]=>some (IJ l D ls&&Y5 D ls&&decide (1≤ls.length),.bool ((eS D ls).all id))
 |_=>none
def WR:Nat × XF:=(82,wbX cnS)
theorem aM0:dJ Go.Proofs.Tryz.prog WR.1 WR.2:=UF (f:=82) (s:=cnS) (aK (xl:=[(145,aJj 1000),U0]) (.cons (aHw 1000) (.cons aGZ .nil))) fun l D ls r v hs=>by
 have:r=[]∧IJ l D ls=true∧Y5 D ls=true∧1≤ls.length∧v=.bool ((eS D ls).all id):=by
  unfold cnS at hs;split at hs
  ·injection hs with hs;injection hs with h1 h2;simp only [Bool.and_eq_true,decide_eq_true_eq] at h1;exact⟨rfl,h1.1.1,h1.1.2,h1.2,h2.symm⟩
  ·cases hs
 obtain⟨rfl,h1,h2,h3,rfl⟩:=this;clear hs;have hn:=KN h1;refine⟨rfl,rfl,by omega,ls.length,fun nE c1 c2 n fo=>?_⟩;unfold fK IH;rw [lQ (Nat.le_refl _)];((conv=>whnf);apply bm<;>intro g1);rotate_left
 ·exfalso;simp [aA,aF,aH] at g1;omega
 ((conv=>whnf);apply bm<;>intro g);rotate_left
 ·exfalso;have g:decide ((0:Int)<(ls.length:Int))=false:=g;simp only [decide_eq_false_iff_not] at g;omega
 (conv=>whnf);refine⟨⟨0,l,D,ls,nE,c1,c2,n,fo,List.replicate ls.length false⟩,⟨h1,h2,Int.le_refl 0,?_,List.length_replicate,?_,?_⟩,rfl,?_,rfl,?_⟩
 ·show (0:Int)<(ls.length:Int);omega
 ·show cV (List.replicate ls.length false) 0=false;unfold cV;rw [List.getD_eq_getElem?_getD,List.getElem?_replicate];split <;> rfl
 ·have:fU (List.replicate ls.length false)≤(List.replicate ls.length false).length:=List.countP_le_length;rw [List.length_replicate] at this;show fU (List.replicate ls.length false)≤1000;omega
 ·show _=rW _ (List.replicate ls.length false);unfold rW fK IH;simp only;rw [lQ (Nat.le_refl _),← S9];rfl
 (conv=>whnf);have hrl:(eS D ls).length=ls.length:=by
  unfold eS;rw [(FL D ls 1000 _ 0).2,List.length_replicate]
 refine⟨eS D ls,⟨hrl.symm,_,_,_,_,rfl,by rw [List.drop_zero];exact List.take_length⟩,?_⟩;rw [show ctS (eS D ls) ([Value.bool false].append #[].toList)=some (true,.bool (!((eS D ls).all id))) from by
  show some (decide ((eS D ls).length≤1000000),Value.bool (!((eS D ls).all id)))=_;rw [decide_eq_true (by omega)]]
 refine aJ rfl ?_;(conv=>whnf);show Value.bool (!(!((eS D ls).all id)))=_;rw [Bool.not_not]
theorem cC {b n0 nx:Nat}{I:KS}{e0 e:List (Nat × Value)}{P W h:Heap}(L:List (Nat × Nat))(hI:I e0 (P++W) n0)(he:∀ p∈e0,look e p.1=some (fL (rn L) p.2)∧x6 n0 p.2)(hW:∀ k o,look W k=some o→k<b∧bT id b o o)(hk:∀ k o,look W k=some o→look h k=some o)
  (hP:∀ p∈P,((b≤p.1∧p.1<n0∧b≤rn L p.1)∨p.1<b)∧∃ o',look h (rn L p.1)=some o'∧bT (rn L) n0 p.2 o') (hi:∀ k∈P.map Prod.fst,∀ k'∈P.map Prod.fst,rn L k=rn L k'→k=k') (hL:∀ p∈L,b≤p.1) (hb:b≤n0):r5 b I e h nx:=by
 have hfix:∀ k,k<b→rn L k=k:=fun k hk=>by
  unfold rn;split
  ·rename_i q hq;have:=hL _ (aW hq);simp only at this;omega
  rfl
 refine⟨e0,P++W,n0,rn L,hI,fun t v hv=>he (t,v) (aW hv),fun k o hk'=>?_,fun k k' o o' h1 h2 e=>?_,hfix,hb⟩
 ·rcases qF hk' with hm|hm
  ·obtain⟨a1,a2⟩:=hP _ hm;simp only at a1;exact⟨by omega,a2⟩
  obtain⟨a1,a2⟩:=hW k o hm;exact⟨by omega,o,by rw [hfix k a1];exact hk k o hm,rO hfix hb a2⟩
 ·rcases qF h1 with m1|m1 <;> rcases qF h2 with m2|m2
  ·exact hi k (List.mem_map.2 ⟨_,m1,rfl⟩) k' (List.mem_map.2 ⟨_,m2,rfl⟩) e
  ·have:=(hP _ m1).1;have b2:=(hW _ _ m2).1;simp only at this;rw [hfix k' b2] at e;rcases this with this|this
   ·omega
   rw [hfix k this] at e;exact e
  ·have:=(hP _ m2).1;have b2:=(hW _ _ m1).1;simp only at this;rw [hfix k b2] at e;rcases this with this|this
   ·omega
   rw [hfix k' this] at e;exact e
  rwa [hfix k (hW _ _ m1).1,hfix k' (hW _ _ m2).1] at e
structure L6 where
 face:List Int
 seen:List Bool
 many:Int
 out:Int
 flat:Bool
def fF (s:List Bool)(w:List Int):Nat→List Bool
 |0=>s
 |i+1=>(fF s w i).set (aE w i).toNat true
theorem kJ (s:List Bool)(w:List Int):∀ i,(fF s w i).length=s.length
 |0=>rfl
 |i+1=>by unfold fF;rw [List.length_set];exact kJ s w i
def gI (l:List Pt)(D:List Dt)(ls:List (List Int))(s:L6)(d:Nat):L6 :=
 if cV s.seen d=true then s else
  let w:=kS D ls d;let a:=BH l D w w.length;let fc:=if 0<a then s.many+1 else 0
  ⟨fI s.face w fc w.length,fF s.seen w w.length,if 0<a then s.many+1 else s.many,if 0<a then s.out else if a<0 then s.out+1 else s.out,if 0<a then s.flat else if a<0 then s.flat else true⟩
def bK (l:List Pt)(D:List Dt)(ls:List (List Int)):Nat→L6
 |0=>⟨List.replicate D.length 0,List.replicate D.length false,0,0,false⟩
 |d+1=>gI l D ls (bK l D ls d) d
def nmD (l:List Pt)(D:List Dt)(ls:List (List Int)):L6:=bK l D ls D.length
def zY (s:L6):Bool:=decide (s.out=1)&&!s.flat
theorem nJ (l:List Pt)(D:List Dt)(ls:List (List Int)):∀ d,(bK l D ls d).face.length=D.length∧(bK l D ls d).seen.length=D.length∧0≤(bK l D ls d).many∧(bK l D ls d).many≤d∧0≤(bK l D ls d).out∧(bK l D ls d).out≤d
 |0=>by unfold bK;simp
 |d+1=>by
  obtain⟨h1,h2,h3,h4,h5,h6⟩:=nJ l D ls d;unfold bK gI;split
  ·refine⟨h1,h2,h3,?_,h5,?_⟩ <;> omega
  simp only [jJ,kJ];refine⟨h1,h2,?_,?_,?_,?_⟩
  ·split <;> omega
  ·split <;> omega
  ·split
   ·omega
   split <;> omega
  split
  ·omega
  split <;> omega
def aAR (D:List Dt)(ls:List (List Int)):Bool:=(List.range D.length).all fun d=>decide (jT D ls d (iT D ls d)=d)
structure WbR (R:Heap) (k0 kd kt:Nat) (nm:Nat→Nat) (l:List Pt) (D:List Dt) (ls:List (List Int)):Prop where
 pt:∃ wr g sz cs,look R k0=some (.cells wr g sz cs)∧cs.take (flat dC.fl l).length=flat dC.fl l
 da:∃ wr g sz cs,look R kd=some (.cells wr g sz cs)∧cs.take (flat rP.fl D).length=flat rP.fl D
 tb:∃ wr g sz,look R kt=some (.cells wr g sz ((List.range ls.length).map fun i=>tV (nm i) (bE ls i)))
 li:∀ i,i<ls.length→(bE ls i).length≠0→∃ wr g sz cs,look R (nm i)=some (.cells wr g sz cs)∧cs.take (flat aR.fl (bE ls i)).length=flat aR.fl (bE ls i)
theorem WbR.at {R h:Heap}{p k0 k1 kd kt kf:Nat}{nm:Nat→Nat}{l:List Pt}{D:List Dt}{ls:List (List Int)}{nE c1 c2:Nat}{n:Int}{fo:Option (Nat × Nat)}(hw:WbR R k0 kd kt nm l D ls)(hx:∀ k o,look R k=some o→look h k=some o){wr g:Bool}{sz:Nat}
  (hs:look h p=some (.cells wr g sz (IH k0 k1 kd kt kf l.length nE D.length ls.length c1 c2 n fo))):wC h p k0 k1 kd kt kf nm l D ls nE c1 c2 n fo:=by
 obtain⟨⟨w1,g1,s1,x1,a1,b1⟩,⟨w2,g2,s2,x2,a2,b2⟩,⟨w3,g3,s3,a3⟩,h4⟩:=hw;refine⟨⟨_,_,_,hs⟩,⟨_,_,_,_,hx _ _ a1,b1⟩,⟨_,_,_,_,hx _ _ a2,b2⟩,⟨_,_,_,hx _ _ a3⟩,fun i hi h0=>?_⟩;obtain⟨w5,g5,s5,x5,a5,b5⟩:=h4 i hi h0;exact⟨_,_,_,_,hx _ _ a5,b5⟩
structure OV where
 R:Heap
 k0:Nat
 k1:Nat
 kd:Nat
 kt:Nat
 nm:Nat→Nat
 l:List Pt
 D:List Dt
 ls:List (List Int)
 nE:Nat
 c1:Nat
 c2:Nat
 n:Int
def aHq (a:OV):Prop:=xH a.l a.D a.ls=true∧aAR a.D a.ls=true∧wO a.R 2003∧look a.R 7=none∧WbR a.R a.k0 a.kd a.kt a.nm a.l a.D a.ls∧(a.k0<2003∧a.k1<2003∧a.kd<2003∧a.kt<2003)
def N7 (a:OV)(fv:Value):bH:=.cells true false 1 [.slice (some ⟨a.k0,0,none⟩) a.l.length a.c1,.slice (some ⟨a.k1,0,none⟩) a.nE a.c2,iv a.n,.slice (some ⟨a.kd,0,none⟩) a.D.length a.D.length,.slice (some ⟨a.kt,0,none⟩) a.ls.length a.ls.length,fv]
def RE (a:OV):Heap:=(7,N7 a (.slice (some ⟨2003,0,none⟩) a.D.length a.D.length))::(2003,.cells true false 1 (flat aR.fl (nmD a.l a.D a.ls).face))::a.R
def aI9:XF:=dX aHq (fun _=>[.pointer (some ⟨7,0,none⟩)]) (fun a=>(7,N7 a aM)::a.R) (fun _=>2003) (fun a=>.tuple #[iv (nmD a.l a.D a.ls).many,.bool (zY (nmD a.l a.D a.ls))])
 RE (fun _=>2004)
def oN (N:Nat)(s:L6)(j:Int):List (Nat × Value):=[(0,.pointer (some ⟨7,0,none⟩)),(4,.slice (some ⟨2004,0,none⟩) N N),(5,iv s.many),(6,iv s.out),(7,.bool s.flat),(33,iv N),(34,iv j)]
def oR (a:OV)(s:L6):Heap:=[(7,N7 a (.slice (some ⟨2003,0,none⟩) a.D.length a.D.length)),(2003,.cells true false 1 (flat aR.fl s.face)),(2004,.cells true false 1 (flat pP.fl s.seen))]
def kX (N:Nat)(s:L6)(j fc:Int)(n:Nat)(x:Int):List (Nat × Value):=(11,iv fc)::(58,.slice (some ⟨2005,0,none⟩) n n)::(59,iv n)::(60,iv x)::oN N s j
theorem HG {s:List Bool}{w:List Int}{t o:Nat}(ho:o=(aE w t).toNat*1)(hi:(aE w t).toNat<s.length):eY (flat pP.fl (fF s w t)) o [.bool true]=flat pP.fl (fF s w (t+1)):=by
 rw [ho,AN _ _ _ (by rw [kJ];exact hi)];rfl
theorem BX {a:OV}(h6:a.k0<2003∧a.k1<2003∧a.kd<2003∧a.kt<2003){h:Heap}{s:L6}{n0:Nat}(hn:2005≤n0)(x1:look h 7=some (N7 a (.slice (some ⟨2003,0,none⟩) a.D.length a.D.length)))(x2:look h 2003=some (.cells true false 1 (flat aR.fl s.face)))(x3:look h 2004=some (.cells true false 1 (flat pP.fl s.seen))) :
  ∀ p∈oR a s,((2003≤p.1∧p.1<n0∧2003≤rn [] p.1)∨p.1<2003)∧∃ o',look h (rn [] p.1)=some o'∧bT (rn []) n0 p.2 o':=by
 have hsl:∀ {q a b:Nat},q<2004→CC n0 (.slice (some ⟨q,0,none⟩) a b):=fun {q a b} hq=>⟨show q<n0 by omega,fun h=>by cases h⟩;unfold oR;refine List.forall_mem_cons.2 ⟨⟨.inr (by omega),_,x1,rfl,rfl,rfl,rfl,?_⟩,List.forall_mem_cons.2 ⟨⟨.inl ⟨Nat.le_refl _,by show 2003<n0;omega,Nat.le_refl _⟩,_,x2,aG (aC _ _)⟩,List.forall_mem_cons.2 ⟨⟨.inl ⟨by omega,by show 2004<n0;omega,by show 2003≤2004;omega⟩,_,x3,aG (aC _ _)⟩,fun _ h=>(by cases h)⟩⟩⟩;exact List.forall_mem_cons.2 ⟨hsl (by omega),List.forall_mem_cons.2 ⟨hsl (by omega),List.forall_mem_cons.2 ⟨bY rfl,List.forall_mem_cons.2 ⟨hsl (by omega),List.forall_mem_cons.2 ⟨hsl (by omega),List.forall_mem_cons.2 ⟨hsl (by omega),fun _ h=>(by cases h)⟩⟩⟩⟩⟩⟩
theorem AQ {a:OV}(h6:a.k0<2003∧a.k1<2003∧a.kd<2003∧a.kt<2003){h:Heap}{s:L6}{w:List Int}(x1:look h 7=some (N7 a (.slice (some ⟨2003,0,none⟩) a.D.length a.D.length)))(x2:look h 2003=some (.cells true false 1 (flat aR.fl s.face)))(x3:look h 2004=some (.cells true false 1 (flat pP.fl s.seen)))
  (x4:look h 2005=some (.cells true false 1 (flat aR.fl w))):∀ p∈oR a s++[(2005,.cells true false 1 (flat aR.fl w))],((2003≤p.1∧p.1<2006∧2003≤rn [] p.1)∨p.1<2003)∧∃ o',look h (rn [] p.1)=some o'∧bT (rn []) 2006 p.2 o':=by
 intro p hp;rcases List.mem_append.1 hp with hp|hp
 ·exact BX h6 (by omega) x1 x2 x3 p hp
 simp only [List.mem_cons,List.not_mem_nil,or_false] at hp;subst hp;exact⟨.inl ⟨by omega,by omega,by show 2003≤2005;omega⟩,_,x4,aG (aC _ _)⟩
theorem bP {W:Heap}{b q:Nat}(h:wO W b)(hq:b≤q):look W q=none:=by
 cases hl:look W q with
 |none=>rfl
 |some o=>have:=(h q o hl).1;omega
theorem aIO {l:List Pt}{D:List Dt}{ls:List (List Int)}{d:Nat}(h:xH l D ls=true)(h2:aAR D ls=true)(hd:d<D.length):wkS l D ls [iv d]=some (true,kS D ls d,[]):=by
 have:=List.all_eq_true.1 h2 d (List.mem_range.2 hd);show some (xH l D ls&&decide ((0:Int)≤d)&&decide ((d:Int)<D.length)&&decide (jT D ls d (iT D ls d)=d),kS D ls d,[])=_;rw [h,decide_eq_true (by omega:(0:Int)≤d),decide_eq_true (by omega:(d:Int)<D.length),this];rfl
theorem aCq {l:List Pt}{D:List Dt}{ls:List (List Int)}{d:Nat}(h:xH l D ls=true)(hd:d<D.length):inR D (kS D ls d)=true∧(kS D ls d).length≤D.length+1∧1≤(kS D ls d).length:=by
 have hp:=jI D ls d D.length 1;refine⟨List.all_eq_true.2 fun x hx=>?_,?_,?_⟩
 ·obtain⟨i,_,rfl⟩:=List.mem_map.1 hx;have:=SJ h (d:=d) (by omega) (by omega) i;simpa using this
 ·unfold kS iT;rw [List.length_map,List.length_range];omega
 unfold kS iT;rw [List.length_map,List.length_range];omega
theorem aII {l:List Pt}{D:List Dt}{ls:List (List Int)}{L:List Int}(h:IJ l D ls=true)(h1:inR D L=true)(h2:L.length≤100000):arS l D ls L=some (true,iv (BH l D L L.length)):=by
 unfold arS;rw [h,h1,decide_eq_true h2];rfl
theorem aC1 {a:OV}(h3:wO a.R 2003)(h4:look a.R 7=none)(h6:a.k0<2003∧a.k1<2003∧a.kd<2003∧a.kt<2003){h:Heap}{s:L6}{nx:Nat}{b:Bool}(hb:b=zY s)(x1:look h 7=some (N7 a (.slice (some ⟨2003,0,none⟩) a.D.length a.D.length)))
  (x2:look h 2003=some (.cells true false 1 (flat aR.fl s.face))) (hx:∀ k o,look a.R k=some o→look h k=some o) :
  ∃ ρ,kV 2003 ρ [(0,.tuple #[iv s.many,.bool (zY s)])] ((7,N7 a (.slice (some ⟨2003,0,none⟩) a.D.length a.D.length))::(2003,.cells true false 1 (flat aR.fl s.face))::a.R) 2004 [(0,.tuple #[iv s.many,.bool b])] h nx:=by
 subst hb;have hsl:∀ {q a b:Nat},q<2004→CC 2004 (.slice (some ⟨q,0,none⟩) a b):=fun {q a b} hq=>⟨hq,fun h=>by cases h⟩;refine⟨id,fun t u hu=>?_,fun k o hk=>?_,fun _ _ _ _ _ _ e=>e,fun _ _=>rfl,by omega⟩
 ·have hm:=aW hu;simp only [List.mem_cons,List.not_mem_nil,or_false] at hm;injection hm with e1 e2;subst e1 e2;exact⟨by rw [fL,gU rfl];rfl,bU rfl⟩
 rw [aB] at hk;split at hk
 ·rename_i hb;injection hk with hk;subst hk;rw [← beq_true hb];refine⟨by omega,_,x1,rfl,rfl,rfl,rfl,?_⟩;exact List.forall_mem_cons.2 ⟨hsl (by omega),List.forall_mem_cons.2 ⟨hsl (by omega),List.forall_mem_cons.2 ⟨bY rfl,List.forall_mem_cons.2 ⟨hsl (by omega),List.forall_mem_cons.2 ⟨hsl (by omega),List.forall_mem_cons.2 ⟨hsl (by omega),fun _ h=>(by cases h)⟩⟩⟩⟩⟩⟩
 rw [aB] at hk;split at hk
 ·rename_i hb;injection hk with hk;subst hk;rw [← beq_true hb];exact⟨by omega,_,x2,aG (aC _ _)⟩
 obtain⟨a1,a2⟩:=h3 k o hk;exact⟨by omega,o,hx k o hk,rO (fun _ _=>rfl) (by omega) a2⟩
theorem aLB:dJ Go.Proofs.Tryz.prog 83 aI9:=HE (aK (xl:=[aK4,aJw]) (.cons aNb (.cons aO7 .nil))) fun a ⟨h1,h2,h3,h4,h5,h6⟩=>by
 have hn:=KN (DQ h1);unfold N7;((conv=>whnf);apply bm<;>intro g1);rotate_left
 ·exfalso;simp [aA,aF,aH] at g1;omega
 ((conv=>whnf);apply bm<;>intro g1');rotate_left
 ·exfalso;simp [aA,aF,aH] at g1';omega
 (conv=>whnf);refine⟨fun q e h nx=>∃ (i:Nat) (j:Int),j=i∧i≤a.D.length∧q=a.D.length - i∧e=oN a.D.length (bK a.l a.D a.ls i) j∧h=oR a (bK a.l a.D a.ls i)++a.R∧nx=2005,⟨a.D.length,?_⟩,?_⟩
 ·refine cC (P:=oR a (bK a.l a.D a.ls 0)) (W:=a.R) (e0:=oN a.D.length (bK a.l a.D a.ls 0) 0) (n0:=2005) [] ⟨0,0,rfl,Nat.zero_le _,rfl,rfl,rfl,rfl⟩ ?_ h3 ?_ ?_ ?_ (fun _ h=>(by cases h)) (by omega)
  ·unfold oN;((repeat' refine iE rfl rfl ?_);exact iN)
  ·exact aV (c8 (aV (ext_cons (fun _ _ h=>h) h4) (bP h3 (by omega))) h4) (bP h3 (by omega))
  ·refine BX h6 (by omega) rfl ?_ ?_
   ·show some (bH.cells true false 1 (rep a.D.length [iv 0]))=some (.cells true false 1 (flat aR.fl (List.replicate a.D.length 0)));rw [aJE]
   show some (bH.cells true false 1 (rep a.D.length [.bool false]))=some (.cells true false 1 (flat pP.fl (List.replicate a.D.length false)));rw [S9]
  show ∀ k∈[7,2003,2004],∀ k'∈[7,2003,2004],_;decide
 rintro q e h nx ⟨i,j,hj,hi,rfl,rfl,rfl,rfl⟩;obtain⟨s1,s2,s3,s4,s5,s6⟩:=nJ a.l a.D a.ls i;have hst:bK a.l a.D a.ls (i+1)=gI a.l a.D a.ls (bK a.l a.D a.ls i) i:=rfl;generalize hss:bK a.l a.D a.ls i=s at s1 s2 s3 s4 s5 s6 hst ⊢;unfold oN oR N7;((conv=>whnf);apply bm<;>intro g2);rotate_left
 ·have hge:i=a.D.length:=(by simp [aA,aF] at g2;omega);subst hge;unfold RE nmD;rw [hss];((conv=>whnf);apply bm<;>intro g3)
  ·have g3:s.out=1:=(by simpa [aA,aF] using g3);(conv=>whnf);refine aC1 h3 h4 h6 (b:=!s.flat) (by unfold zY;rw [decide_eq_true g3];rfl) rfl rfl (ext_cons (ext_cons (ext_cons (fun _ _ h=>h) (bP h3 (by omega))) (bP h3 (by omega))) h4)
  have g3:¬ s.out=1:=(by simpa [aA,aF] using g3);(conv=>whnf);refine aC1 h3 h4 h6 (b:=false) (by unfold zY;rw [decide_eq_false g3];rfl) rfl rfl (ext_cons (ext_cons (ext_cons (fun _ _ h=>h) (bP h3 (by omega))) (bP h3 (by omega))) h4)
 have hlt:i<a.D.length:=(by simp [aA,aF] at g2;omega);((conv=>whnf);apply bm<;>intro g3);rotate_left
 ·exfalso;simp [aA,aF] at g3;omega
 (conv=>whnf);refine kW (aI3 s.seen (i:=i) (by omega) ?_) ?_
 ·show _+Int.toNat j*1=_;omega
 ((conv=>whnf);apply bm<;>intro g4)
 ·have g4:cV s.seen i=true:=g4;unfold gI at hst;rw [if_pos g4] at hst;((conv=>whnf);apply bm<;>intro g5)
  ·(conv=>whnf);refine⟨a.D.length - (i+1),by omega,?_⟩;refine cC (P:=oR a (bK a.l a.D a.ls (i+1))) (W:=a.R) (e0:=oN a.D.length (bK a.l a.D a.ls (i+1)) (j+1)) (n0:=2005) [] ⟨i+1,j+1,by omega,by omega,rfl,rfl,rfl,rfl⟩ ?_ h3 ?_ ?_ ?_ (fun _ h=>(by cases h)) (by omega)
   ·rw [hst];unfold oN;((repeat' refine iE rfl rfl ?_);exact iN)
   ·exact ext_cons (ext_cons (ext_cons (fun _ _ h=>h) (bP h3 (by omega))) (bP h3 (by omega))) h4
   ·rw [hst];exact BX h6 (by omega) rfl rfl rfl
   show ∀ k∈[7,2003,2004],∀ k'∈[7,2003,2004],_;decide
  exfalso;simp [aA,aF,aH] at g5;omega
 have g4:cV s.seen i=false:=g4;(conv=>whnf);have hx0:∀ k o,look a.R k=some o→look ([(7,bH.cells true false 1 [.slice (some ⟨a.k0,0,none⟩) a.l.length a.c1,.slice (some ⟨a.k1,0,none⟩) a.nE a.c2,iv a.n,.slice (some ⟨a.kd,0,none⟩) a.D.length a.D.length,.slice (some ⟨a.kt,0,none⟩) a.ls.length a.ls.length,.slice (some ⟨2003,0,none⟩) a.D.length a.D.length]),(2003,.cells true false 1 (flat aR.fl s.face)),(2004,.cells true false 1 (flat pP.fl s.seen))]++a.R) k=some o :=
  ext_cons (ext_cons (ext_cons (fun _ _ h=>h) (bP h3 (by omega))) (bP h3 (by omega))) h4
 have hwk:wkS a.l a.D a.ls [iv j]=some (true,kS a.D a.ls i,[]):=(by rw [hj];exact aIO h1 h2 hlt);obtain⟨w1,w2,w3⟩:=aCq h1 hlt;refine⟨7,[iv j],a.k0,a.k1,a.kd,a.kt,2003,a.nm,a.l,a.D,a.ls,a.nE,a.c1,a.c2,a.n,some (a.D.length,a.D.length),rfl,h5.at hx0 rfl,?_⟩;rw [hwk];unfold gI at hst;rw [if_neg (by rw [g4];decide)] at hst;simp only at hst;generalize kS a.D a.ls i=w at w1 w2 w3 hst hwk ⊢;refine aJ rfl ?_;(conv=>whnf);refine⟨7,2005,a.k0,a.k1,a.kd,a.kt,2003,a.nm,a.l,a.D,a.ls,a.nE,a.c1,a.c2,a.n,some (a.D.length,a.D.length),w,w.length,rfl,h5.at (aV hx0 (bP h3 (by omega))) rfl,⟨_,_,_,_,rfl,List.take_length⟩,?_⟩;rw [aII (DQ h1) w1 (by omega)];generalize BH a.l a.D w w.length=A at hst ⊢;refine aJ rfl ?_;((conv=>whnf);apply bm<;>intro g6)
 ·have hA:0<A:=(by simpa [aA,aF] using g6);simp only [if_pos hA] at hst;((conv=>whnf);apply bm<;>intro g7);rotate_left
  ·exfalso;simp [aA,aF,aH] at g7;omega
  skip
  have hst1:bK a.l a.D a.ls (i+1)=⟨fI s.face w (s.many+1) w.length,fF s.seen w w.length,s.many+1,s.out,s.flat⟩:=(by rw [hst]);(conv=>whnf);refine⟨fun q e h nx=>∃ (t:Nat) (x:Int),x=t∧t≤w.length∧q=w.length - t∧e=kX a.D.length ⟨fI s.face w (s.many+1) t,fF s.seen w t,s.many+1,s.out,s.flat⟩ j (s.many+1) w.length x∧h=(oR a ⟨fI s.face w (s.many+1) t,fF s.seen w t,s.many+1,s.out,s.flat⟩++[(2005,.cells true false 1 (flat aR.fl w))])++a.R∧nx=2006,⟨w.length,?_⟩,?_⟩
  ·refine cC (P:=oR a ⟨s.face,s.seen,s.many+1,s.out,s.flat⟩++[(2005,.cells true false 1 (flat aR.fl w))]) (W:=a.R) (e0:=kX a.D.length ⟨s.face,s.seen,s.many+1,s.out,s.flat⟩ j (s.many+1) w.length 0) (n0:=2006) [] ⟨0,0,rfl,Nat.zero_le _,rfl,rfl,rfl,rfl⟩ ?_ h3 ?_ ?_ ?_ (fun _ h=>(by cases h)) (by omega)
   ·unfold kX oN;((repeat' refine iE rfl rfl ?_);exact iN)
   ·exact aV hx0 (bP h3 (by omega))
   ·exact AQ h6 rfl rfl rfl rfl
   show ∀ k∈[7,2003,2004,2005],∀ k'∈[7,2003,2004,2005],_;decide
  rintro q e h nx ⟨t,x,hx,ht,rfl,rfl,rfl,rfl⟩;unfold kX oN oR N7;((conv=>whnf);apply bm<;>intro m1);rotate_left
  ·have htl:t=w.length:=(by simp [aA,aF] at m1;omega);((conv=>whnf);apply bm<;>intro m2)
   ·(conv=>whnf);refine⟨a.D.length - (i+1),by omega,?_⟩;refine cC (P:=oR a (bK a.l a.D a.ls (i+1))) (W:=a.R) (e0:=oN a.D.length (bK a.l a.D a.ls (i+1)) (j+1)) (n0:=2005) [] ⟨i+1,j+1,by omega,by omega,rfl,rfl,rfl,rfl⟩ ?_ h3 ?_ ?_ ?_ (fun _ h=>(by cases h)) (by omega)
    ·rw [hst1];unfold oN;((repeat' refine iE rfl rfl ?_);exact iN)
    ·exact (ext_cons (ext_cons (ext_cons (ext_cons (fun _ _ h=>h) (bP h3 (by omega))) (bP h3 (by omega))) (bP h3 (by omega))) h4)
    ·rw [hst1,← htl];exact BX h6 (by omega) rfl rfl rfl
    show ∀ k∈[7,2003,2004],∀ k'∈[7,2003,2004],_;decide
   exfalso;simp [aA,aF,aH] at m2;omega
  have htl:t<w.length:=(by simp [aA,aF] at m1;omega);have hwd:=sO w1 (i:=t) htl;((conv=>whnf);apply bm<;>intro m2);rotate_left
  ·exfalso;simp [aA,aF] at m2;omega
  (conv=>whnf);refine kW (iY w (i:=t) htl ?_) ?_
  ·show _+Int.toNat x*1=_;omega
  have hsf:=jJ s.face w (s.many+1) t;have hss:=kJ s.seen w t
  repeat' first
   |(((conv=>whnf);apply bm<;>intro m))
  all_goals first
   |(exfalso;simp [aA,aF,aH] at m;omega)
   |(exfalso
     have hb:Nat.ble (0+Int.toNat (aE w t)*1+1) (flat pP.fl (fF s.seen w t)).length=true:=Nat.ble_eq_true_of_le (by rw [cJ];show _≤(fF s.seen w t).length*1;omega);exact Bool.false_ne_true (m.symm.trans hb))
   |(exfalso
     have hb:Nat.ble (0+Int.toNat (aE w t)*1+1) (flat aR.fl (fI s.face w (s.many+1) t)).length=true:=Nat.ble_eq_true_of_le (by rw [cJ];show _≤(fI s.face w (s.many+1) t).length*1;omega);exact Bool.false_ne_true (m.symm.trans hb))
   |skip
  (conv=>whnf);refine⟨w.length - (t+1),by omega,?_⟩;refine cC (P:=oR a ⟨fI s.face w (s.many+1) (t+1),fF s.seen w (t+1),s.many+1,s.out,s.flat⟩++[(2005,.cells true false 1 (flat aR.fl w))]) (W:=a.R) (e0:=kX a.D.length ⟨fI s.face w (s.many+1) (t+1),fF s.seen w (t+1),s.many+1,s.out,s.flat⟩ j (s.many+1) w.length (x+1)) (n0:=2006) [] ⟨t+1,x+1,by omega,by omega,rfl,rfl,rfl,rfl⟩ ?_ h3 ?_ ?_ ?_ (fun _ h=>(by cases h)) (by omega)
  ·unfold kX oN;((repeat' refine iE rfl rfl ?_);exact iN)
  ·exact c8 (c8 (ext_cons (ext_cons (ext_cons (ext_cons (fun _ _ h=>h) (bP h3 (by omega))) (bP h3 (by omega))) (bP h3 (by omega))) h4) (bP h3 (by omega))) (bP h3 (by omega))
  ·refine AQ h6 rfl ?_ ?_ rfl
   ·show some (bH.cells true false 1 (eY (flat aR.fl (fI s.face w (s.many+1) t)) (0+Int.toNat (aE w t)*1) [iv (s.many+1)]))=_;rw [EX (by omega) (by omega)]
   show some (bH.cells true false 1 (eY (flat pP.fl (fF s.seen w t)) (0+Int.toNat (aE w t)*1) [.bool true]))=_;rw [HG (by omega) (by omega)]
  show ∀ k∈[7,2003,2004,2005],∀ k'∈[7,2003,2004,2005],_;decide
 have hA:¬ 0<A:=(by simpa [aA,aF] using g6);simp only [if_neg hA] at hst;((conv=>whnf);apply bm<;>intro g7);rotate_left
 ·have hA2:¬ A<0:=(by simpa [aA,aF] using g7);simp only [if_neg hA2] at hst;have hst1:bK a.l a.D a.ls (i+1)=⟨fI s.face w (0) w.length,fF s.seen w w.length,s.many,s.out,true⟩:=(by rw [hst]);(conv=>whnf);refine⟨fun q e h nx=>∃ (t:Nat) (x:Int),x=t∧t≤w.length∧q=w.length - t∧e=kX a.D.length ⟨fI s.face w (0) t,fF s.seen w t,s.many,s.out,true⟩ j (0) w.length x∧h=(oR a ⟨fI s.face w (0) t,fF s.seen w t,s.many,s.out,true⟩++[(2005,.cells true false 1 (flat aR.fl w))])++a.R∧nx=2006,⟨w.length,?_⟩,?_⟩
  ·refine cC (P:=oR a ⟨s.face,s.seen,s.many,s.out,true⟩++[(2005,.cells true false 1 (flat aR.fl w))]) (W:=a.R) (e0:=kX a.D.length ⟨s.face,s.seen,s.many,s.out,true⟩ j (0) w.length 0) (n0:=2006) [] ⟨0,0,rfl,Nat.zero_le _,rfl,rfl,rfl,rfl⟩ ?_ h3 ?_ ?_ ?_ (fun _ h=>(by cases h)) (by omega)
   ·unfold kX oN;((repeat' refine iE rfl rfl ?_);exact iN)
   ·exact aV hx0 (bP h3 (by omega))
   ·exact AQ h6 rfl rfl rfl rfl
   show ∀ k∈[7,2003,2004,2005],∀ k'∈[7,2003,2004,2005],_;decide
  rintro q e h nx ⟨t,x,hx,ht,rfl,rfl,rfl,rfl⟩;unfold kX oN oR N7;((conv=>whnf);apply bm<;>intro m1)
  ·have htl:t<w.length:=(by simp [aA,aF] at m1;omega);have hwd:=sO w1 (i:=t) htl;((conv=>whnf);apply bm<;>intro m2)
   ·(conv=>whnf);refine kW (iY w (i:=t) htl ?_) ?_
    ·show _+Int.toNat x*1=_;omega
    have hsf:=jJ s.face w (0) t;have hss:=kJ s.seen w t
    repeat' first
     |(((conv=>whnf);apply bm<;>intro m))
    all_goals first
     |(exfalso;simp [aA,aF,aH] at m;omega)
     |(exfalso
       have hb:Nat.ble (0+Int.toNat (aE w t)*1+1) (flat pP.fl (fF s.seen w t)).length=true:=Nat.ble_eq_true_of_le (by rw [cJ];show _≤(fF s.seen w t).length*1;omega);exact Bool.false_ne_true (m.symm.trans hb))
     |(exfalso
       have hb:Nat.ble (0+Int.toNat (aE w t)*1+1) (flat aR.fl (fI s.face w (0) t)).length=true:=Nat.ble_eq_true_of_le (by rw [cJ];show _≤(fI s.face w (0) t).length*1;omega);exact Bool.false_ne_true (m.symm.trans hb))
     |skip
    (conv=>whnf);refine⟨w.length - (t+1),by omega,?_⟩;refine cC (P:=oR a ⟨fI s.face w (0) (t+1),fF s.seen w (t+1),s.many,s.out,true⟩++[(2005,.cells true false 1 (flat aR.fl w))]) (W:=a.R) (e0:=kX a.D.length ⟨fI s.face w (0) (t+1),fF s.seen w (t+1),s.many,s.out,true⟩ j (0) w.length (x+1)) (n0:=2006) [] ⟨t+1,x+1,by omega,by omega,rfl,rfl,rfl,rfl⟩ ?_ h3 ?_ ?_ ?_ (fun _ h=>(by cases h)) (by omega)
    ·unfold kX oN;((repeat' refine iE rfl rfl ?_);exact iN)
    ·exact c8 (c8 (ext_cons (ext_cons (ext_cons (ext_cons (fun _ _ h=>h) (bP h3 (by omega))) (bP h3 (by omega))) (bP h3 (by omega))) h4) (bP h3 (by omega))) (bP h3 (by omega))
    ·refine AQ h6 rfl ?_ ?_ rfl
     ·show some (bH.cells true false 1 (eY (flat aR.fl (fI s.face w (0) t)) (0+Int.toNat (aE w t)*1) [iv (0)]))=_;rw [EX (by omega) (by omega)]
     show some (bH.cells true false 1 (eY (flat pP.fl (fF s.seen w t)) (0+Int.toNat (aE w t)*1) [.bool true]))=_;rw [HG (by omega) (by omega)]
    show ∀ k∈[7,2003,2004,2005],∀ k'∈[7,2003,2004,2005],_;decide
   exfalso;simp [aA,aF] at m2;omega
  have htl:t=w.length:=(by simp [aA,aF] at m1;omega);((conv=>whnf);apply bm<;>intro m2)
  ·(conv=>whnf);refine⟨a.D.length - (i+1),by omega,?_⟩;refine cC (P:=oR a (bK a.l a.D a.ls (i+1))) (W:=a.R) (e0:=oN a.D.length (bK a.l a.D a.ls (i+1)) (j+1)) (n0:=2005) [] ⟨i+1,j+1,by omega,by omega,rfl,rfl,rfl,rfl⟩ ?_ h3 ?_ ?_ ?_ (fun _ h=>(by cases h)) (by omega)
   ·rw [hst1];unfold oN;((repeat' refine iE rfl rfl ?_);exact iN)
   ·exact (ext_cons (ext_cons (ext_cons (ext_cons (fun _ _ h=>h) (bP h3 (by omega))) (bP h3 (by omega))) (bP h3 (by omega))) h4)
   ·rw [hst1,← htl];exact BX h6 (by omega) rfl rfl rfl
   show ∀ k∈[7,2003,2004],∀ k'∈[7,2003,2004],_;decide
  exfalso;simp [aA,aF,aH] at m2;omega
 have hA2:A<0:=(by simpa [aA,aF] using g7);simp only [if_pos hA2] at hst;((conv=>whnf);apply bm<;>intro g8);rotate_left
 ·exfalso;simp [aA,aF,aH] at g8;omega
 skip
 have hst1:bK a.l a.D a.ls (i+1)=⟨fI s.face w (0) w.length,fF s.seen w w.length,s.many,s.out+1,s.flat⟩:=(by rw [hst]);(conv=>whnf);refine⟨fun q e h nx=>∃ (t:Nat) (x:Int),x=t∧t≤w.length∧q=w.length - t∧e=kX a.D.length ⟨fI s.face w (0) t,fF s.seen w t,s.many,s.out+1,s.flat⟩ j (0) w.length x∧h=(oR a ⟨fI s.face w (0) t,fF s.seen w t,s.many,s.out+1,s.flat⟩++[(2005,.cells true false 1 (flat aR.fl w))])++a.R∧nx=2006,⟨w.length,?_⟩,?_⟩
 ·refine cC (P:=oR a ⟨s.face,s.seen,s.many,s.out+1,s.flat⟩++[(2005,.cells true false 1 (flat aR.fl w))]) (W:=a.R) (e0:=kX a.D.length ⟨s.face,s.seen,s.many,s.out+1,s.flat⟩ j (0) w.length 0) (n0:=2006) [] ⟨0,0,rfl,Nat.zero_le _,rfl,rfl,rfl,rfl⟩ ?_ h3 ?_ ?_ ?_ (fun _ h=>(by cases h)) (by omega)
  ·unfold kX oN;((repeat' refine iE rfl rfl ?_);exact iN)
  ·exact aV hx0 (bP h3 (by omega))
  ·exact AQ h6 rfl rfl rfl rfl
  show ∀ k∈[7,2003,2004,2005],∀ k'∈[7,2003,2004,2005],_;decide
 rintro q e h nx ⟨t,x,hx,ht,rfl,rfl,rfl,rfl⟩;unfold kX oN oR N7;((conv=>whnf);apply bm<;>intro m1);rotate_left
 ·have htl:t=w.length:=(by simp [aA,aF] at m1;omega);((conv=>whnf);apply bm<;>intro m2)
  ·(conv=>whnf);refine⟨a.D.length - (i+1),by omega,?_⟩;refine cC (P:=oR a (bK a.l a.D a.ls (i+1))) (W:=a.R) (e0:=oN a.D.length (bK a.l a.D a.ls (i+1)) (j+1)) (n0:=2005) [] ⟨i+1,j+1,by omega,by omega,rfl,rfl,rfl,rfl⟩ ?_ h3 ?_ ?_ ?_ (fun _ h=>(by cases h)) (by omega)
   ·rw [hst1];unfold oN;((repeat' refine iE rfl rfl ?_);exact iN)
   ·exact (ext_cons (ext_cons (ext_cons (ext_cons (fun _ _ h=>h) (bP h3 (by omega))) (bP h3 (by omega))) (bP h3 (by omega))) h4)
   ·rw [hst1,← htl];exact BX h6 (by omega) rfl rfl rfl
   show ∀ k∈[7,2003,2004],∀ k'∈[7,2003,2004],_;decide
  exfalso;simp [aA,aF,aH] at m2;omega
 have htl:t<w.length:=(by simp [aA,aF] at m1;omega);have hwd:=sO w1 (i:=t) htl;((conv=>whnf);apply bm<;>intro m2);rotate_left
 ·exfalso;simp [aA,aF] at m2;omega
 (conv=>whnf);refine kW (iY w (i:=t) htl ?_) ?_
 ·show _+Int.toNat x*1=_;omega
 have hsf:=jJ s.face w (0) t;have hss:=kJ s.seen w t
 repeat' first
  |(((conv=>whnf);apply bm<;>intro m))
 all_goals first
  |(exfalso;simp [aA,aF,aH] at m;omega)
  |(exfalso
    have hb:Nat.ble (0+Int.toNat (aE w t)*1+1) (flat pP.fl (fF s.seen w t)).length=true:=Nat.ble_eq_true_of_le (by rw [cJ];show _≤(fF s.seen w t).length*1;omega);exact Bool.false_ne_true (m.symm.trans hb))
  |(exfalso
    have hb:Nat.ble (0+Int.toNat (aE w t)*1+1) (flat aR.fl (fI s.face w (0) t)).length=true:=Nat.ble_eq_true_of_le (by rw [cJ];show _≤(fI s.face w (0) t).length*1;omega);exact Bool.false_ne_true (m.symm.trans hb))
  |skip
 (conv=>whnf);refine⟨w.length - (t+1),by omega,?_⟩;refine cC (P:=oR a ⟨fI s.face w (0) (t+1),fF s.seen w (t+1),s.many,s.out+1,s.flat⟩++[(2005,.cells true false 1 (flat aR.fl w))]) (W:=a.R) (e0:=kX a.D.length ⟨fI s.face w (0) (t+1),fF s.seen w (t+1),s.many,s.out+1,s.flat⟩ j (0) w.length (x+1)) (n0:=2006) [] ⟨t+1,x+1,by omega,by omega,rfl,rfl,rfl,rfl⟩ ?_ h3 ?_ ?_ ?_ (fun _ h=>(by cases h)) (by omega)
 ·unfold kX oN;((repeat' refine iE rfl rfl ?_);exact iN)
 ·exact c8 (c8 (ext_cons (ext_cons (ext_cons (ext_cons (fun _ _ h=>h) (bP h3 (by omega))) (bP h3 (by omega))) (bP h3 (by omega))) h4) (bP h3 (by omega))) (bP h3 (by omega))
 ·refine AQ h6 rfl ?_ ?_ rfl
  ·show some (bH.cells true false 1 (eY (flat aR.fl (fI s.face w (0) t)) (0+Int.toNat (aE w t)*1) [iv (0)]))=_;rw [EX (by omega) (by omega)]
  show some (bH.cells true false 1 (eY (flat pP.fl (fF s.seen w t)) (0+Int.toNat (aE w t)*1) [.bool true]))=_;rw [HG (by omega) (by omega)]
 show ∀ k∈[7,2003,2004,2005],∀ k'∈[7,2003,2004,2005],_;decide
theorem ZB {b n:Nat}{o:bH}(h:bT id b o o)(hc:LI o=true):bT id (n+b) (YU n o) (YU n o):=by
 cases o with
 |cells wr g sz cs =>
  obtain⟨_,_,_,h4,h5⟩:=h;have key:∀ v∈cs,bJ id (bJ (fun k=>n+k) v)=bJ (fun k=>n+k) v∧CC (n+b) (bJ (fun k=>n+k) v):=fun v hv=>by
   have hn:CC (n+b) (bJ (fun k=>n+k) v):=jM (m:=b) (aD7 (h5 v hv)) (fun k hk=>by omega);refine⟨?_,hn⟩;unfold bJ;rw [iS (n:=n+b) hn];rfl
  refine⟨rfl,rfl,rfl,?_,fun v hv=>?_⟩
  ·rw [List.map_map];exact List.map_congr_left fun v hv=>(key v hv).1.symm
  obtain⟨u,hu,rfl⟩:=List.mem_map.1 hv;exact (key u hu).2
 |_=>cases hc
theorem TF {W:Heap}{b n:Nat}(h:wO W b)(hc:gH W=true):wO (oP n W) (n+b):=fun k o hk=>by
 obtain⟨j,o',rfl,h1,rfl⟩:=lU W hk;obtain⟨a1,a2⟩:=h j o' h1;obtain⟨wr,g,sz,cs,rfl⟩:=o6 hc h1;exact⟨by omega,ZB a2 rfl⟩
theorem Q7 {W:Heap}{b:Nat}(h:wO W b)(hc:gH W=true):wO (eI W) b:=fun k o hk=>by
 rw [jX] at hk;cases hq:look W k with
 |none=>rw [hq] at hk;cases hk
 |some q =>
  rw [hq] at hk;injection hk with hk;subst hk;obtain⟨a1,a2⟩:=h k q hq;obtain⟨wr,g,sz,cs,rfl⟩:=o6 hc hq;exact⟨a1,rfl,rfl,rfl,a2.2.2.2.1,a2.2.2.2.2⟩
theorem XH {A B:Heap}{b:Nat}(hA:wO A b)(hB:wO B b):wO (app A B) b:=fun k o hk=>by
 rw [gV] at hk;split at hk
 ·rename_i o' ho;injection hk with hk;subst hk;exact hA k o' ho
 exact hB k o hk
def vO (l:List Pt)(m:List Ed):Heap :=
 (6,.cells true false 5 (flat rP.fl (aO l m m.length)))::(5,.cells true false 1 (tC (outs l m).length (outs l m)))::(0,.cells false true dC.sz (flat dC.fl l))::(1,.cells false true dP.sz (flat dP.fl m))::tH (outs l m).length (outs l m) (outs l m).length
theorem PH {l:List Pt}{m:List Ed}{p:Nat × bH}(h:p∈vO l m):p=(6,.cells true false 5 (flat rP.fl (aO l m m.length)))∨p=(5,.cells true false 1 (tC (outs l m).length (outs l m)))∨p=(0,.cells false true dC.sz (flat dC.fl l))∨p=(1,.cells false true dP.sz (flat dP.fl m)) ∨
  ∃ i,i<(outs l m).length∧(bE (outs l m) i).length≠0∧p=(i+1000,ob (bE (outs l m) i)):=by
 unfold vO at h;simp only [List.mem_cons] at h;rcases h with h|h|h|h|h
 ·exact .inl h
 ·exact .inr (.inl h)
 ·exact .inr (.inr (.inl h))
 ·exact .inr (.inr (.inr (.inl h)))
 obtain⟨i,h1,h2,h3,h4⟩:=B4 h;exact .inr (.inr (.inr (.inr ⟨i,h1,h3,h4⟩)))
theorem QR {l:List Pt}{m:List Ed}(hl:l.length≤1000):wO (vO l m) 2000:=fun k o hk=>by
 have hol:=eZ l m;rcases PH (aW hk) with h|h|h|h|⟨i,h1,h2,h⟩
 ·injection h with e1 e2;subst e1 e2;exact⟨by omega,aG (aC _ _)⟩
 ·injection h with e1 e2;subst e1 e2;exact⟨by omega,rfl,rfl,rfl,G4 (ρ:=id) (lE _ _) fun i hi=>C0 hi,JK (by omega) (by omega)⟩
 ·injection h with e1 e2;subst e1 e2;exact⟨by omega,aG (aC _ _)⟩
 ·injection h with e1 e2;subst e1 e2;exact⟨by omega,aG (aC _ _)⟩
 injection h with e1 e2;subst e1 e2;exact⟨by omega,aG (aC _ _)⟩
theorem rM {l:List Pt}{m:List Ed}:gH (vO l m)=true:=yT _ _ _
def MB (l:List Pt)(m:List Ed)(c1 c2:Nat)(n:Int):Heap:=(2,mY l.length m.length c1 c2 n)::bR dC dP l m
theorem aGw {l:List Pt}{m:List Ed}{c1 c2:Nat}{n:Int}:wO (MB l m c1 c2 n) 3:=by
 refine bG (bG (bG (fun k o hk=>by cases hk) (by omega) (aG (aC _ _))) (by omega) (aG (aC _ _))) (by omega) ⟨rfl,rfl,rfl,rfl,?_⟩;exact List.forall_mem_cons.2 ⟨⟨Nat.le_of_ble_eq_true rfl,fun h=>by cases h⟩,List.forall_mem_cons.2 ⟨⟨Nat.le_of_ble_eq_true rfl,fun h=>by cases h⟩,List.forall_mem_cons.2 ⟨bY rfl,fun _ h=>(by cases h)⟩⟩⟩
def pM (l:List Pt)(m:List Ed)(c1 c2:Nat)(n:Int):Heap:=app (oP 3 (vO l m)) (eI (MB l m c1 c2 n))
def ZX (l:List Pt)(m:List Ed)(c1 c2:Nat)(n:Int):OV:=⟨pM l m c1 c2 n,3,4,9,8,fun i=>3+(i+1000),l,aO l m m.length,outs l m,m.length,c1,c2,n⟩
theorem aBM {l:List Pt}{m:List Ed}{c1 c2:Nat}{n:Int}:app (oP 3 (aFx l m c1 c2 n)) (eI (MB l m c1 c2 n))=(7,N7 (ZX l m c1 c2 n) aM)::pM l m c1 c2 n:=by
 unfold N7 ZX;simp only [a9,eZ];rfl
theorem NJ {l:List Pt}{m:List Ed}{c1 c2:Nat}{n:Int}{j:Nat}{o:bH}(h:look (vO l m) j=some o):look (pM l m c1 c2 n) (3+j)=some (YU 3 o):=by
 unfold pM;rw [gV,kE _ h]
theorem VI {l:List Pt}{m:List Ed}{c1 c2:Nat}{n:Int}:WbR (pM l m c1 c2 n) 3 9 8 (fun i=>3+(i+1000)) l (aO l m m.length) (outs l m):=by
 have hfl:∀ {α:Type} (E:El α) (x:List α),(flat E.fl x).map (bJ fun k=>3+k)=flat E.fl x:=fun E x=>a8 (aC E x);refine⟨⟨_,_,_,_,NJ (j:=0) rfl,?_⟩,⟨_,_,_,_,NJ (j:=6) rfl,?_⟩,⟨true,false,1,?_⟩,fun i hi h0=>⟨true,false,1,flat aR.fl (bE (outs l m) i),?_,List.take_length⟩⟩
 ·rw [hfl];exact List.take_length
 ·rw [hfl];exact List.take_length
 ·rw [NJ (j:=5) (o:=.cells true false 1 (tC (outs l m).length (outs l m))) rfl];show some (bH.cells true false 1 ((tC (outs l m).length (outs l m)).map (bJ fun k=>3+k)))=_;unfold tC;rw [List.map_map];congr 2;refine List.map_congr_left fun i hi=>?_;show bJ _ (tV (tN (outs l m).length i) (bE (outs l m) i))=_;rw [GG];unfold tN;rw [if_neg (by have:=List.mem_range.1 hi;omega)]
 have:look (vO l m) (i+1000)=some (ob (bE (outs l m) i)):=by
  unfold vO;rw [aU (by omega),aU (by omega),aU (by omega),aU (by omega)];exact kO (by omega) h0 hi
 rw [NJ this];show some (bH.cells true false 1 ((flat aR.fl (bE (outs l m) i)).map (bJ fun k=>3+k)))=_;rw [hfl]
theorem aGW {l:List Pt}{m:List Ed}{c1 c2:Nat}{n:Int}:look (pM l m c1 c2 n) 7=none:=by
 cases hl:look (pM l m c1 c2 n) 7 with
 |none=>rfl
 |some o =>
  exfalso;unfold pM at hl;rw [gV] at hl;split at hl
  ·rename_i o' ho;obtain⟨j,q,e1,e2,_⟩:=lU _ ho;rcases PH (aW e2) with h|h|h|h|⟨i,h1,h2,h⟩ <;> (injection h with e3 e4;omega)
  ·cases hl
theorem aEO {l:List Pt}{m:List Ed}{c1 c2:Nat}{n:Int}(hl:l.length≤1000):wO (pM l m c1 c2 n) 2003 :=
 XH (TF (n:=3) (QR hl) rM) (sU (Q7 aGw rfl) (by omega))
theorem aI5 {l:List Pt}{m:List Ed}{c1 c2:Nat}{n:Int}(hl:l.length≤1000)(h1:xH l (aO l m m.length) (outs l m)=true)(h2:aAR (aO l m m.length) (outs l m)=true):aHq (ZX l m c1 c2 n) :=
 ⟨h1,h2,aEO hl,aGW,VI,Nat.le_of_ble_eq_true rfl,Nat.le_of_ble_eq_true rfl,Nat.le_of_ble_eq_true rfl,Nat.le_of_ble_eq_true rfl⟩
set_option maxHeartbeats 4000000
def QZ (l:List Pt)(m:List Ed):Bool:=(eS (aO l m m.length) (outs l m)).all id
def dE (l:List Pt)(m:List Ed):L6:=nmD l (aO l m m.length) (outs l m)
def G3 (l:List Pt)(m:List Ed)(i:Nat):Bool:=decide ((cN m i).l=aE (dE l m).face (2*i))&&decide ((cN m i).r=aE (dE l m).face (2*i+1))
def aY (l:List Pt)(m:List Ed)(n:Int):Bool:=gW l m n&&(QZ l m&&(zY (dE l m)&&(decide ((dE l m).many=n)&&mW (G3 l m) m.length)))
def ZH (l:List Pt)(m:List Ed)(c1 c2:Nat)(n:Int):Heap:=(7,N7 (ZX l m c1 c2 n) (.slice (some ⟨2003,0,none⟩) (aO l m m.length).length (aO l m m.length).length))::(2003,.cells true false 1 (flat aR.fl (dE l m).face))::oP 3 (vO l m)
def aLb (l:List Pt)(m:List Ed)(c1 c2:Nat)(n:Int):KE:=fun v h nx =>
 (aY l m n=true∧L5 (.tuple #[.pointer (some ⟨7,0,none⟩),iv 0]) (ZH l m c1 c2 n) 2004 v h nx)∨(aY l m n=false∧v=.tuple #[.pointer none,iv 1])
def e69 (N:Nat)(j:Int):List (Nat × Value):=[(1,.pointer (some ⟨2,0,none⟩)),(17,iv N),(18,iv j)]
def OR (N:Nat)(j z:Int):List (Nat × Value):=(4,iv j)::(21,iv j)::(22,iv z)::e69 N j
theorem aB8 {l:List Pt}{m:List Ed}{c1 c2:Nat}{n:Int}:look (RE (ZX l m c1 c2 n)) 2=some (.cells false false 1 [.slice (some ⟨0,0,none⟩) l.length c1,.slice (some ⟨1,0,none⟩) m.length c2,iv n]):=by
 unfold RE ZX;rw [aU (by omega),aU (by omega)];unfold pM;rw [gV];split
 ·rename_i o' ho;exfalso;obtain⟨j,q,e1,_,_⟩:=lU _ ho;omega
 rfl
theorem JI {b n0 nx:Nat}{I:KS}{e0 e:List (Nat × Value)}{h0 h:Heap}(hI:I e0 h0 n0)(he:∀ p∈e0,look e p.1=some (fL id p.2)∧x6 n0 p.2)(hh:∀ k o,look h0 k=some o→look h k=some o)(hok:wO h0 n0)(hb:b≤n0):r5 b I e h nx :=
 ⟨e0,h0,n0,id,hI,fun t v hv=>he (t,v) (aW hv),fun k o hk=>⟨(hok k o hk).1,o,hh k o hk,(hok k o hk).2⟩,fun _ _ _ _ _ _ e=>e,fun _ _=>rfl,hb⟩
def hF (l:List Pt)(m:List Ed)(c1 c2:Nat)(n:Int):Heap :=
 (7,N7 (ZX l m c1 c2 n) (.slice (some ⟨2003,0,none⟩) (ZX l m c1 c2 n).D.length (ZX l m c1 c2 n).D.length))::(2003,.cells true false 1 (flat aR.fl (dE l m).face))::(2,.cells false false 1 [.slice (some ⟨0,0,none⟩) l.length c1,.slice (some ⟨1,0,none⟩) m.length c2,iv n]) ::
 (0,.cells false true dC.sz (flat dC.fl l))::(1,.cells false true dP.sz (flat dP.fl m))::oP 3 (vO l m)
theorem NW {l:List Pt}{m:List Ed}{c1 c2:Nat}{n:Int}:∀ k o,look (ZH l m c1 c2 n) k=some o→look (hF l m c1 c2 n) k=some o:=by
 intro k o hk;unfold ZH at hk;rw [aB] at hk;split at hk
 ·rename_i hb;rw [← beq_true hb,← hk];rfl
 rename_i hb7;rw [aB] at hk;split at hk
 ·rename_i hb;rw [← beq_true hb,← hk];rfl
 rename_i hb3;have h7:(7:Nat)≠k:=beq_false hb7;have h3:(2003:Nat)≠k:=beq_false hb3;obtain⟨j,q,e1,_,_⟩:=lU _ hk;unfold hF;rw [aU h7,aU h3,aU (by omega),aU (by omega),aU (by omega)];exact hk
def ZS (N c2:Nat)(j:Int):List (Nat × Value):=[(7,.pointer (some ⟨7,0,none⟩)),(59,.slice (some ⟨1,0,none⟩) N c2),(60,iv N),(61,iv j)]
theorem MJ {l:List Pt}{m:List Ed}{c1 c2:Nat}{n:Int}(hl:l.length≤1000):wO (hF l m c1 c2 n) 2004:=by
 have hsl:∀ {q a b:Nat},q<2004→CC 2004 (.slice (some ⟨q,0,none⟩) a b):=fun {q a b} hq=>⟨hq,fun h=>by cases h⟩;refine bG (bG (bG (bG (bG (sU (TF (n:=3) (QR hl) rM) (by omega)) (by omega) (aG (aC _ _))) (by omega) (aG (aC _ _))) (by omega) ⟨rfl,rfl,rfl,rfl,?_⟩) (by omega) (aG (aC _ _))) (by omega) ⟨rfl,rfl,rfl,rfl,?_⟩
 ·exact List.forall_mem_cons.2 ⟨hsl (by omega),List.forall_mem_cons.2 ⟨hsl (by omega),List.forall_mem_cons.2 ⟨bY rfl,fun _ h=>(by cases h)⟩⟩⟩
 exact List.forall_mem_cons.2 ⟨hsl (show 3<2004 by omega),List.forall_mem_cons.2 ⟨hsl (show 4<2004 by omega),List.forall_mem_cons.2 ⟨bY rfl,List.forall_mem_cons.2 ⟨hsl (show 9<2004 by omega),List.forall_mem_cons.2 ⟨hsl (show 8<2004 by omega),List.forall_mem_cons.2 ⟨hsl (by omega),fun _ h=>(by cases h)⟩⟩⟩⟩⟩⟩
theorem aIJ {l:List Pt}{m:List Ed}{c1 c2:Nat}{n:Int}(hl:l.length≤1000):L5 (.tuple #[.pointer (some ⟨7,0,none⟩),iv 0]) (ZH l m c1 c2 n) 2004 (.tuple #[.pointer (some ⟨7,0,none⟩),iv 0]) (hF l m c1 c2 n) 2004:=by
 refine⟨id,fun t u hu=>?_,fun k o hk=>?_,fun _ _ _ _ _ _ e=>e,fun _ _=>rfl,by omega⟩
 ·have hm:=aW hu;simp only [List.mem_cons,List.not_mem_nil,or_false] at hm;injection hm with e1 e2;subst e1 e2;refine⟨by simp [fL,tr,dW,bO,dY,jR];rfl,?_⟩;intro v hv;simp only [List.mem_cons,List.not_mem_nil,or_false] at hv;rcases hv with rfl|rfl
  ·exact⟨Nat.le_of_ble_eq_true rfl,rfl⟩
  exact fZ (bY rfl)
 have h:=NW k o hk;obtain⟨a1,a2⟩:=MJ hl k o h;exact⟨a1,o,h,a2⟩
theorem aGR {l:List Pt}{m:List Ed}{k:Nat}(h:k<3):look (oP 3 (vO l m)) k=none:=by
 cases hl:look (oP 3 (vO l m)) k with
 |none=>rfl
 |some o =>
  obtain⟨j,q,e1,_,_⟩:=lU _ hl;omega
theorem aJD {l:List Pt}{m:List Ed}{c1 c2:Nat}{n:Int}:∀ k o,look (hF l m c1 c2 n) k=some o→look (RE (ZX l m c1 c2 n)) k=some o:=by
 intro k o hk;unfold hF at hk;rw [aB] at hk;split at hk
 ·rename_i hb;rw [← beq_true hb,← hk];rfl
 rename_i hb7;rw [aB] at hk;split at hk
 ·rename_i hb;rw [← beq_true hb,← hk];rfl
 rename_i hb3;rw [aB] at hk;split at hk
 ·rename_i hb;rw [← beq_true hb,aB8,← hk]
 have h7:(7:Nat)≠k:=beq_false hb7;have h3:(2003:Nat)≠k:=beq_false hb3;show look ((7,_)::(2003,_)::app (oP 3 (vO l m)) (eI (MB l m c1 c2 n))) k=some o;rw [aU h7,aU h3,gV];rw [aB] at hk;split at hk
 ·rename_i hb;rw [← beq_true hb,aGR (by omega),← hk];rfl
 rw [aB] at hk;split at hk
 ·rename_i hb;rw [← beq_true hb,aGR (by omega),← hk];rfl
 rw [hk]
theorem w69 (l:List Pt)(m:List Ed)(n:Int)(c1 c2:Nat)(hl:l.length≤1000)(hm:m.length≤1000)
  (hP:cM l m n=true→xH l (aO l m m.length) (outs l m)=true∧aAR (aO l m m.length) (outs l m)=true∧Y5 (aO l m m.length) (outs l m)=true∧1≤l.length) :
  body [W4,K7,VF,YF,WR,(83,aI9)] 35 [l8 l.length m.length c1 c2 n] (bR dC dP l m) 2 (aLb l m c1 c2 n):=by
 (conv=>whnf);refine⟨l,m,bF dC rfl,bF dP rfl,?_⟩;((conv=>whnf);apply bm<;>intro a0);rotate_left
 ·exfalso;have a0:(decide (l.length≤1000)&&decide (m.length≤1000))=false:=a0;rw [decide_eq_true hl,decide_eq_true hm] at a0;cases a0
 ((conv=>whnf);apply bm<;>intro a1)
 ·have hno:cM l m n=false:=by
   have a1:(!cM l m n)=true:=a1;simpa using a1
  (conv=>whnf);exact .inr ⟨by rw [aY,gW,hno];rfl,rfl⟩
 have hlst:cM l m n=true:=by
  have a1:(!cM l m n)=false:=a1;simpa using a1
 have hM:F7 l m=true:=by
  have hh:=hlst;simp only [cM,Bool.and_eq_true] at hh;exact TP hl hm (fun i hi=>dU hh.2.1 hi) (fun i hi=>dU hh.2.2.1 hi)
 (conv=>whnf);refine⟨fun q e h nx=>∃ (i:Nat) (j:Int),j=i∧i≤m.length∧q=m.length - i∧(∀ t,t<i→∀ k,k<t→F6 l m t k=true)∧e=e69 m.length j∧h=MB l m c1 c2 n∧nx=3,⟨m.length,?_⟩,?_⟩
 ·refine cZ (e0:=e69 m.length 0) (h0:=MB l m c1 c2 n) (n0:=3) ⟨0,0,rfl,Nat.zero_le _,rfl,fun t ht=>absurd ht (Nat.not_lt_zero t),rfl,rfl,rfl⟩ ?_ ?_ (by decide)
  ·unfold e69;((repeat' refine iE rfl rfl ?_);exact iN)
  unfold MB mY bR;((repeat'(first|refine iF rfl rfl ?_|refine iC rfl rfl rfl ?_|refine iJ rfl rfl rfl rfl ?_));exact iN)
 rintro q e h nx ⟨i,j,hj,hi,rfl,hme,rfl,rfl,rfl⟩;unfold e69 MB mY bR;((conv=>whnf);apply bm<;>intro h3)
 ·have hlt:i<m.length:=(by simp [aA,aF] at h3;omega);(conv=>whnf);refine⟨fun q e h nx=>∃ (k:Nat) (z:Int),z=k∧k≤i∧q=i - k∧(∀ t,t<k→F6 l m i t=true)∧e=OR m.length j z∧h=MB l m c1 c2 n∧nx=3,⟨i,?_⟩,?_⟩
  ·refine cZ (e0:=OR m.length j 0) (h0:=MB l m c1 c2 n) (n0:=3) ⟨0,0,rfl,Nat.zero_le _,rfl,fun t ht=>absurd ht (Nat.not_lt_zero t),rfl,rfl,rfl⟩ ?_ ?_ (by decide)
   ·unfold OR e69;((repeat' refine iE rfl rfl ?_);exact iN)
   unfold MB mY bR;((repeat'(first|refine iF rfl rfl ?_|refine iC rfl rfl rfl ?_|refine iJ rfl rfl rfl rfl ?_));exact iN)
  rintro q e h nx ⟨k,z,hz,hk,rfl,hmk,rfl,rfl,rfl⟩;unfold OR e69 MB mY bR;((conv=>whnf);apply bm<;>intro h4);rotate_left
  ·have hge:k=i:=(by simp [aA,aF] at h4;omega);((conv=>whnf);apply bm<;>intro h5)
   ·(conv=>whnf);refine⟨m.length - (i+1),by omega,?_⟩;refine cZ (e0:=e69 m.length (j+1)) (h0:=MB l m c1 c2 n) (n0:=3) ⟨i+1,j+1,by omega,by omega,rfl,fun t ht=>?_,rfl,rfl,rfl⟩ ?_ ?_ (by decide)
    ·by_cases hti:t=i
     ·rw [hti];exact fun k' hk'=>hmk k' (by omega)
     exact hme t (by omega)
    ·unfold e69;((repeat' refine iE rfl rfl ?_);exact iN)
    unfold MB mY bR;((repeat'(first|refine iF rfl rfl ?_|refine iC rfl rfl rfl ?_|refine iJ rfl rfl rfl rfl ?_));exact iN)
   exfalso;simp [aA,aF,aH] at h5;omega
  have hkl:k<i:=(by simp [aA,aF] at h4;omega);have ej:j.toNat=i:=(by omega);have ez:z.toNat=k:=(by omega);(conv=>whnf);refine⟨l,m,bF dC rfl,bF dP rfl,?_⟩;((conv=>whnf);apply bm<;>intro h5);rotate_left
  ·exfalso;have h5:(F7 l m&&(decide (0≤j)&&decide (j<m.length)))=false:=h5;rw [hM,decide_eq_true (show 0≤j by omega),decide_eq_true (show j<m.length by omega)] at h5;cases h5
  (conv=>whnf);refine⟨l,m,bF dC rfl,bF dP rfl,?_⟩;((conv=>whnf);apply bm<;>intro h6);rotate_left
  ·exfalso;have h6:(F7 l m&&(decide (0≤z)&&decide (z<m.length)))=false:=h6;rw [hM,decide_eq_true (show 0≤z by omega),decide_eq_true (show z<m.length by omega)] at h6;cases h6
  (conv=>whnf);have em:ID (aP l m j.toNat) (aP l m z.toNat)=iO (aP l m i) (aP l m k):=(by rw [ej,ez,aBk]);((conv=>whnf);apply bm<;>intro h7);rotate_left
  ·have h7:iO (aP l m i) (aP l m k)=0:=(by rw [← em];simpa [aA,aF] using h7);have hyes:F6 l m i k=true:=(by rw [F6,decide_eq_true h7,Bool.true_or]);((conv=>whnf);apply bm<;>intro h9)
   ·(conv=>whnf);refine⟨i - (k+1),by omega,?_⟩;refine cZ (e0:=OR m.length j (z+1)) (h0:=MB l m c1 c2 n) (n0:=3) ⟨k+1,z+1,by omega,by omega,rfl,fun t ht=>?_,rfl,rfl,rfl⟩ ?_ ?_ (by decide)
    ·by_cases htk:t=k
     ·rw [htk];exact hyes
     exact hmk t (by omega)
    ·unfold OR e69;((repeat' refine iE rfl rfl ?_);exact iN)
    unfold MB mY bR;((repeat'(first|refine iF rfl rfl ?_|refine iC rfl rfl rfl ?_|refine iJ rfl rfl rfl rfl ?_));exact iN)
   exfalso;simp [aA,aF,aH] at h9;omega
  have h7:¬ iO (aP l m i) (aP l m k)=0:=(by rw [← em];simpa [aA,aF] using h7);((conv=>whnf);apply bm<;>intro h8)
  ·have h8:¬ iO (aP l m i) (aP l m k)=1:=(by rw [← em];simpa [aA,aF] using h8);(conv=>whnf);exact .inr ⟨by rw [aY,aIY hlt hkl (by rw [F6,decide_eq_false h7,decide_eq_false h8];rfl)];rfl,rfl⟩
  have h8:iO (aP l m i) (aP l m k)=1:=(by rw [← em];simpa [aA,aF] using h8);have hyes:F6 l m i k=true:=(by rw [F6,decide_eq_true h8,Bool.or_true]);((conv=>whnf);apply bm<;>intro h9)
  ·(conv=>whnf);refine⟨i - (k+1),by omega,?_⟩;refine cZ (e0:=OR m.length j (z+1)) (h0:=MB l m c1 c2 n) (n0:=3) ⟨k+1,z+1,by omega,by omega,rfl,fun t ht=>?_,rfl,rfl,rfl⟩ ?_ ?_ (by decide)
   ·by_cases htk:t=k
    ·rw [htk];exact hyes
    exact hmk t (by omega)
   ·unfold OR e69;((repeat' refine iE rfl rfl ?_);exact iN)
   unfold MB mY bR;((repeat'(first|refine iF rfl rfl ?_|refine iC rfl rfl rfl ?_|refine iJ rfl rfl rfl rfl ?_));exact iN)
  exfalso;simp [aA,aF,aH] at h9;omega
 have hge:i=m.length:=(by simp [aA,aF] at h3;omega);have hpln:gW l m n=true:=by
  rw [gW,hlst,lD (fun i hi=>lD (hme i (by omega)))];rfl
 obtain⟨p1,p2,p3,p4⟩:=hP hlst;(conv=>whnf);refine⟨l,m,n,.slice (some ⟨0,0,none⟩) l.length c1,.slice (some ⟨1,0,none⟩) m.length c2,rfl,bF dC rfl,bF dP rfl,hlst,?_⟩;(conv=>whnf);have hW:wC (app (oP 3 (aFx l m c1 c2 n)) (eI (MB l m c1 c2 n))) 7 3 4 9 8 0 (fun i=>3+(i+1000)) l (aO l m m.length) (outs l m) m.length c1 c2 n none:=by
  rw [aBM];exact VI.at (ext_cons (fun _ _ h=>h) aGW) rfl
 refine⟨7,[],3,4,9,8,0,(fun i=>3+(i+1000)),l,aO l m m.length,outs l m,m.length,c1,c2,n,none,rfl,hW,?_⟩;rw [show cnS l (aO l m m.length) (outs l m) []=some (true,.bool (QZ l m)) from by
  unfold cnS;rw [DQ p1,p3,eZ,decide_eq_true p4];rfl]
 refine aJ rfl ?_;((conv=>whnf);apply bm<;>intro b1)
 ·have hc:QZ l m=false:=by
   have b1:(!QZ l m)=true:=b1;simpa using b1
  (conv=>whnf);exact .inr ⟨by rw [aY,hc,Bool.false_and,Bool.and_false],rfl⟩
 have hc:QZ l m=true:=by
  have b1:(!QZ l m)=false:=b1;simpa using b1
 (conv=>whnf);refine⟨ZX l m c1 c2 n,aI5 hl p1 p2,rfl,aBM,rfl,?_⟩;((conv=>whnf);apply bm<;>intro b2);rotate_left
 ·have hok:zY (dE l m)=false:=by
   have b2:((!zY (dE l m)) == false)=false:=b2;simpa using b2
  (conv=>whnf);exact .inr ⟨by rw [aY,hok,Bool.false_and,Bool.and_false,Bool.and_false],rfl⟩
 have hok:zY (dE l m)=true:=by
  have b2:((!zY (dE l m)) == false)=true:=b2;simpa using b2
 (conv=>whnf);rw [aB8];((conv=>whnf);apply bm<;>intro b3)
 ·have hne:¬ (dE l m).many=n:=by
   have b3:(!decide ((dE l m).many=n))=true:=b3;simpa using b3
  (conv=>whnf);exact .inr ⟨by rw [aY,decide_eq_false hne,Bool.false_and,Bool.and_false,Bool.and_false,Bool.and_false],rfl⟩
 have hmn:(dE l m).many=n:=by
  have b3:(!decide ((dE l m).many=n))=false:=b3;simpa using b3
 (conv=>whnf);rw [aB8];(conv=>whnf);have hfl:(dE l m).face.length=2*m.length:=by
  have:=(nJ l (aO l m m.length) (outs l m) (aO l m m.length).length).1;exact this.trans (a9 l m m.length)
 have hDl:(ZX l m c1 c2 n).D.length=2*m.length:=a9 l m m.length;have hhok:=MJ (m:=m) (c1:=c1) (c2:=c2) (n:=n) hl;refine⟨fun q e h nx=>∃ (i:Nat) (j:Int),j=i∧i≤m.length∧q=m.length - i∧(∀ t,t<i→G3 l m t=true)∧e=ZS m.length c2 j∧h=hF l m c1 c2 n∧nx=2004,⟨m.length,?_⟩,?_⟩
 ·refine JI (e0:=ZS m.length c2 0) (h0:=hF l m c1 c2 n) (n0:=2004) ⟨0,0,rfl,Nat.zero_le _,rfl,fun t ht=>absurd ht (Nat.not_lt_zero t),rfl,rfl,rfl⟩ ?_ aJD hhok (by omega);unfold ZS;((repeat' refine iE rfl rfl ?_);exact iN)
 clear hj hi hge h3 hme;rintro q e h nx ⟨i,j,hj,hi,rfl,hfa,rfl,rfl,rfl⟩;unfold ZS;((conv=>whnf);apply bm<;>intro h3);rotate_left
 ·have hge:i=m.length:=(by simp [aA,aF] at h3;omega);(conv=>whnf);refine .inl ⟨?_,aIJ hl⟩;rw [aY,hpln,hc,hok,decide_eq_true hmn,lD (fun t ht=>hfa t (by omega))];rfl
 have hlt:i<m.length:=(by simp [aA,aF] at h3;omega);((conv=>whnf);apply bm<;>intro g1);rotate_left
 ·exfalso;simp [aA,aF] at g1;omega
 (conv=>whnf);refine JA (ZI m (i:=i) (by omega) ?_) ?_
 ·show _+Int.toNat j*5=_;omega
 ((conv=>whnf);apply bm<;>intro g2);rotate_left
 ·exfalso;simp [aA,aF,aH] at g2;omega
 ((conv=>whnf);apply bm<;>intro g3);rotate_left
 ·exfalso;simp [aA,aF,hDl] at g3;omega
 (conv=>whnf);refine kW (iY (dE l m).face (i:=2*i) (by omega) ?_) ?_
 ·show _+Int.toNat (2*j)*1=_;omega
 ((conv=>whnf);apply bm<;>intro g4);rotate_left
 ·have hL:¬ (cN m i).l=aE (dE l m).face (2*i):=by
   have g4:((!decide ((cN m i).l=aE (dE l m).face (2*i))) == false)=false:=g4;simpa using g4
  (conv=>whnf);exact .inr ⟨by rw [aY,lA hlt (show G3 l m i=false by rw [G3,decide_eq_false hL,Bool.false_and]),Bool.and_false,Bool.and_false,Bool.and_false,Bool.and_false],rfl⟩
 have hL:(cN m i).l=aE (dE l m).face (2*i):=by
  have g4:((!decide ((cN m i).l=aE (dE l m).face (2*i))) == false)=true:=g4;simpa using g4
 ((conv=>whnf);apply bm<;>intro g5);rotate_left
 ·exfalso;simp [aA,aF,aH] at g5;omega
 ((conv=>whnf);apply bm<;>intro g6);rotate_left
 ·exfalso;simp [aA,aF,aH] at g6;omega
 ((conv=>whnf);apply bm<;>intro g7);rotate_left
 ·exfalso;simp [aA,aF,hDl] at g7;omega
 (conv=>whnf);refine kW (iY (dE l m).face (i:=2*i+1) (by omega) ?_) ?_
 ·show _+Int.toNat (2*j+1)*1=_;omega
 ((conv=>whnf);apply bm<;>intro g8)
 ·have hR:¬ (cN m i).r=aE (dE l m).face (2*i+1):=by
   have g8:(!decide ((cN m i).r=aE (dE l m).face (2*i+1)))=true:=g8;simpa using g8
  (conv=>whnf);exact .inr ⟨by rw [aY,lA hlt (show G3 l m i=false by rw [G3,decide_eq_false hR,Bool.and_false]),Bool.and_false,Bool.and_false,Bool.and_false,Bool.and_false],rfl⟩
 have hR:(cN m i).r=aE (dE l m).face (2*i+1):=by
  have g8:(!decide ((cN m i).r=aE (dE l m).face (2*i+1)))=false:=g8;simpa using g8
 ((conv=>whnf);apply bm<;>intro g9)
 ·(conv=>whnf);refine⟨m.length - (i+1),by omega,?_⟩;refine JI (e0:=ZS m.length c2 (j+1)) (h0:=hF l m c1 c2 n) (n0:=2004) ⟨i+1,j+1,by omega,by omega,rfl,fun t ht=>?_,rfl,rfl,rfl⟩ ?_ (c8 (aV (fun _ _ h=>h) (bP hhok (Nat.le_refl _))) (bP hhok (Nat.le_refl _))) hhok (by omega)
  ·by_cases hti:t=i
   ·rw [hti,G3,decide_eq_true hL,decide_eq_true hR];rfl
   exact hfa t (by omega)
  unfold ZS;((repeat' refine iE rfl rfl ?_);exact iN)
 exfalso;simp [aA,aF,aH] at g9;omega
end Go.Aw
end
