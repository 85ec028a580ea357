/-
  Parts of a proof. No condition.
-/
import Derived.Test.YticajjhjehljpaaGreatQBn
import Derived.Test.YticajjhjehljpaaGreatQBo
import Derived.Test.YticajjhjehljpaaGreatQBp
set_option linter.unusedSimpArgs false
set_option linter.unusedVariables false
noncomputable section
namespace Go.Aw
def FW (nx:Nat→Nat):Nat→Nat→Nat
 |0,d=>d
 |k+1,d=>nx (FW nx k d)
theorem vW (nx:Nat→Nat):∀ (i j d:Nat),FW nx (i+j) d=FW nx i (FW nx j d)
 |0,j,d=>by rw [Nat.zero_add];rfl
 |i+1,j,d=>by rw [show i+1+j=(i+j)+1 by omega,FW,vW nx i j d,FW]
structure XR (nx:Nat→Nat) (M:Nat):Prop where
 lt:∀ d,d<M→nx d<M
 per:∀ d,d<M→∃ P,0<P∧FW nx P d=d
theorem XR.SG {nx:Nat→Nat}{M:Nat}(h:XR nx M):∀ (k:Nat) {d:Nat},d<M→FW nx k d<M
 |0,d,hd=>hd
 |k+1,d,hd=>h.lt _ (h.SG k hd)
theorem BQ {nx:Nat→Nat}{P d:Nat}(h:FW nx P d=d):∀ k,FW nx (k*P) d=d
 |0=>by rw [Nat.zero_mul];rfl
 |k+1=>by rw [Nat.succ_mul,vW,h,BQ h k]
def Wk (nx:Nat→Nat)(M u v:Nat):Prop:=u=v∨(u<M∧∃ i,FW nx i u=v)
theorem XR.back {nx:Nat→Nat}{M:Nat}(h:XR nx M){d:Nat}(hd:d<M)(i:Nat):∃ j,FW nx j (FW nx i d)=d:=by
 obtain⟨P,hP,e⟩:=h.per d hd;refine⟨i*P - i,?_⟩;have hle:i≤i*P:=Nat.le_mul_of_pos_right i hP;rw [← vW,show i*P - i+i=i*P by omega,BQ e]
theorem XR.eqv {nx:Nat→Nat}{M:Nat}(h:XR nx M):SJ (Wk nx M) where
 refl u:=.inl rfl
 symm:=by
  rintro u v (g|⟨hu,i,rfl⟩)
  ·exact .inl g.symm
  ·obtain⟨j,e⟩:=h.back hu i;exact .inr ⟨h.SG i hu,j,e⟩
 trans:=by
  rintro u v w (rfl|⟨hu,i,rfl⟩) (rfl|⟨hv,j,rfl⟩)
  ·exact .inl rfl
  ·exact .inr ⟨hv,j,rfl⟩
  ·exact .inr ⟨hu,i,rfl⟩
  ·exact .inr ⟨hu,j+i,vW nx j i u⟩
theorem XR.inj {nx:Nat→Nat}{M:Nat}(h:XR nx M){d e:Nat}(hd:d<M)(he:e<M)(hx:nx d=nx e):d=e:=by
 obtain⟨P,hP,e1⟩:=h.per d hd;obtain⟨Q,hQ,e2⟩:=h.per e he;have h1:=BQ e1 Q;have h2:=BQ e2 P;rw [Nat.mul_comm] at h2;have hpos:0<Q*P:=Nat.mul_pos hQ hP;have st:∀ x,FW nx (Q*P) x=FW nx (Q*P - 1) (nx x):=fun x=>by
  have:=vW nx (Q*P - 1) 1 x;rw [show Q*P - 1+1=Q*P by omega] at this;exact this
 rw [st] at h1 h2;rw [← h1,hx,h2]
open Classical in
def pvF (nx:Nat→Nat)(M d:Nat):Nat:=if h:∃ e,e<M∧nx e=d then h.choose else 0
theorem XR.pv {nx:Nat→Nat}{M:Nat}(h:XR nx M):(∀ d,d<M→pvF nx M d<M)∧(∀ d,d<M→nx (pvF nx M d)=d)∧(∀ d,d<M→pvF nx M (nx d)=d):=by
 have ex:∀ d,d<M→∃ e,e<M∧nx e=d:=fun d hd=>by
  obtain⟨P,hP,e1⟩:=h.per d hd;refine⟨FW nx (P - 1) d,h.SG _ hd,?_⟩;have:FW nx (P - 1+1) d=nx (FW nx (P - 1) d):=rfl;rw [← this,show P - 1+1=P by omega,e1]
 have sp:∀ d,d<M→pvF nx M d<M∧nx (pvF nx M d)=d:=fun d hd=>by
  unfold pvF;rw [dif_pos (ex d hd)];exact (ex d hd).choose_spec
 exact⟨fun d hd=>(sp d hd).1,fun d hd=>(sp d hd).2,fun d hd=>h.inj (sp _ (h.lt d hd)).1 hd (sp _ (h.lt d hd)).2⟩
theorem X7 {nx:Nat→Nat}{M:Nat}(h:XR nx M)(L:Nat→Int)(hL:∀ d,d<M→L (nx d)=L d):∀ u v,Wk nx M u v→L u=L v:=by
 rintro u v (rfl|⟨hu,i,rfl⟩)
 ·rfl
 ·induction i with
  |zero=>rfl
  |succ i ih=>rw [FW,hL _ (h.SG i hu)];exact ih
def FY (p:Nat→Pq)(a b:Nat→Nat)(i:Nat):Pq × Pq:=(p (a i),p (b i))
def gN (p:Nat→Pq)(a b:Nat→Nat)(n:Nat):List (Pq × Pq):=(List.range n).map (FY p a b)
theorem uR (f:Pq × Pq→Int)(s:Nat→Pq × Pq):∀ n,kE f ((List.range n).map s)=sN (fun i=>f (s i)) n
 |0=>rfl
 |n+1=>by
  rw [List.range_succ,List.map_append,NY,uR f s n,sN];simp [kE]
open Classical in
def chN (p:Nat→Pq)(a b:Nat→Nat)(n:Nat)(c:Nat→Int)(e:Pq × Pq):Int:=sN (fun i=>if FY p a b i=e then c i else 0) n
theorem aAr {p:Nat→Pq}{a b:Nat→Nat}{n:Nat}{c:Nat→Int}(hd:∀ i k,i<n→k<n→FY p a b i=FY p a b k→i=k){i:Nat}(hi:i<n):chN p a b n c (FY p a b i)=c i:=by
 unfold chN;have:sN (fun k=>if FY p a b k=FY p a b i then c k else 0) n=sN (fun k=>if k=i then c i else 0) n:=cB fun k hk=>by
  by_cases e:k=i
  ·rw [if_pos (by rw [e]),if_pos e,e]
  ·rw [if_neg (fun g=>e (hd k i hk hi g)),if_neg e]
 rw [this,lI,if_pos hi]
theorem aBM {p:Nat→Pq}{a b:Nat→Nat}{n:Nat}{c:Nat→Int}(hd:∀ i k,i<n→k<n→FY p a b i=FY p a b k→i=k)(hc:∀ g:Nat→Int,sN (fun i=>c i*(g (b i) - g (a i))) n=0):LX (gN p a b n) (chN p a b n c):=fun g=>by
 unfold Cs gN;rw [uR,← hc (fun v=>g (p v))];exact cB fun i hi=>by rw [aAr hd hi];rfl
theorem aBI {p:Nat→Pq}{a b:Nat→Nat}{n:Nat}{c:Nat→Int}(hd:∀ i k,i<n→k<n→FY p a b i=FY p a b k→i=k)(hr:∀ i k,i<n→k<n→(p (a i),p (b i))≠(p (b k),p (a k))){i:Nat}(hi:i<n) :
  Cs (gN p a b n) (chN p a b n c) (fun e=>(if e=(p (a i),p (b i)) then 1 else 0) - (if e=(p (b i),p (a i)) then 1 else 0))=c i:=by
 unfold Cs gN;rw [uR];have:sN (fun k=>chN p a b n c (FY p a b k)*((if FY p a b k=(p (a i),p (b i)) then 1 else 0) - (if FY p a b k=(p (b i),p (a i)) then 1 else 0))) n=sN (fun k=>if k=i then c i else 0) n:=cB fun k hk=>by
  rw [aAr hd hk,if_neg (show ¬ FY p a b k=(p (b i),p (a i)) from fun e=>hr k i hk hi e)];by_cases e:k=i
  ·rw [if_pos (by rw [e];rfl),if_pos e,e];omega
  ·rw [if_neg (show ¬ FY p a b k=(p (a i),p (b i)) from fun g=>e (hd k i hk hi g)),if_neg e];omega
 rw [this,lI,if_pos hi]
structure Mp (p:Nat→Pq) (a b nx:Nat→Nat) (nV nE:Nat):Prop where
 pos:0<nE
 av:∀ i,i<nE→a i<nV
 bv:∀ i,i<nE→b i<nV
 ab:∀ i,i<nE→p (a i)≠p (b i)
 ok:∀ i k,i<nE→k<nE→i≠k→okP (FY p a b i) (FY p a b k)
 dist:∀ i k,i<nE→k<nE→FY p a b i=FY p a b k→i=k
 rev:∀ i k,i<nE→k<nE→(p (a i),p (b i))≠(p (b k),p (a k))
 prm:XR nx (2*nE)
def tS (a b:Nat→Nat)(d:Nat):Nat:=if d % 2=0 then a (d / 2) else b (d / 2)
def fD (a b:Nat→Nat)(d:Nat):Nat:=if d % 2=0 then b (d / 2) else a (d / 2)
theorem Mp.gr {p:Nat→Pq}{a b nx:Nat→Nat}{nV nE:Nat}(h:Mp p a b nx nV nE):Gr (gN p a b nE) where
 ne e he:=by
  obtain⟨i,hi,rfl⟩:=List.mem_map.1 he;exact h.ab i (List.mem_range.1 hi)
 ok e he f hf hne:=by
  obtain⟨i,hi,rfl⟩:=List.mem_map.1 he;obtain⟨k,hk,rfl⟩:=List.mem_map.1 hf;exact h.ok i k (List.mem_range.1 hi) (List.mem_range.1 hk) fun e=>hne (by rw [e])
 nd:=by
  unfold gN;refine List.pairwise_map.2 (List.Pairwise.imp_of_mem (R:=fun i k=>i≠k) (fun {i k} hi hk hne e=>hne (h.dist i k (List.mem_range.1 hi) (List.mem_range.1 hk) e)) List.nodup_range)
theorem Mp.ad {p:Nat→Pq}{a b nx:Nat→Nat}{nV nE:Nat}(h:Mp p a b nx nV nE){d:Nat}(hd:d<2*nE):Ad (gN p a b nE) (p (tS a b d)) (p (fD a b d)):=by
 have hi:d / 2<nE:=(by omega);have hm:FY p a b (d / 2)∈gN p a b nE:=List.mem_map_of_mem (List.mem_range.2 hi);unfold tS fD;split
 ·exact .inl hm
 ·exact .inr hm
theorem Mp.aFm {p:Nat→Pq}{a b nx:Nat→Nat}{nV nE:Nat}(h:Mp p a b nx nV nE){v z:Pq}(hz:Ad (gN p a b nE) v z):∃ d,d<2*nE∧p (tS a b d)=v∧p (fD a b d)=z:=by
 rcases hz with hz|hz
 ·obtain⟨i,hi,e⟩:=List.mem_map.1 hz;have hi:=List.mem_range.1 hi;refine⟨2*i,by omega,?_,?_⟩
  ·unfold tS;rw [if_pos (by omega),show 2*i / 2=i by omega];exact congrArg Prod.fst e
  ·unfold fD;rw [if_pos (by omega),show 2*i / 2=i by omega];exact congrArg Prod.snd e
 ·obtain⟨i,hi,e⟩:=List.mem_map.1 hz;have hi:=List.mem_range.1 hi;refine⟨2*i+1,by omega,?_,?_⟩
  ·unfold tS;rw [if_neg (by omega),show (2*i+1) / 2=i by omega];exact congrArg Prod.snd e
  ·unfold fD;rw [if_neg (by omega),show (2*i+1) / 2=i by omega];exact congrArg Prod.fst e
theorem Mp.cyc {p:Nat→Pq}{a b nx:Nat→Nat}{nV nE:Nat}(h:Mp p a b nx nV nE)(hmeet:∀ d,d<2*nE→p (tS a b (nx d))=p (fD a b d))
  (hsoon:∀ d x,d<2*nE→x<2*nE→p (tS a b x)=p (fD a b d)→¬ aBd (p (fD a b d)) (p (tS a b d)) (p (fD a b x)) (p (fD a b (nx d)))) (c:Nat→Int) (hc:∀ g:Nat→Int,sN (fun i=>c i*(g (b i) - g (a i))) nE=0) :
  ∃ L:Nat→Int,(∀ d,d<2*nE→L (nx d)=L d)∧∀ i,i<nE→L (2*i) - L (2*i+1)=c i:=by
 have hG:=h.gr;have hC:=aBM (p:=p) h.dist hc;refine⟨fun d=>Ld (gN p a b nE) (chN p a b nE c) (p (tS a b d)) (p (fD a b d)),fun d hd=>?_,fun i hi=>?_⟩
 ·have hn:=h.prm.lt d hd;have h1:=h.ad hd;have h2:=h.ad hn;rw [hmeet d hd] at h2;simp only;rw [hmeet d hd];refine (aBA hG hC h1 h2 fun z hz=>?_).symm;obtain⟨x,hx,e1,e2⟩:=h.aFm hz;rw [← e2];exact hsoon d x hd hx e1
 ·have h1:=h.ad (d:=2*i) (by omega);have j:=aCc hG hC h1;have e1:tS a b (2*i)=a i:=(by unfold tS;rw [if_pos (by omega),show 2*i / 2=i by omega]);have e2:fD a b (2*i)=b i:=(by unfold fD;rw [if_pos (by omega),show 2*i / 2=i by omega]);have e3:tS a b (2*i+1)=b i:=(by unfold tS;rw [if_neg (by omega),show (2*i+1) / 2=i by omega]);have e4:fD a b (2*i+1)=a i:=(by unfold fD;rw [if_neg (by omega),show (2*i+1) / 2=i by omega]);rw [e1,e2] at j;simp only;rw [e1,e2,e3,e4,j];exact aBI h.dist h.rev hi
end Go.Aw
end

noncomputable section
namespace Go.Aw
set_option maxRecDepth 100000
variable {l:List Pt}{m:List Ed}{n:Int}
def pN (l:List Pt)(i:Nat):Pq:=pZ l i
def aN (m:List Ed)(i:Nat):Nat:=(dG m i).a.toNat
def bN (m:List Ed)(i:Nat):Nat:=(dG m i).b.toNat
def qL (l:List Pt)(m:List Ed)(d:Nat):Nat:=(qV (aL l m m.length) (outs l m) d).toNat
theorem IY (l:List Pt)(m:List Ed)(i:Nat):FY (pN l) (aN m) (bN m) i=bZ l m i:=rfl
theorem rX {i:Nat}(hi:i<2*m.length):tS (aN m) (bN m) i=(bK (aL l m m.length) i).fr.toNat∧fD (aN m) (bN m) i=(bK (aL l m m.length) i).tt.toNat:=by
 unfold tS fD;rcases kN (l:=l) (m:=m) hi with ⟨e,h⟩|⟨e,h⟩
 ·rw [h,if_pos e,if_pos e];exact⟨rfl,rfl⟩
 ·rw [h,if_neg (by omega),if_neg (by omega)];exact⟨rfl,rfl⟩
theorem rL (hok:cL l m n=true){d:Nat}(hd:d<2*m.length):((qL l m d:Nat):Int)=qV (aL l m m.length) (outs l m) d∧qL l m d<2*m.length:=by
 have:=E0 hok (d:=(d:Int)) (by omega) (by omega);unfold qL;omega
theorem aH0 (hok:cL l m n=true){d:Nat}(hd:d<2*m.length):∀ k,((FW (qL l m) k d:Nat):Int)=iY (aL l m m.length) (outs l m) d k
 |0=>rfl
 |k+1=>by
  have ih:=aH0 hok hd k;have hin:=qB hok (d:=(d:Int)) (by omega) (by omega) k;rw [FW];have:=rL hok (d:=FW (qL l m) k d) (by omega);rw [this.1,ih];rfl
theorem aAQ {u x:V2}:¬ z8 u x x:=fun h=>uV h h
theorem oM (hp:iP l m n=true):Mp (pN l) (aN m) (bN m) (qL l m) l.length m.length where
 pos:=by have:=(fC (cN hp)).2.1;omega
 av i hi:=by have:=o9 (cN hp) hi;unfold aN;omega
 bv i hi:=by have:=o9 (cN hp) hi;unfold bN;omega
 ab i hi e:=by
  have h:=(pE (cN hp) hi).2;have e:(bZ l m i).1=(bZ l m i).2:=e;rw [e] at h;unfold fP at h;simp only [Bool.or_eq_true,Bool.and_eq_true,decide_eq_true_eq] at h;omega
 ok i k hi hk hne:=by
  have key:∀ {i k:Nat},i<m.length→k<i→okP (bZ l m i) (bZ l m k):=fun {i k} hi hk=>by
   have ri:=(pE (cN hp) hi).1;have rk:=(pE (cN hp) (i:=k) (by omega)).1;simp only [iP,Bool.and_eq_true] at hp;have h:=eH (f:=fun k=>H3 l m i k) (eH (f:=fun i=>mG (fun k=>H3 l m i k) i) hp.2 hi) hk;simp only [H3,Bool.or_eq_true,decide_eq_true_eq] at h;unfold iI at h;rw [if_pos ⟨ri,rk⟩] at h;exact aDk ri rk h
  rw [IY,IY];rcases Nat.lt_or_gt_of_ne hne with h|h
  ·exact EA (key hk h)
  ·exact key hi h
 dist i k hi hk e:=by
  refine Classical.byContradiction fun hne=>?_;rw [IY,IY] at e;have ri:=pE (cN hp) hi;have h4:iI (bZ l m i) (bZ l m i)=4:=RK ri.1 ri.1 ri.2 ri.2 rfl (TM _ _);have h:=aAm hp hi hk hne;rw [← e,h4] at h;omega
 rev i k hi hk e:=by
  have ri:=(pE (cN hp) hi).2;have rk:=(pE (cN hp) hk).2;have e1:(bZ l m i).1=(bZ l m k).2:=congrArg Prod.fst e;have e2:(bZ l m i).2=(bZ l m k).1:=congrArg Prod.snd e;rw [e1,e2] at ri;unfold fP at ri rk;simp only [Bool.or_eq_true,Bool.and_eq_true,decide_eq_true_eq] at ri rk;omega
 prm:={
  lt:=fun d hd=>(rL (cN hp) hd).2
  per:=fun d hd=>by
   have hw:=of_decide_eq_true (List.all_eq_true.1 (vK (cN hp)) d (List.mem_range.2 (by rw [aY];exact hd)));have h1:=(gP (aL l m m.length) (outs l m) d (aL l m m.length).length 1).1;refine⟨gB (aL l m m.length) (outs l m) d,by unfold gB;omega,?_⟩;have:=aH0 (cN hp) hd (gB (aL l m m.length) (outs l m) d);rw [hw] at this;omega }
theorem CL (hok:cL l m n=true){d:Nat}(hd:d<2*m.length):tS (aN m) (bN m) (qL l m d)=fD (aN m) (bN m) d:=by
 have:=E0 hok (d:=(d:Int)) (by omega) (by omega);rw [(rX (l:=l) (rL hok hd).2).1,(rX (l:=l) hd).2];have h:=this.2.2;rw [Int.toNat_natCast] at h;exact h
theorem aDG (hp:iP l m n=true){d x:Nat}(hd:d<2*m.length)(hx:x<2*m.length)(he:tS (aN m) (bN m) x=fD (aN m) (bN m) d) :
  ¬ aBd (pN l (fD (aN m) (bN m) d)) (pN l (tS (aN m) (bN m) d)) (pN l (fD (aN m) (bN m) x)) (pN l (fD (aN m) (bN m) (qL l m d))):=by
 have hok:=cN hp;obtain⟨hM,_⟩:=fC hok;have hn:=rL hok hd;have fx:=eR (l:=l) hM hx;have fd:=eR (l:=l) hM hd;have fn:=eR (l:=l) hM hn.2;have ex:=rX (l:=l) hx;have ed:=rX (l:=l) hd;have en:=rX (l:=l) hn.2;have hm:=CL hok hd;have gx:=vG l m hx;have gn:=vG l m hn.2;have hb:=wX l m (d:=(d:Int)) (by omega) (by omega);have hbi:=sW (E:=m.length) (d:=(d:Int)) (by omega) (by omega);have gb:=vG l m (i:=(c9 (d:Int)).toNat) (by omega);rw [hb.1,hb.2.1,Int.toNat_natCast] at gb;have hfx:(bK (aL l m m.length) x).fr=(bK (aL l m m.length) d).tt:=(by omega);have hfn:(bK (aL l m m.length) (qL l m d)).fr=(bK (aL l m m.length) d).tt:=(by omega);rw [hfx] at gx;rw [hfn] at gn;rw [ex.2,ed.1,ed.2,en.2];have hs:¬ z8 (zR l m (c9 d)) (zR l m x) (zR l m (qL l m d:Nat)):=by
  by_cases e:(x:Int)=qV (aL l m m.length) (outs l m) d
  ·have e:x=qL l m d:=(by omega);rw [e];exact aAQ
  ·have:=US hp (d:=(d:Int)) (by omega) (by omega) hx (by rw [Int.toNat_natCast];exact hfx) e;rw [← hn.1] at this;exact uV this
 intro h;apply hs;show z8 (dL (bK (aL l m m.length) (c9 d).toNat)) (dL (bK (aL l m m.length) x)) (dL (bK (aL l m m.length) (qL l m d)));rw [gb,gx,gn];exact h
theorem aIE (hok:cL l m n=true){R:Nat→Nat→Prop}(hR:SJ R)(hn:∀ d,d<2*m.length→R d (qL l m d))(hf:∀ i,i<m.length→R (2*i) (2*i+1)){x y:Nat}(hx:x<2*m.length)(hy:y<2*m.length)(he:tS (aN m) (bN m) x=tS (aN m) (bN m) y):R x y:=by
 have hbk:∀ d,d<2*m.length→R d (c9 (d:Int)).toNat∧(c9 (d:Int)).toNat<2*m.length:=fun d hd=>by
  unfold c9;split
  ·have:=hf (d / 2) (by omega);rw [show 2*(d / 2)=d by omega] at this;rw [show ((d:Int)+1).toNat=d+1 by omega];exact⟨this,by omega⟩
  ·have:=hf (d / 2) (by omega);rw [show 2*(d / 2)+1=d by omega] at this;rw [show ((d:Int) - 1).toNat=2*(d / 2) by omega];exact⟨hR.symm this,by omega⟩
 obtain⟨hM,_⟩:=fC hok;have fx:=eR (l:=l) hM hx;have fy:=eR (l:=l) hM hy;rw [(rX (l:=l) hx).1,(rX (l:=l) hy).1] at he;obtain⟨s,hs⟩:∃ s,s=(bK (aL l m m.length) x).fr.toNat:=⟨_,rfl⟩;have hsl:s<l.length:=(by omega);obtain⟨L,hL⟩:∃ L,bE (outs l m) s=L:=⟨_,rfl⟩;have hmem:=fun z=>gG (x:=z) hok hsl;rw [hL] at hmem
 -- one after the other
 have step:∀ q,q+1<L.length→R (aH L (q+1)).toNat (aH L q).toNat:=fun q hq=>by
  obtain⟨i,i1,i2,i3⟩:=(hmem _).1 (at_mem hq);have hd:=hbk i i1;obtain⟨d,hdd⟩:∃ d:Nat,(c9 (i:Int)).toNat=d:=⟨_,rfl⟩;rw [hdd] at hd;have hbi:=sW (E:=m.length) (d:=(i:Int)) (by omega) (by omega);have hbb:=zO (d:=(i:Int)) (by omega);have hdI:(d:Int)=c9 i:=(by omega);have hb:=wX l m (d:=(i:Int)) (by omega) (by omega);rw [← hdI,Int.toNat_natCast,Int.toNat_natCast] at hb;obtain⟨s',a,e1,hs',e2,ha,e3,e4,e5⟩:=oV hok (d:=(d:Int)) (by omega) (by omega);rw [Int.toNat_natCast,hb.2.1,i3] at e1;rw [e1,hL] at ha e4 e5;rw [hdI,hbb] at e4;have hnd:=uY hok hsl;rw [hL] at hnd;have haq:a=q+1:=FM hnd ha hq (by rw [e4,i2]);rw [haq,if_neg (by omega),Nat.add_sub_cancel] at e5;have hnn:=rL hok (d:=d) hd.2;have:=hn d hd.2;rw [show (aH L (q+1)).toNat=i by omega,show (aH L q).toNat=qL l m d by omega];exact hR.trans hd.1 this
 have all:∀ q,q<L.length→R (aH L 0).toNat (aH L q).toNat:=fun q=>by
  induction q with
  |zero=>intro _;exact hR.refl _
  |succ q ih=>intro hq;exact hR.trans (ih (by omega)) (hR.symm (step q hq))
 have one:∀ z,z<2*m.length→(bK (aL l m m.length) z).fr.toNat=s→R (aH L 0).toNat z:=fun z hz e=>by
  have hz':(z:Int)∈L:=(hmem _).2 ⟨z,hz,rfl,e⟩;obtain⟨q,hq,e⟩:=List.getElem_of_mem hz';rw [← jQ hq] at e;have:=all q hq;rw [e,Int.toNat_natCast] at this;exact this
 exact hR.trans (hR.symm (one x hx hs.symm)) (one y hy (by omega))
theorem aC1 {a b:Nat→Nat}{k i:Nat}(h:i<k):s9 a b k (a i) (b i):=by
 induction k with
 |zero=>omega
 |succ k ih =>
  by_cases e:i=k
  ·rw [e];exact .inr (.inl ⟨(kL a b k).refl _,(kL a b k).refl _⟩)
  ·exact .inl (ih (by omega))
theorem OY (hok:cL l m n=true)(hc:VO l m=true):∀ v,v<l.length→s9 (aN m) (bN m) m.length 0 v:=by
 have eV:=kL (aN m) (bN m) m.length;have rel:∀ (s:List Bool),s.length=l.length→(∀ v,cM s v=true→s9 (aN m) (bN m) m.length 0 v)→∀ i,i≤m.length→∀ v,cM (oY m s i) v=true→s9 (aN m) (bN m) m.length 0 v:=fun s hs h i=>by
  induction i with
  |zero=>intro _;exact h
  |succ i ih =>
   intro hi v hv;have ih:=ih (by omega);have hl:=qT m s i;have he:=o9 hok (i:=i) (by omega);unfold oY J0 at hv;split at hv
   ·rename_i hor;have hed:=aC1 (a:=aN m) (b:=bN m) (k:=m.length) (i:=i) (by omega);rw [kT _ _ _ _ (by rw [List.length_set];omega),kT _ _ _ _ (by omega)] at hv;have hab:s9 (aN m) (bN m) m.length 0 (aN m i):=by
     rw [Bool.or_eq_true] at hor;rcases hor with g|g
     ·exact ih _ g
     ·exact eV.trans (ih _ g) (eV.symm hed)
    split at hv
    ·rename_i e;rw [e];exact eV.trans hab hed
    ·split at hv
     ·rename_i e;rw [e];exact hab
     ·exact ih v hv
   ·exact ih v hv
 have con:∀ k,∀ v,cM (dV l m k) v=true→s9 (aN m) (bN m) m.length 0 v:=fun k=>by
  induction k with
  |zero =>
   intro v hv;unfold dV qJ cM at hv;rw [List.getD_eq_getElem?_getD,List.getElem?_map] at hv;by_cases hvl:v<l.length
   ·rw [List.getElem?_range hvl] at hv;have:(v:Int)=0:=(by simpa using hv);rw [show v=0 by omega];exact eV.refl _
   ·rw [List.getElem?_eq_none (by simpa using hvl)] at hv;simp at hv
  |succ k ih =>
   intro v hv;exact rel (dV l m k) (rJ l m k) ih m.length (Nat.le_refl _) v hv
 intro v hv;refine con l.length v ?_;have hl:=rJ l m l.length;have:=List.all_eq_true.1 hc (dV l m l.length)[v] (List.getElem_mem (by omega));rw [qQ (by omega)];exact this
theorem aGz {R:Nat→Nat→Prop}(hR:SJ R)(hok:cL l m n=true)(hn:∀ d,d<2*m.length→R d (qL l m d))(hf:∀ i,i<m.length→R (2*i) (2*i+1)):∀ k,k≤m.length→∀ u v,s9 (aN m) (bN m) k u v→∀ x y,x<2*m.length→y<2*m.length→tS (aN m) (bN m) x=u→tS (aN m) (bN m) y=v→R x y:=fun k=>by
 induction k with
 |zero =>
  intro _ u v h x y hx hy ex ey;have h:u=v:=h;exact aIE hok hR hn hf hx hy (by omega)
 |succ k ih =>
  intro hk u v h x y hx hy ex ey;have ih:=ih (by omega);have f0:tS (aN m) (bN m) (2*k)=aN m k:=(by unfold tS;rw [if_pos (by omega),show 2*k / 2=k by omega]);have f1:tS (aN m) (bN m) (2*k+1)=bN m k:=(by unfold tS;rw [if_neg (by omega),show (2*k+1) / 2=k by omega]);rcases h with g|⟨g1,g2⟩|⟨g1,g2⟩
  ·exact ih u v g x y hx hy ex ey
  ·exact hR.trans (ih u _ g1 x (2*k) hx (by omega) ex f0) (hR.trans (hf k (by omega)) (ih _ v g2 (2*k+1) y (by omega) hy f1 ey))
  ·exact hR.trans (ih u _ g1 x (2*k+1) hx (by omega) ex f1) (hR.trans (hR.symm (hf k (by omega))) (ih _ v g2 (2*k) y (by omega) hy f0 ey))
theorem aFg (hp:iP l m n=true)(hc:VO l m=true):Emb l.length m.length (aN m) (bN m) (qL l m) (pvF (qL l m) (2*m.length)) (Wk (qL l m) (2*m.length)) where
 pos:=(oM hp).pos
 av:=(oM hp).av
 bv:=(oM hp).bv
 nx_lt:=(oM hp).prm.lt
 pv_lt:=(oM hp).prm.pv.1
 nxpv:=(oM hp).prm.pv.2.1
 pvnx:=(oM hp).prm.pv.2.2
 meet g d hd:=by
  have h:=CL (cN hp) hd;unfold tS fD at h;have:=congrArg g h;rw [apply_ite g,apply_ite g] at this;exact this.symm
 eqv:=(oM hp).prm.eqv
 W_nx d hd:=.inr ⟨hd,1,rfl⟩
 W_inv L hL:=X7 (oM hp).prm L hL
 cyc c hc:=(oM hp).cyc (fun d hd=>by rw [CL (cN hp) hd]) (fun d x hd hx he=>by
  have hok:=cN hp
  -- the same point has the same number
  have hinj:tS (aN m) (bN m) x=fD (aN m) (bN m) d:=by
   have v1:tS (aN m) (bN m) x<l.length:=by
    have:=eR (l:=l) (fC hok).1 hx;rw [(rX (l:=l) hx).1];omega
   have v2:fD (aN m) (bN m) d<l.length:=by
    have:=eR (l:=l) (fC hok).1 hd;rw [(rX (l:=l) hd).2];omega
   refine Classical.byContradiction fun hne=>?_;have key:∀ {i j:Nat},i<j→j<l.length→pN l i=pN l j→False:=fun {i j} h1 h2 e=>by
    have:=I6 hok h1 h2;have e:pZ l i=pZ l j:=e;rw [e] at this;unfold fP at this;simp only [Bool.or_eq_true,Bool.and_eq_true,decide_eq_true_eq] at this;omega
   rcases Nat.lt_or_gt_of_ne hne with h|h
   ·exact key h v2 he
   ·exact key h v1 he.symm
  exact aDG hp hd hx hinj) c hc
 conV:=OY (cN hp) hc
 conD d hd:=by
  have hok:=cN hp;have eW:=(oM hp).prm.eqv;have eD:=uI eW m.length m.length;have eV:=kL (aN m) (bN m) m.length;have h0:=(oM hp).pos;have v0:tS (aN m) (bN m) 0<l.length:=by
   have:=eR (l:=l) (fC hok).1 (i:=0) (by omega);rw [(rX (l:=l) (i:=0) (by omega)).1];omega
  have v1:tS (aN m) (bN m) d<l.length:=by
   have:=eR (l:=l) (fC hok).1 hd;rw [(rX (l:=l) hd).1];omega
  exact aGz eD hok (fun d hd=>aEP (.inr ⟨hd,1,rfl⟩)) (fun i hi=>IK eW (by omega) hi) m.length (Nat.le_refl _) _ _ (eV.trans (eV.symm (OY hok hc _ v0)) (OY hok hc _ v1)) 0 d (by omega) hd rfl rfl
end Go.Aw
end

noncomputable section
namespace Go.Aw
set_option maxRecDepth 100000
set_option maxHeartbeats 2000000
def mRX (s:List Pt→List Ed→Int→List Value→Option (Bool × List Int × Option Int)):XF:=fun args h nx K=>∃ p q n r l m,args=mapA p q n::r∧n9 a8 h p l∧n9 aX h q m ∧
 (match s l m n r with|some pr=>dI pr.1 (aGC aU pr.2.1 pr.2.2 h nx K)|none=>False)
theorem aG9 {P:Program}{C:VC}{f:Nat}{s:List Pt→List Ed→Int→List Value→Option (Bool × List Int × Option Int)}(hC:bF P C)
  (hs:∀ l m n r out e,s l m n r=some (true,out,e)→eY r=true∧∀ c1 c2,C f (aC l.length m.length c1 c2 n::r) (aE a8 aX l m) 2 (Yields aU out e)):dK P f (mRX s):=by
 refine (aGr aU (T:=fun args0 h0 n0 out e=>C f args0 h0 n0 (Yields aU out e)) hC ?_).mono ?_ ?_
 ·rintro args0 h0 n0 out e hc;exact hc
 ·rintro args h nx K ⟨p,q,n,r,l,m,rfl,hl,hm,hx⟩;split at hx
  case h_2=>exact hx.elim
  rename_i pr e1;obtain⟨bb,out,e⟩:=pr;obtain⟨rfl,hx⟩:=aD.1 hx;obtain⟨a1,a3⟩:=hs l m n r out e e1;obtain⟨c1,c2,i⟩:=aAB (n:=n) (nx:=nx) a8 aX a1 hl hm;exact aCq aU (a3 c1 c2) i hx
 ·rintro args h nx K ⟨p,q,n,r,l,m,rfl,hl,hm,hx⟩;split at hx
  case h_2=>exact hx.elim
  rename_i pr e1;obtain⟨bb,out,e⟩:=pr;obtain⟨hb,hx⟩:=aD.1 hx;cases out with
  |nil=>exact⟨_,_,_,hx,fun K' hk'=>⟨p,q,n,r,l,m,rfl,hl,hm,by rw [e1];exact aJ hb hk'⟩⟩
  |cons a t=>exact⟨_,_,_,hx,fun K' hk'=>⟨p,q,n,r,l,m,rfl,hl,hm,by rw [e1];exact aJ hb hk'⟩⟩
theorem XK {l:List Pt}{m:List Ed}{c1 c2 b:Nat}{n:Int}{cs:List Value}(hc:dE cs=true):zS (dT (cC (cC (cC (aE a8 aX l m) 2 (.cells true false 1 [.slice (some ⟨0,0,none⟩) l.length c1,.slice (some ⟨1,0,none⟩) m.length c2,iv n])) 3 (.cells true false 1 cs)) 4 (.cells true false 1 [.slice (some ⟨0,0,none⟩) l.length c1,.slice (some ⟨1,0,none⟩) m.length c2,iv n]))) (b+5):=by
 have hb:∀ {b},5≤b→bT id b (.cells true false 1 [.slice (some ⟨0,0,none⟩) l.length c1,.slice (some ⟨1,0,none⟩) m.length c2,iv n]) (.cells true false 1 [.slice (some ⟨0,0,none⟩) l.length c1,.slice (some ⟨1,0,none⟩) m.length c2,iv n]):=fun {b} h =>
  ⟨rfl,rfl,rfl,rfl,List.forall_mem_cons.2 ⟨⟨Nat.lt_of_lt_of_le (by decide:0<5) h,fun h=>by cases h⟩,List.forall_mem_cons.2 ⟨⟨Nat.lt_of_lt_of_le (by decide:1<5) h,fun h=>by cases h⟩,List.forall_mem_cons.2 ⟨cD rfl,fun _ h=>(by cases h)⟩⟩⟩⟩
 refine MF ?_ rfl;exact cQ (cQ (cQ (cQ (cQ (fun k o hk=>by cases hk) (by omega) (aI (aF _ _))) (by omega) (aI (aF _ _))) (by omega) (hb (by omega))) (by omega) (aI hc)) (by omega) (hb (by omega))
theorem aFF {nx:Nat}{l:List Pt}{m:List Ed}{c1 c2:Nat}{n:Int}(hl:l.length≤1000):zS (wN nx l m c1 c2 n (wTb nx l m) (wT nx l m)) (nx+2004):=by
 rw [← R3];exact QY (n:=nx) (W:=VT l m c1 c2 n) (b:=2004) (fun k o hk=>KU hl k o (JQ k o hk)) (yZ 3 pJ)
def H5 (l:List Pt)(m:List Ed)(n:Int)(c1 c2:Nat)(cs:List Value):Heap :=
 app (dT (cC (cC (cC (aE a8 aX l m) 2 (.cells true false 1 [.slice (some ⟨0,0,none⟩) l.length c1,.slice (some ⟨1,0,none⟩) m.length c2,iv n])) 3 (.cells true false 1 cs)) 4 (.cells true false 1 [.slice (some ⟨0,0,none⟩) l.length c1,.slice (some ⟨1,0,none⟩) m.length c2,iv n]))) (wN 5 l m c1 c2 n (wTb 5 l m) (wT 5 l m))
theorem aFt {l:List Pt}{m:List Ed}{n:Int}{c1 c2:Nat}{cs:List Value}(hl:l.length≤1000)(hc:dE cs=true):zS (H5 l m n c1 c2 cs) 2009:=UI (XK (b:=2004) hc) (aFF (nx:=5) hl)
theorem aIb {l:List Pt}{m:List Ed}{n:Int}{c1 c2:Nat}{cs:List Value}(ho:cZ l m n=true)(hs:l.length≤1000∧m.length≤1000):WA (H5 l m n c1 c2 cs) 12 l m n :=
 ZB (nx:=5) (aEC (nx:=5) ho hs) (fun k hk=>aAj hs.1 (.inl hk)) rfl
theorem aHP {l:List Pt}{m:List Ed}{n:Int}{c1 c2:Nat}{cs:List Value}(hl:l.length≤1000){k:Nat}(hk:2009≤k):look (H5 l m n c1 c2 cs) k=none:=aD6 (nx:=5) rfl (by omega) (aAj hl (.inr hk))
theorem NQ {v:Value}{H' h:Heap}{b n0 nx:Nat}(hv:iM id v=v)(hn:BK n0 v)(hh:∀ k o,look H' k=some o→look h k=some o)(hok:zS H' n0)(hb:b≤n0):∃ ρ,oU b ρ [(0,v)] H' n0 [(0,v)] h nx:=by
 refine⟨id,fun t u hu=>?_,fun k o hk=>⟨(hok k o hk).1,o,hh k o hk,(hok k o hk).2⟩,fun _ _ _ _ _ _ e=>e,fun _ _=>rfl,hb⟩;have hm:=bA hu;simp only [List.mem_cons,List.not_mem_nil,or_false] at hm;injection hm with e1 e2;subst e1 e2;rw [hv];exact⟨rfl,hn⟩
structure A81 where
 l:List Pt
 m:List Ed
 n:Int
 c1:Nat
 c2:Nat
 f:Int
 b:Bool
def OR (D:List Dt)(L:List Int):Nat→List Int
 |0=>L
 |i+1=>(OR D L i).set i (bK D (aH L i).toNat).fr
theorem xK (D:List Dt)(L:List Int):∀ i,(OR D L i).length=L.length
 |0=>rfl
 |i+1=>by unfold OR;rw [List.length_set];exact xK D L i
theorem aAI (D:List Dt)(L:List Int):∀ (i k:Nat),i≤k→aH (OR D L i) k=aH L k
 |0,k,_=>rfl
 |i+1,k,h=>by
  unfold OR;rw [← aAI D L i k (by omega)];unfold aH;rw [List.getD_eq_getElem?_getD,List.getD_eq_getElem?_getD,List.getElem?_set,if_neg (by omega)];rfl
def aKr (a:A81):Prop:=cZ a.l a.m a.n=true∧(a.l.length≤1000∧a.m.length≤1000)∧GB a.n a.f=a.b
def yL (l:List Pt)(m:List Ed)(f:Int):List Int:=OR (aL l m m.length) (GI l m f) (GI l m f).length
def v81 (a:A81):Value:=match a.b with|true=>.tuple #[.slice (some ⟨2010,0,none⟩) (yL a.l a.m a.f).length (yL a.l a.m a.f).length,iv 0]|false=>.tuple #[aM,iv 1]
def h81 (a:A81):Heap:=match a.b with|true=>(2010,.cells true false 1 (flat aU.fl (yL a.l a.m a.f)))::(2009,.cells true false 1 (flat aU.fl [a.f]))::H5 a.l a.m a.n a.c1 a.c2 [iv a.f]|false=>H5 a.l a.m a.n a.c1 a.c2 [iv a.f]
def n81 (a:A81):Nat:=match a.b with|true=>2011|false=>2009
def X81:XF:=dX aKr (fun a=>[.pointer (some ⟨12,0,none⟩),.pointer (some ⟨3,0,none⟩)]) (fun a=>H5 a.l a.m a.n a.c1 a.c2 [iv a.f]) (fun _=>2009) v81 h81 n81
def e81 (N:Nat)(j:Int):List (Nat × Value):=[(0,.pointer (some ⟨12,0,none⟩)),(5,.slice (some ⟨2010,0,none⟩) N N),(18,.slice (some ⟨2010,0,none⟩) N N),(19,iv N),(20,iv j)]
theorem w81 (l:List Pt)(m:List Ed)(n:Int)(c1 c2:Nat)(f:Int)(b:Bool)(ho:cZ l m n=true)(hlm:l.length≤1000∧m.length≤1000)(hb:GB n f=b) :
  body [aDe,aCV,aCP] 40 [.pointer (some ⟨12,0,none⟩),.pointer (some ⟨3,0,none⟩)] (H5 l m n c1 c2 [iv f]) 2009 (fun v h nx=>∃ ρ,oU 2009 ρ [(0,v81 ⟨l,m,n,c1,c2,f,b⟩)] (h81 ⟨l,m,n,c1,c2,f,b⟩) (n81 ⟨l,m,n,c1,c2,f,b⟩) [(0,v)] h nx):=by
 have hW:=aIb (c1:=c1) (c2:=c2) (cs:=[iv f]) ho hlm;have hK:=aFt (l:=l) (m:=m) (n:=n) (c1:=c1) (c2:=c2) (cs:=[iv f]) hlm.1 rfl;have hN:∀ k,2009≤k→look (H5 l m n c1 c2 [iv f]) k=none:=fun k hk=>aHP hlm.1 hk;have hd:=aY l m m.length;(conv=>whnf);refine⟨_,_,l,m,n,[f],1,rfl,PZ hW (hN _ (by decide)),⟨_,_,_,_,rfl,rfl⟩,?_⟩;((conv=>whnf);refine bm (fun g1=>?_) (fun g1=>?_))
 ·have g1:GB n f=false:=by
   have g1:(!GB n f)=true:=g1;simpa using g1
  rw [g1] at hb;subst hb;(conv=>whnf);exact NQ (v:=v81 ⟨l,m,n,c1,c2,f,false⟩) (sI rfl) (dD rfl) (eI (fun _ _ h=>h) (hN _ (by decide))) hK (Nat.le_refl _)
 ·have g1:GB n f=true:=by
   have g1:(!GB n f)=false:=g1;simpa using g1
  rw [g1] at hb;subst hb;have g2:=g1;simp only [GB,Bool.and_eq_true,decide_eq_true_eq] at g2;obtain⟨d,e1,e2,e3,e4,e5,e6,e7,e8⟩:=Y2 ho g2.1 g2.2;have hwl:yL l m f=OR (aL l m m.length) (nS (aL l m m.length) (outs l m) d) (nS (aL l m m.length) (outs l m) d).length:=(by unfold yL GI;rw [e1]);(conv=>whnf);refine⟨_,_,l,m,n,rfl,PZ hW (hN _ (by decide)),?_⟩;(conv=>whnf);rw [e1];refine⟨_,_,l,m,n,rfl,PZ hW (hN _ (by decide)),?_⟩;refine aJ (show (rE l (aL l m m.length) (outs l m)&&decide (0≤d)&&decide (d<(aL l m m.length).length)&&decide (iY (aL l m m.length) (outs l m) d (gB (aL l m m.length) (outs l m) d)=d))=true from ?_) ?_
  ·rw [e4,decide_eq_true e2,decide_eq_true (show d<((aL l m m.length).length:Int) by rw [hd];omega),decide_eq_true e5];rfl
  generalize nS (aL l m m.length) (outs l m) d=L at *;(conv=>whnf);refine⟨fun q e h nx=>∃ (i:Nat) (j:Int),j=i∧i≤L.length∧q=L.length - i∧e=e81 L.length j∧h=[(2010,.cells true false 1 (flat aU.fl (OR (aL l m m.length) L i))),(2009,.cells true false 1 (flat aU.fl [f]))]++H5 l m n c1 c2 [iv f]∧nx=2011,⟨L.length,?_⟩,?_⟩
  ·refine gU (P:=[(2010,.cells true false 1 (flat aU.fl (OR (aL l m m.length) L 0))),(2009,.cells true false 1 (flat aU.fl [f]))]) (W:=H5 l m n c1 c2 [iv f]) (e0:=e81 L.length 0) (n0:=2011) [] ⟨0,0,rfl,Nat.zero_le _,rfl,rfl,rfl,rfl⟩ ?_ hK ?_ ?_ ?_ (fun _ h=>(by cases h)) (by omega)
   ·unfold e81;((repeat' refine iE rfl rfl ?_);exact iN)
   ·exact eI (eI (fun _ _ h=>h) (hN _ (by decide))) (hN _ (by decide))
   ·exact List.forall_mem_cons.2 ⟨⟨.inl ⟨Nat.le_of_ble_eq_true rfl,Nat.le_of_ble_eq_true rfl,Nat.le_of_ble_eq_true rfl⟩,_,rfl,aI (aF _ _)⟩,List.forall_mem_cons.2 ⟨⟨.inl ⟨Nat.le_of_ble_eq_true rfl,Nat.le_of_ble_eq_true rfl,Nat.le_of_ble_eq_true rfl⟩,_,rfl,aI (aF _ _)⟩,fun _ h=>(by cases h)⟩⟩
   ·show ∀ k∈[2010,2009],∀ k'∈[2010,2009],_;decide
  ·rintro q e h nx ⟨i,j,hj,hi,rfl,rfl,rfl,rfl⟩;have hfl:=xK (aL l m m.length) L i;have hfa:=aAI (aL l m m.length) L i i (Nat.le_refl _);unfold e81 H5;((conv=>whnf);refine bm (fun m1=>?_) (fun m1=>?_))
   ·have hil:i<L.length:=(by simp [aA,aG] at m1;omega);((conv=>whnf);refine bm (fun m2=>?_) (fun m2=>?_))
    ·(conv=>whnf);refine lD (j1 (OR (aL l m m.length) L i) (i:=i) (by omega) ?_) ?_
     ·show _+Int.toNat j*1=_;omega
     rw [hfa];have hin:=oD e6 hil;rw [hd] at hin;((conv=>whnf);refine bm (fun m3=>?_) (fun m3=>?_))
     ·(conv=>whnf);refine lD (aDV (aL l m m.length) (i:=(aH L i).toNat) (by omega) ?_) ?_
      ·show _+Int.toNat (aH L i)*5+3=_;omega
      ((conv=>whnf);refine bm (fun m4=>?_) (fun m4=>?_))
      ·((conv=>whnf);refine bm (fun m5=>?_) (fun m5=>?_))
       ·((conv=>whnf);refine bm (fun m6=>?_) (fun m6=>?_))
        ·(conv=>whnf);refine⟨L.length - (i+1),by omega,?_⟩;refine gU (P:=[(2010,.cells true false 1 (flat aU.fl (OR (aL l m m.length) L (i+1)))),(2009,.cells true false 1 (flat aU.fl [f]))]) (W:=H5 l m n c1 c2 [iv f]) (e0:=e81 L.length (j+1)) (n0:=2011) [] ⟨i+1,j+1,by omega,by omega,rfl,rfl,rfl,rfl⟩ ?_ hK ?_ ?_ ?_ (fun _ h=>(by cases h)) (by omega)
         ·unfold e81;((repeat' refine iE rfl rfl ?_);exact iN)
         ·exact lO (ext_cons (ext_cons (fun _ _ h=>h) (hN _ (by decide))) (hN _ (by decide))) (hN _ (by decide))
         ·refine List.forall_mem_cons.2 ⟨⟨.inl ⟨Nat.le_of_ble_eq_true rfl,Nat.le_of_ble_eq_true rfl,Nat.le_of_ble_eq_true rfl⟩,.cells true false 1 (flat aU.fl (OR (aL l m m.length) L (i+1))),?_,aI (aF _ _)⟩,List.forall_mem_cons.2 ⟨⟨.inl ⟨Nat.le_of_ble_eq_true rfl,Nat.le_of_ble_eq_true rfl,Nat.le_of_ble_eq_true rfl⟩,_,rfl,aI (aF _ _)⟩,fun _ h=>(by cases h)⟩⟩;have hp:=B4 (OR (aL l m m.length) L i) i (bK (aL l m m.length) (aH L i).toNat).fr (by omega);show some (aS.cells true false 1 (eC (flat aU.fl (OR (aL l m m.length) L i)) (0+Int.toNat j*1) [iv (bK (aL l m m.length) (aH L i).toNat).fr]))=_;rw [show 0+Int.toNat j*1=i*1 by omega,hp];rfl
         ·show ∀ k∈[2010,2009],∀ k'∈[2010,2009],_;decide
        ·exfalso;simp [aA,aG,aK] at m6;omega
       ·exfalso;have hb:Nat.ble (0+Int.toNat j*1+1) (flat aU.fl (OR (aL l m m.length) L i)).length=true:=Nat.ble_eq_true_of_le (by rw [cG];show _≤(OR (aL l m m.length) L i).length*1;omega);exact Bool.false_ne_true (m5.symm.trans hb)
      ·exfalso;simp [aA,aG] at m4;omega
     ·exfalso;simp [aA,aG,hd] at m3;omega
    ·exfalso;simp [aA,aG] at m2;omega
   ·have hil:i=L.length:=(by simp [aA,aG] at m1;omega);(conv=>whnf);have hv:v81 ⟨l,m,n,c1,c2,f,true⟩=.tuple #[.slice (some ⟨2010,0,none⟩) L.length L.length,iv 0]:=by
     show Value.tuple #[.slice _ (yL l m f).length (yL l m f).length,_]=_;rw [hwl,xK]
    have hh:h81 ⟨l,m,n,c1,c2,f,true⟩=(2010,.cells true false 1 (flat aU.fl (OR (aL l m m.length) L i)))::(2009,.cells true false 1 (flat aU.fl [f]))::H5 l m n c1 c2 [iv f]:=by
     rw [hil];show (2010,aS.cells true false 1 (flat aU.fl (yL l m f)))::_=_;rw [hwl]
    rw [hv,hh];refine NQ (v:=.tuple #[.slice (some ⟨2010,0,none⟩) L.length L.length,iv 0]) (by simp [iM,tr,dS,bQ,dU,j3];rfl) ?_ (fun _ _ h=>h) ?_ (Nat.le_of_ble_eq_true rfl)
    ·intro x hx;simp only [List.mem_cons,List.not_mem_nil,or_false] at hx;rcases hx with rfl|rfl
     ·exact⟨Nat.le_of_ble_eq_true rfl,fun h=>by cases h⟩
     ·exact fO (cD rfl)
    ·exact cQ (cQ (xI hK (Nat.le_of_ble_eq_true rfl)) (Nat.le_of_ble_eq_true rfl) (aI (aF _ _))) (Nat.le_of_ble_eq_true rfl) (aI (aF _ _))
theorem aKj:dK Go.Proofs.Tryz.prog 40 X81:=RW (aR (xl:=[aDe,aCV,aCP]) (.cons aJK (.cons aJt (.cons aK5 .nil)))) fun a ⟨ho,hlm,hb⟩=>w81 a.l a.m a.n a.c1 a.c2 a.f a.b ho hlm hb
def wlP (l:List Pt)(m:List Ed)(n:Int):List Value→Option (Bool × List Int × Option Int)
 |[.int .i64 f]=>some (decide (l.length≤1000)&&decide (m.length≤1000),if xS l m n f=true then yL l m f else [],some (if xS l m n f=true then 0 else 1))
 |_=>none
def aGA:Nat × XF:=(12,mRX wlP)
theorem aKa:dK Go.Proofs.Tryz.prog aGA.1 aGA.2:=aG9 (iX (CO (xl:=[aD2,(40,X81)]) (.cons aIN (.cons aKj .nil)) 4) 6).1 fun l m n r out e hs=>by
 have:∃ f,r=[iv f]∧(l.length≤1000∧m.length≤1000)∧out=(if xS l m n f=true then yL l m f else [])∧e=some (if xS l m n f=true then 0 else 1):=by
  unfold wlP at hs;split at hs
  ·injection hs with hs;injection hs with h1 h2;injection h2 with h2 h3;simp only [Bool.and_eq_true,decide_eq_true_eq] at h1;exact⟨_,rfl,h1,h2.symm,h3.symm⟩
  ·cases hs
 obtain⟨f,rfl,hlm,rfl,rfl⟩:=this;clear hs;refine⟨rfl,fun c1 c2=>?_⟩;(conv=>whnf);refine⟨l,m,n,.slice (some ⟨0,0,none⟩) l.length c1,.slice (some ⟨1,0,none⟩) m.length c2,rfl,bJ a8 rfl,bJ aX rfl,hlm,?_⟩;have hfb:xS l m n f=(cZ l m n&&GB n f):=rfl;cases ho:cZ l m n with
 |false =>
  rw [ho,Bool.false_and] at hfb;refine .inr ⟨rfl,?_⟩;rw [hfb];(conv=>whnf);rfl
 |true =>
  rw [ho,Bool.true_and] at hfb;refine .inl ⟨rfl,?_⟩;rw [hfb];cases hb:GB n f with
  |false =>
   (conv=>whnf);refine⟨⟨l,m,n,c1,c2,f,false⟩,⟨ho,hlm,hb⟩,rfl,rfl,rfl,?_⟩;(conv=>whnf);rfl
  |true =>
   rw [if_pos rfl,if_pos rfl];have hb2:=hb;simp only [GB,Bool.and_eq_true,decide_eq_true_eq] at hb2;obtain⟨d,e1,e2,e3,e4,e5,e6,e7,e8⟩:=Y2 ho hb2.1 hb2.2;have hpos:0<(yL l m f).length:=by
    unfold yL GI;rw [xK,e1];exact e7
   (conv=>whnf);refine⟨⟨l,m,n,c1,c2,f,true⟩,⟨ho,hlm,hb⟩,rfl,rfl,rfl,?_⟩;(conv=>whnf);show Yields aU (yL l m f) (some 0) (j4 (some 0) (.slice (some ⟨2010,0,none⟩) (yL l m f).length (yL l m f).length)) (h81 ⟨l,m,n,c1,c2,f,true⟩) 2011;exact PI aU hpos rfl
theorem smB {l:List Pt}{m:List Ed}(h:l.length≤1000∧m.length≤1000):(decide (l.length≤1000)&&decide (m.length≤1000))=true:=by
 rw [decide_eq_true h.1,decide_eq_true h.2];rfl
theorem aIk {l:List Pt}{m:List Ed}{n f:Int}(ho:cZ l m n=true)(hb:GB n f=true):aJM m (GI l m f)=true∧1≤(GI l m f).length∧(GI l m f).length≤10000∧LS l m (GI l m f) (GI l m f).length=GQ l (aL l m m.length) (GI l m f) (GI l m f).length:=by
 have hb2:=hb;simp only [GB,Bool.and_eq_true,decide_eq_true_eq] at hb2;obtain⟨d,e1,e2,e3,e4,e5,e6,e7,e8⟩:=Y2 ho hb2.1 hb2.2;obtain⟨hM,h3,h1l,h400,m400,_,_⟩:=fC (kD ho);have e:GI l m f=nS (aL l m m.length) (outs l m) d:=(by unfold GI;rw [e1]);rw [e];refine⟨List.all_eq_true.2 fun x hx=>?_,e7,by omega,I7 l m e6 _ (Nat.le_refl _)⟩;obtain⟨i,hi,rfl⟩:=List.getElem_of_mem hx;have:=oD e6 hi;rw [jQ hi,aY] at this;simp only [inD,Bool.and_eq_true,decide_eq_true_eq];omega
end Go.Aw
end
