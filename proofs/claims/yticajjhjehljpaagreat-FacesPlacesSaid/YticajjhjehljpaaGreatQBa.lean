/-
  Parts of a proof. No condition.
-/
import Derived.Test.YticajjhjehljpaaGreatQAh
import Derived.Test.YticajjhjehljpaaGreatQAy
import Derived.Test.YticajjhjehljpaaGreatQAz
set_option linter.unusedSimpArgs false
set_option linter.unusedVariables false
noncomputable section
namespace Go.Aw
def sN (f:Nat→Int):Nat→Int
 |0=>0
 |n+1=>sN f n+f n
theorem bH {f g:Nat→Int}:∀ {n:Nat},(∀ i,i<n→f i=g i)→sN f n=sN g n
 |0,_=>rfl
 |n+1,h=>by rw [sN,sN,bH fun i hi=>h i (by omega),h n (by omega)]
theorem GU (f g:Nat→Int):∀ n,sN (fun i=>f i+g i) n=sN f n+sN g n
 |0=>rfl
 |n+1=>by rw [sN,sN,sN,GU f g n];omega
theorem aFc (f g:Nat→Int):∀ n,sN (fun i=>f i - g i) n=sN f n - sN g n
 |0=>rfl
 |n+1=>by rw [sN,sN,sN,aFc f g n];omega
theorem wL:∀ n,sN (fun _=>0) n=0
 |0=>rfl
 |n+1=>by rw [sN,wL n];rfl
theorem z8 (F:Nat→Nat→Int)(n:Nat):∀ m,sN (fun i=>sN (F i) n) m=sN (fun j=>sN (fun i=>F i j) m) n
 |0=>by
  have:(fun j=>sN (fun i=>F i j) 0)=fun _=>0:=rfl;rw [this,wL];rfl
 |m+1=>by
  rw [sN,z8 F n m,← GU];rfl
theorem uK (v:Int)(k:Nat):∀ n,sN (fun i=>if i=k then v else 0) n=if k<n then v else 0
 |0=>rfl
 |n+1=>by
  rw [sN,uK v k n];by_cases h:n=k
  ·rw [if_neg (by omega),if_pos h,if_pos (by omega)];omega
  rw [if_neg h];by_cases h2:k<n
  ·rw [if_pos h2,if_pos (by omega)];omega
  rw [if_neg h2,if_neg (by omega)];omega
theorem aIq {n:Nat}{x y:Nat→Nat}(hx:∀ i,i<n→x i<n)(hy:∀ i,i<n→y i<n)(hxy:∀ i,i<n→y (x i)=i)(hyx:∀ i,i<n→x (y i)=i)(F:Nat→Int):sN (fun i=>F (x i)) n=sN F n:=by
 have e1:sN (fun i=>F (x i)) n=sN (fun i=>sN (fun j=>if j=x i then F j else 0) n) n:=bH fun i hi=>by
  have:(fun j=>if j=x i then F j else 0)=fun j=>if j=x i then F (x i) else 0:=by
   funext j;by_cases h:j=x i
   ·rw [if_pos h,if_pos h,h]
   rw [if_neg h,if_neg h]
  rw [this,uK,if_pos (hx i hi)]
 rw [e1,z8];refine bH fun j hj=>?_;have:sN (fun i=>if j=x i then F j else 0) n=sN (fun i=>if i=y j then F j else 0) n:=bH fun i hi=>by
  by_cases h:j=x i
  ·rw [if_pos h,if_pos (by rw [h,hxy i hi])]
  rw [if_neg h,if_neg (fun e=>h (by rw [e,hyx j hj]))]
 rw [this,uK,if_pos (hy j hj)]
theorem HJ (f:Nat→Int):∀ n,sN f (2*n)=sN (fun i=>f (2*i)+f (2*i+1)) n
 |0=>rfl
 |n+1=>by
  rw [show 2*(n+1)=2*n+1+1 by omega,sN,sN,HJ f n,sN];omega
structure Eqv (R:Nat→Nat→Prop):Prop where
 refl:∀ u,R u u
 symm:∀ {u v},R u v→R v u
 trans:∀ {u v w},R u v→R v w→R u w
def mrg (R:Nat→Nat→Prop)(a b:Nat)(u v:Nat):Prop:=R u v∨(R u a∧R b v)∨(R u b∧R a v)
theorem Eqv.mrg {R:Nat→Nat→Prop}(h:Eqv R)(a b:Nat):Eqv (mrg R a b) where
 refl u:=.inl (h.refl u)
 symm:=by
  rintro u v (g|⟨g1,g2⟩|⟨g1,g2⟩)
  ·exact .inl (h.symm g)
  ·exact .inr (.inr ⟨h.symm g2,h.symm g1⟩)
  exact .inr (.inl ⟨h.symm g2,h.symm g1⟩)
 trans:=by
  rintro u v w (g|⟨g1,g2⟩|⟨g1,g2⟩) (k|⟨k1,k2⟩|⟨k1,k2⟩)
  ·exact .inl (h.trans g k)
  ·exact .inr (.inl ⟨h.trans g k1,k2⟩)
  ·exact .inr (.inr ⟨h.trans g k1,k2⟩)
  ·exact .inr (.inl ⟨g1,h.trans g2 k⟩)
  ·exact .inr (.inl ⟨g1,k2⟩)
  ·exact .inl (h.trans g1 k2)
  ·exact .inr (.inr ⟨g1,h.trans g2 k⟩)
  ·exact .inl (h.trans g1 k2)
  exact .inr (.inr ⟨g1,k2⟩)
def VcR (a b:Nat→Nat):Nat→Nat→Nat→Prop
 |0=>fun u v=>u=v
 |k+1=>mrg (VcR a b k) (a k) (b k)
theorem AR (a b:Nat→Nat):∀ k,Eqv (VcR a b k)
 |0=>⟨fun _=>rfl,fun h=>h.symm,fun h g=>h.trans g⟩
 |k+1=>(AR a b k).mrg _ _
def DR (W:Nat→Nat→Prop)(n:Nat):Nat→Nat→Nat→Prop
 |0=>W
 |j+1=>mrg (DR W n j) (2*(n - 1 - j)) (2*(n - 1 - j)+1)
theorem NF {W:Nat→Nat→Prop}(hW:Eqv W)(n:Nat):∀ j,Eqv (DR W n j)
 |0=>hW
 |j+1=>(NF hW n j).mrg _ _
theorem aNC {W:Nat→Nat→Prop}{n:Nat}:∀ {j u v},W u v→DR W n j u v
 |0,_,_,h=>h
 |j+1,_,_,h=>.inl (aNC (j:=j) h)
theorem YE {W:Nat→Nat→Prop}(hW:Eqv W){n:Nat}:∀ {j i},n - j≤i→i<n→DR W n j (2*i) (2*i+1)
 |0,i,h,hi=>by omega
 |j+1,i,h,hi=>by
  by_cases e:i=n - 1 - j
  ·rw [e];exact .inr (.inl ⟨(NF hW n j).refl _,(NF hW n j).refl _⟩)
  exact .inl (YE hW (by omega) hi)
theorem PS {W:Nat→Nat→Prop}{n:Nat}{L:Nat→Int}(hW:∀ u v,W u v→L u=L v):∀ {j},(∀ i,n - j≤i→i<n→L (2*i)=L (2*i+1))→∀ {u v},j≤n→DR W n j u v→L u=L v
 |0,_,u,v,_,h=>hW u v h
 |j+1,hf,u,v,hj,h=>by
  have ih:=fun {u v}=>PS hW (j:=j) (fun i h1 h2=>hf i (by omega) h2) (u:=u) (v:=v) (by omega);have hk:=hf (n - 1 - j) (by omega) (by omega);rcases h with g|⟨g1,g2⟩|⟨g1,g2⟩
  ·exact ih g
  ·rw [ih g1,hk,ih g2]
  rw [ih g1,← hk,ih g2]
structure Emb (nV nE:Nat) (a b nx pv:Nat→Nat) (W:Nat→Nat→Prop):Prop where
 pos:0<nE
 av:∀ i,i<nE→a i<nV
 bv:∀ i,i<nE→b i<nV
 nx_lt:∀ d,d<2*nE→nx d<2*nE
 pv_lt:∀ d,d<2*nE→pv d<2*nE
 nxpv:∀ d,d<2*nE→nx (pv d)=d
 pvnx:∀ d,d<2*nE→pv (nx d)=d
 -- where a dart ends,the next one begins
 meet:∀ (g:Nat→Int) d,d<2*nE→(if d % 2=0 then g (b (d / 2)) else g (a (d / 2)))=(if nx d % 2=0 then g (a (nx d / 2)) else g (b (nx d / 2)))
 eqv:Eqv W
 W_nx:∀ d,d<2*nE→W d (nx d)
 W_inv:∀ L:Nat→Int,(∀ d,d<2*nE→L (nx d)=L d)→∀ u v,W u v→L u=L v
 -- each cycle has numbers on the left of darts
 cyc:∀ c:Nat→Int,(∀ g:Nat→Int,sN (fun i=>c i*(g (b i) - g (a i))) nE=0)→∃ L:Nat→Int,(∀ d,d<2*nE→L (nx d)=L d)∧∀ i,i<nE→L (2*i) - L (2*i+1)=c i
 conV:∀ v,v<nV→VcR a b nE 0 v
 conD:∀ d,d<2*nE→DR W nE nE 0 d
variable {nV nE:Nat}{a b nx pv:Nat→Nat}{W:Nat→Nat→Prop}
end Go.Aw
end

noncomputable section
namespace Go.Aw
def J1 (nx:Nat→Nat):Nat→Nat→Nat
 |0,d=>d
 |k+1,d=>nx (J1 nx k d)
theorem BV (nx:Nat→Nat):∀ (i j d:Nat),J1 nx (i+j) d=J1 nx i (J1 nx j d)
 |0,j,d=>by rw [Nat.zero_add];rfl
 |i+1,j,d=>by rw [show i+1+j=(i+j)+1 by omega,J1,BV nx i j d,J1]
structure Prm (nx:Nat→Nat) (M:Nat):Prop where
 lt:∀ d,d<M→nx d<M
 per:∀ d,d<M→∃ P,0<P∧J1 nx P d=d
theorem Prm.aAr {nx:Nat→Nat}{M:Nat}(h:Prm nx M):∀ (k:Nat) {d:Nat},d<M→J1 nx k d<M
 |0,d,hd=>hd
 |k+1,d,hd=>h.lt _ (h.aAr k hd)
theorem FD {nx:Nat→Nat}{P d:Nat}(h:J1 nx P d=d):∀ k,J1 nx (k*P) d=d
 |0=>by rw [Nat.zero_mul];rfl
 |k+1=>by rw [Nat.succ_mul,BV,h,FD h k]
def Wk (nx:Nat→Nat)(M u v:Nat):Prop:=u=v∨(u<M∧∃ i,J1 nx i u=v)
theorem Prm.back {nx:Nat→Nat}{M:Nat}(h:Prm nx M){d:Nat}(hd:d<M)(i:Nat):∃ j,J1 nx j (J1 nx i d)=d:=by
 obtain⟨P,hP,e⟩:=h.per d hd;refine⟨i*P - i,?_⟩;have hle:i≤i*P:=Nat.le_mul_of_pos_right i hP;rw [← BV,show i*P - i+i=i*P by omega,FD e]
theorem Prm.eqv {nx:Nat→Nat}{M:Nat}(h:Prm nx M):Eqv (Wk nx M) where
 refl u:=.inl rfl
 symm:=by
  rintro u v (g|⟨hu,i,rfl⟩)
  ·exact .inl g.symm
  obtain⟨j,e⟩:=h.back hu i;exact .inr ⟨h.aAr i hu,j,e⟩
 trans:=by
  rintro u v w (rfl|⟨hu,i,rfl⟩) (rfl|⟨hv,j,rfl⟩)
  ·exact .inl rfl
  ·exact .inr ⟨hv,j,rfl⟩
  ·exact .inr ⟨hu,i,rfl⟩
  exact .inr ⟨hu,j+i,BV nx j i u⟩
theorem Prm.inj {nx:Nat→Nat}{M:Nat}(h:Prm nx M){d e:Nat}(hd:d<M)(he:e<M)(hx:nx d=nx e):d=e:=by
 obtain⟨P,hP,e1⟩:=h.per d hd;obtain⟨Q,hQ,e2⟩:=h.per e he;have h1:=FD e1 Q;have h2:=FD e2 P;rw [Nat.mul_comm] at h2;have hpos:0<Q*P:=Nat.mul_pos hQ hP;have st:∀ x,J1 nx (Q*P) x=J1 nx (Q*P - 1) (nx x):=fun x=>by
  have:=BV nx (Q*P - 1) 1 x;rw [show Q*P - 1+1=Q*P by omega] at this;exact this
 rw [st] at h1 h2;rw [← h1,hx,h2]
open Classical in
def pvF (nx:Nat→Nat)(M d:Nat):Nat:=if h:∃ e,e<M∧nx e=d then h.choose else 0
theorem Prm.pv {nx:Nat→Nat}{M:Nat}(h:Prm nx M):(∀ d,d<M→pvF nx M d<M)∧(∀ d,d<M→nx (pvF nx M d)=d)∧(∀ d,d<M→pvF nx M (nx d)=d):=by
 have ex:∀ d,d<M→∃ e,e<M∧nx e=d:=fun d hd=>by
  obtain⟨P,hP,e1⟩:=h.per d hd;refine⟨J1 nx (P - 1) d,h.aAr _ hd,?_⟩;have:J1 nx (P - 1+1) d=nx (J1 nx (P - 1) d):=rfl;rw [← this,show P - 1+1=P by omega,e1]
 have sp:∀ d,d<M→pvF nx M d<M∧nx (pvF nx M d)=d:=fun d hd=>by
  unfold pvF;rw [dif_pos (ex d hd)];exact (ex d hd).choose_spec
 exact⟨fun d hd=>(sp d hd).1,fun d hd=>(sp d hd).2,fun d hd=>h.inj (sp _ (h.lt d hd)).1 hd (sp _ (h.lt d hd)).2⟩
theorem aEq {nx:Nat→Nat}{M:Nat}(h:Prm nx M)(L:Nat→Int)(hL:∀ d,d<M→L (nx d)=L d):∀ u v,Wk nx M u v→L u=L v:=by
 rintro u v (rfl|⟨hu,i,rfl⟩)
 ·rfl
 induction i with
 |zero=>rfl
 |succ i ih=>rw [J1,hL _ (h.aAr i hu)];exact ih
def sJ (p:Nat→Pq)(a b:Nat→Nat)(i:Nat):Pq × Pq:=(p (a i),p (b i))
def gN (p:Nat→Pq)(a b:Nat→Nat)(n:Nat):List (Pq × Pq):=(List.range n).map (sJ p a b)
theorem tD (f:Pq × Pq→Int)(s:Nat→Pq × Pq):∀ n,mB f ((List.range n).map s)=sN (fun i=>f (s i)) n
 |0=>rfl
 |n+1=>by
  rw [List.range_succ,List.map_append,TJ,tD f s n,sN];simp [mB]
open Classical in
def chN (p:Nat→Pq)(a b:Nat→Nat)(n:Nat)(c:Nat→Int)(e:Pq × Pq):Int:=sN (fun i=>if sJ p a b i=e then c i else 0) n
theorem WN {p:Nat→Pq}{a b:Nat→Nat}{n:Nat}{c:Nat→Int}(hd:∀ i k,i<n→k<n→sJ p a b i=sJ p a b k→i=k){i:Nat}(hi:i<n):chN p a b n c (sJ p a b i)=c i:=by
 unfold chN;have:sN (fun k=>if sJ p a b k=sJ p a b i then c k else 0) n=sN (fun k=>if k=i then c i else 0) n:=bH fun k hk=>by
  by_cases e:k=i
  ·rw [if_pos (by rw [e]),if_pos e,e]
  rw [if_neg (fun g=>e (hd k i hk hi g)),if_neg e]
 rw [this,uK,if_pos hi]
theorem wI {p:Nat→Pq}{a b:Nat→Nat}{n:Nat}{c:Nat→Int}(hd:∀ i k,i<n→k<n→sJ p a b i=sJ p a b k→i=k)(hc:∀ g:Nat→Int,sN (fun i=>c i*(g (b i) - g (a i))) n=0):JR (gN p a b n) (chN p a b n c):=fun g=>by
 unfold Cs gN;rw [tD,← hc (fun v=>g (p v))];exact bH fun i hi=>by rw [WN hd hi];rfl
theorem Y2 {p:Nat→Pq}{a b:Nat→Nat}{n:Nat}{c:Nat→Int}(hd:∀ i k,i<n→k<n→sJ p a b i=sJ p a b k→i=k)(hr:∀ i k,i<n→k<n→(p (a i),p (b i))≠(p (b k),p (a k))){i:Nat}(hi:i<n) :
  Cs (gN p a b n) (chN p a b n c) (fun e=>(if e=(p (a i),p (b i)) then 1 else 0) - (if e=(p (b i),p (a i)) then 1 else 0))=c i:=by
 unfold Cs gN;rw [tD];have:sN (fun k=>chN p a b n c (sJ p a b k)*((if sJ p a b k=(p (a i),p (b i)) then 1 else 0) - (if sJ p a b k=(p (b i),p (a i)) then 1 else 0))) n=sN (fun k=>if k=i then c i else 0) n:=bH fun k hk=>by
  rw [WN hd hk,if_neg (show ¬ sJ p a b k=(p (b i),p (a i)) from fun e=>hr k i hk hi e)];by_cases e:k=i
  ·rw [if_pos (by rw [e];rfl),if_pos e,e];omega
  rw [if_neg (show ¬ sJ p a b k=(p (a i),p (b i)) from fun g=>e (hd k i hk hi g)),if_neg e];omega
 rw [this,uK,if_pos hi]
structure Mp (p:Nat→Pq) (a b nx:Nat→Nat) (nV nE:Nat):Prop where
 pos:0<nE
 av:∀ i,i<nE→a i<nV
 bv:∀ i,i<nE→b i<nV
 ab:∀ i,i<nE→p (a i)≠p (b i)
 ok:∀ i k,i<nE→k<nE→i≠k→okP (sJ p a b i) (sJ p a b k)
 dist:∀ i k,i<nE→k<nE→sJ p a b i=sJ p a b k→i=k
 rev:∀ i k,i<nE→k<nE→(p (a i),p (b i))≠(p (b k),p (a k))
 prm:Prm nx (2*nE)
def sL (a b:Nat→Nat)(d:Nat):Nat:=if d % 2=0 then a (d / 2) else b (d / 2)
def fH (a b:Nat→Nat)(d:Nat):Nat:=if d % 2=0 then b (d / 2) else a (d / 2)
theorem Mp.gr {p:Nat→Pq}{a b nx:Nat→Nat}{nV nE:Nat}(h:Mp p a b nx nV nE):Gr (gN p a b nE) where
 ne e he:=by
  obtain⟨i,hi,rfl⟩:=List.mem_map.1 he;exact h.ab i (List.mem_range.1 hi)
 ok e he f hf hne:=by
  obtain⟨i,hi,rfl⟩:=List.mem_map.1 he;obtain⟨k,hk,rfl⟩:=List.mem_map.1 hf;exact h.ok i k (List.mem_range.1 hi) (List.mem_range.1 hk) fun e=>hne (by rw [e])
 nd:=by
  unfold gN;refine List.pairwise_map.2 (List.Pairwise.imp_of_mem (R:=fun i k=>i≠k) (fun {i k} hi hk hne e=>hne (h.dist i k (List.mem_range.1 hi) (List.mem_range.1 hk) e)) List.nodup_range)
theorem Mp.ad {p:Nat→Pq}{a b nx:Nat→Nat}{nV nE:Nat}(h:Mp p a b nx nV nE){d:Nat}(hd:d<2*nE):Ad (gN p a b nE) (p (sL a b d)) (p (fH a b d)):=by
 have hi:d / 2<nE:=(by omega);have hm:sJ p a b (d / 2)∈gN p a b nE:=List.mem_map_of_mem (List.mem_range.2 hi);unfold sL fH;split
 ·exact .inl hm
 exact .inr hm
theorem Mp.aEi {p:Nat→Pq}{a b nx:Nat→Nat}{nV nE:Nat}(h:Mp p a b nx nV nE){v z:Pq}(hz:Ad (gN p a b nE) v z):∃ d,d<2*nE∧p (sL a b d)=v∧p (fH a b d)=z:=by
 rcases hz with hz|hz
 ·obtain⟨i,hi,e⟩:=List.mem_map.1 hz;have hi:=List.mem_range.1 hi;refine⟨2*i,by omega,?_,?_⟩
  ·unfold sL;rw [if_pos (by omega),show 2*i / 2=i by omega];exact congrArg Prod.fst e
  unfold fH;rw [if_pos (by omega),show 2*i / 2=i by omega];exact congrArg Prod.snd e
 obtain⟨i,hi,e⟩:=List.mem_map.1 hz;have hi:=List.mem_range.1 hi;refine⟨2*i+1,by omega,?_,?_⟩
 ·unfold sL;rw [if_neg (by omega),show (2*i+1) / 2=i by omega];exact congrArg Prod.snd e
 unfold fH;rw [if_neg (by omega),show (2*i+1) / 2=i by omega];exact congrArg Prod.fst e
theorem Mp.cyc {p:Nat→Pq}{a b nx:Nat→Nat}{nV nE:Nat}(h:Mp p a b nx nV nE)(hmeet:∀ d,d<2*nE→p (sL a b (nx d))=p (fH a b d))
  (hsoon:∀ d x,d<2*nE→x<2*nE→p (sL a b x)=p (fH a b d)→¬ Z9 (p (fH a b d)) (p (sL a b d)) (p (fH a b x)) (p (fH a b (nx d)))) (c:Nat→Int) (hc:∀ g:Nat→Int,sN (fun i=>c i*(g (b i) - g (a i))) nE=0) :
  ∃ L:Nat→Int,(∀ d,d<2*nE→L (nx d)=L d)∧∀ i,i<nE→L (2*i) - L (2*i+1)=c i:=by
 have hG:=h.gr;have hC:=wI (p:=p) h.dist hc;refine⟨fun d=>Ld (gN p a b nE) (chN p a b nE c) (p (sL a b d)) (p (fH a b d)),fun d hd=>?_,fun i hi=>?_⟩
 ·have hn:=h.prm.lt d hd;have h1:=h.ad hd;have h2:=h.ad hn;rw [hmeet d hd] at h2;simp only;rw [hmeet d hd];refine (aA9 hG hC h1 h2 fun z hz=>?_).symm;obtain⟨x,hx,e1,e2⟩:=h.aEi hz;rw [← e2];exact hsoon d x hd hx e1
 have h1:=h.ad (d:=2*i) (by omega);have j:=XC hG hC h1;have e1:sL a b (2*i)=a i:=(by unfold sL;rw [if_pos (by omega),show 2*i / 2=i by omega]);have e2:fH a b (2*i)=b i:=(by unfold fH;rw [if_pos (by omega),show 2*i / 2=i by omega]);have e3:sL a b (2*i+1)=b i:=(by unfold sL;rw [if_neg (by omega),show (2*i+1) / 2=i by omega]);have e4:fH a b (2*i+1)=a i:=(by unfold fH;rw [if_neg (by omega),show (2*i+1) / 2=i by omega]);rw [e1,e2] at j;simp only;rw [e1,e2,e3,e4,j];exact Y2 h.dist h.rev hi
set_option maxRecDepth 100000
variable {l:List Pt}{m:List Ed}{n:Int}
def pN (l:List Pt)(i:Nat):Pq:=fA l i
def aN (m:List Ed)(i:Nat):Nat:=(bO m i).a.toNat
def bN (m:List Ed)(i:Nat):Nat:=(bO m i).b.toNat
def HE (l:List Pt)(m:List Ed)(d:Nat):Nat:=(x6 (aQ l m m.length) (outs l m) d).toNat
theorem M4 (l:List Pt)(m:List Ed)(i:Nat):sJ (pN l) (aN m) (bN m) i=aS l m i:=rfl
theorem rN {i:Nat}(hi:i<2*m.length):sL (aN m) (bN m) i=(cA (aQ l m m.length) i).fr.toNat∧fH (aN m) (bN m) i=(cA (aQ l m m.length) i).tt.toNat:=by
 unfold sL fH;rcases kR (l:=l) (m:=m) hi with ⟨e,h⟩|⟨e,h⟩
 ·rw [h,if_pos e,if_pos e];exact⟨rfl,rfl⟩
 rw [h,if_neg (by omega),if_neg (by omega)];exact⟨rfl,rfl⟩
theorem RT (hok:cQ l m n=true){d:Nat}(hd:d<2*m.length):((HE l m d:Nat):Int)=x6 (aQ l m m.length) (outs l m) d∧HE l m d<2*m.length:=by
 have:=GR hok (d:=(d:Int)) (by omega) (by omega);unfold HE;omega
theorem aBn (hok:cQ l m n=true){d:Nat}(hd:d<2*m.length):∀ k,((J1 (HE l m) k d:Nat):Int)=jI (aQ l m m.length) (outs l m) d k
 |0=>rfl
 |k+1=>by
  have ih:=aBn hok hd k;have hin:=qE hok (d:=(d:Int)) (by omega) (by omega) k;rw [J1];have:=RT hok (d:=J1 (HE l m) k d) (by omega);rw [this.1,ih];rfl
theorem aDV {u x:V2}:¬ DG u x x:=fun h=>zH h h
theorem lE (hp:eK l m n=true):Mp (pN l) (aN m) (bN m) (HE l m) l.length m.length where
 pos:=by have:=(cZ (cU hp)).2.1;omega
 av i hi:=by have:=qV (cU hp) hi;unfold aN;omega
 bv i hi:=by have:=qV (cU hp) hi;unfold bN;omega
 ab i hi e:=by
  have h:=(lS (cU hp) hi).2;have e:(aS l m i).1=(aS l m i).2:=e;rw [e] at h;unfold eO at h;simp only [Bool.or_eq_true,Bool.and_eq_true,decide_eq_true_eq] at h;omega
 ok i k hi hk hne:=by
  have key:∀ {i k:Nat},i<m.length→k<i→okP (aS l m i) (aS l m k):=fun {i k} hi hk=>by
   have ri:=(lS (cU hp) hi).1;have rk:=(lS (cU hp) (i:=k) (by omega)).1;simp only [eK,Bool.and_eq_true] at hp;have h:=eG (f:=fun k=>zP l m i k) (eG (f:=fun i=>nM (fun k=>zP l m i k) i) hp.2 hi) hk;simp only [zP,Bool.or_eq_true,decide_eq_true_eq] at h;unfold fF at h;rw [if_pos ⟨ri,rk⟩] at h;exact aI9 ri rk h
  rw [M4,M4];rcases Nat.lt_or_gt_of_ne hne with h|h
  ·exact ID (key hk h)
  exact key hi h
 dist i k hi hk e:=by
  refine Classical.byContradiction fun hne=>?_;rw [M4,M4] at e;have ri:=lS (cU hp) hi;have h4:fF (aS l m i) (aS l m i)=4:=W4 ri.1 ri.1 ri.2 ri.2 rfl (ZZ _ _);have h:=aFj hp hi hk hne;rw [← e,h4] at h;omega
 rev i k hi hk e:=by
  have ri:=(lS (cU hp) hi).2;have rk:=(lS (cU hp) hk).2;have e1:(aS l m i).1=(aS l m k).2:=congrArg Prod.fst e;have e2:(aS l m i).2=(aS l m k).1:=congrArg Prod.snd e;rw [e1,e2] at ri;unfold eO at ri rk;simp only [Bool.or_eq_true,Bool.and_eq_true,decide_eq_true_eq] at ri rk;omega
 prm:={
  lt:=fun d hd=>(RT (cU hp) hd).2
  per:=fun d hd=>by
   have hw:=of_decide_eq_true (List.all_eq_true.1 (uR (cU hp)) d (List.mem_range.2 (by rw [a9];exact hd)));have h1:=(gI (aQ l m m.length) (outs l m) d (aQ l m m.length).length 1).1;refine⟨gU (aQ l m m.length) (outs l m) d,by unfold gU;omega,?_⟩;have:=aBn (cU hp) hd (gU (aQ l m m.length) (outs l m) d);rw [hw] at this;omega }
theorem FC (hok:cQ l m n=true){d:Nat}(hd:d<2*m.length):sL (aN m) (bN m) (HE l m d)=fH (aN m) (bN m) d:=by
 have:=GR hok (d:=(d:Int)) (by omega) (by omega);rw [(rN (l:=l) (RT hok hd).2).1,(rN (l:=l) hd).2];have h:=this.2.2;rw [Int.toNat_natCast] at h;exact h
theorem aA2 (hp:eK l m n=true){d x:Nat}(hd:d<2*m.length)(hx:x<2*m.length)(he:sL (aN m) (bN m) x=fH (aN m) (bN m) d) :
  ¬ Z9 (pN l (fH (aN m) (bN m) d)) (pN l (sL (aN m) (bN m) d)) (pN l (fH (aN m) (bN m) x)) (pN l (fH (aN m) (bN m) (HE l m d))):=by
 have hok:=cU hp;obtain⟨hM,_⟩:=cZ hok;have hn:=RT hok hd;have fx:=fC (l:=l) hM hx;have fd:=fC (l:=l) hM hd;have fn:=fC (l:=l) hM hn.2;have ex:=rN (l:=l) hx;have ed:=rN (l:=l) hd;have en:=rN (l:=l) hn.2;have hm:=FC hok hd;have gx:=y5 l m hx;have gn:=y5 l m hn.2;have hb:=BO l m (d:=(d:Int)) (by omega) (by omega);have hbi:=xB (E:=m.length) (d:=(d:Int)) (by omega) (by omega);have gb:=y5 l m (i:=(dY (d:Int)).toNat) (by omega);rw [hb.1,hb.2.1,Int.toNat_natCast] at gb;have hfx:(cA (aQ l m m.length) x).fr=(cA (aQ l m m.length) d).tt:=(by omega);have hfn:(cA (aQ l m m.length) (HE l m d)).fr=(cA (aQ l m m.length) d).tt:=(by omega);rw [hfx] at gx;rw [hfn] at gn;rw [ex.2,ed.1,ed.2,en.2];have hs:¬ DG (CH l m (dY d)) (CH l m x) (CH l m (HE l m d:Nat)):=by
  by_cases e:(x:Int)=x6 (aQ l m m.length) (outs l m) d
  ·have e:x=HE l m d:=(by omega);rw [e];exact aDV
  have:=aA8 hp (d:=(d:Int)) (by omega) (by omega) hx (by rw [Int.toNat_natCast];exact hfx) e;rw [← hn.1] at this;exact zH this
 intro h;apply hs;show DG (eU (cA (aQ l m m.length) (dY d).toNat)) (eU (cA (aQ l m m.length) x)) (eU (cA (aQ l m m.length) (HE l m d)));rw [gb,gx,gn];exact h
theorem aOr (hok:cQ l m n=true){R:Nat→Nat→Prop}(hR:Eqv R)(hn:∀ d,d<2*m.length→R d (HE l m d))(hf:∀ i,i<m.length→R (2*i) (2*i+1)){x y:Nat}(hx:x<2*m.length)(hy:y<2*m.length)(he:sL (aN m) (bN m) x=sL (aN m) (bN m) y):R x y:=by
 have hbk:∀ d,d<2*m.length→R d (dY (d:Int)).toNat∧(dY (d:Int)).toNat<2*m.length:=fun d hd=>by
  unfold dY;split
  ·have:=hf (d / 2) (by omega);rw [show 2*(d / 2)=d by omega] at this;rw [show ((d:Int)+1).toNat=d+1 by omega];exact⟨this,by omega⟩
  have:=hf (d / 2) (by omega);rw [show 2*(d / 2)+1=d by omega] at this;rw [show ((d:Int) - 1).toNat=2*(d / 2) by omega];exact⟨hR.symm this,by omega⟩
 obtain⟨hM,_⟩:=cZ hok;have fx:=fC (l:=l) hM hx;have fy:=fC (l:=l) hM hy;rw [(rN (l:=l) hx).1,(rN (l:=l) hy).1] at he;obtain⟨s,hs⟩:∃ s,s=(cA (aQ l m m.length) x).fr.toNat:=⟨_,rfl⟩;have hsl:s<l.length:=(by omega);obtain⟨L,hL⟩:∃ L,bQ (outs l m) s=L:=⟨_,rfl⟩;have hmem:=fun z=>jS (x:=z) hok hsl;rw [hL] at hmem
 -- one after the other
 have step:∀ q,q+1<L.length→R (aK L (q+1)).toNat (aK L q).toNat:=fun q hq=>by
  obtain⟨i,i1,i2,i3⟩:=(hmem _).1 (at_mem hq);have hd:=hbk i i1;obtain⟨d,hdd⟩:∃ d:Nat,(dY (i:Int)).toNat=d:=⟨_,rfl⟩;rw [hdd] at hd;have hbi:=xB (E:=m.length) (d:=(i:Int)) (by omega) (by omega);have hbb:=CO (d:=(i:Int)) (by omega);have hdI:(d:Int)=dY i:=(by omega);have hb:=BO l m (d:=(i:Int)) (by omega) (by omega);rw [← hdI,Int.toNat_natCast,Int.toNat_natCast] at hb;obtain⟨s',a,e1,hs',e2,ha,e3,e4,e5⟩:=rX hok (d:=(d:Int)) (by omega) (by omega);rw [Int.toNat_natCast,hb.2.1,i3] at e1;rw [e1,hL] at ha e4 e5;rw [hdI,hbb] at e4;have hnd:=zG hok hsl;rw [hL] at hnd;have haq:a=q+1:=BM hnd ha hq (by rw [e4,i2]);rw [haq,if_neg (by omega),Nat.add_sub_cancel] at e5;have hnn:=RT hok (d:=d) hd.2;have:=hn d hd.2;rw [show (aK L (q+1)).toNat=i by omega,show (aK L q).toNat=HE l m d by omega];exact hR.trans hd.1 this
 have all:∀ q,q<L.length→R (aK L 0).toNat (aK L q).toNat:=fun q=>by
  induction q with
  |zero=>intro _;exact hR.refl _
  |succ q ih=>intro hq;exact hR.trans (ih (by omega)) (hR.symm (step q hq))
 have one:∀ z,z<2*m.length→(cA (aQ l m m.length) z).fr.toNat=s→R (aK L 0).toNat z:=fun z hz e=>by
  have hz':(z:Int)∈L:=(hmem _).2 ⟨z,hz,rfl,e⟩;obtain⟨q,hq,e⟩:=List.getElem_of_mem hz';rw [← cX hq] at e;have:=all q hq;rw [e,Int.toNat_natCast] at this;exact this
 exact hR.trans (hR.symm (one x hx hs.symm)) (one y hy (by omega))
theorem aIc {a b:Nat→Nat}{k i:Nat}(h:i<k):VcR a b k (a i) (b i):=by
 induction k with
 |zero=>omega
 |succ k ih =>
  by_cases e:i=k
  ·rw [e];exact .inr (.inl ⟨(AR a b k).refl _,(AR a b k).refl _⟩)
  exact .inl (ih (by omega))
theorem WM (hok:cQ l m n=true)(hc:C4 l m=true):∀ v,v<l.length→VcR (aN m) (bN m) m.length 0 v:=by
 have eV:=AR (aN m) (bN m) m.length;have rel:∀ (s:List Bool),s.length=l.length→(∀ v,cV s v=true→VcR (aN m) (bN m) m.length 0 v)→∀ i,i≤m.length→∀ v,cV (nF m s i) v=true→VcR (aN m) (bN m) m.length 0 v:=fun s hs h i=>by
  induction i with
  |zero=>intro _;exact h
  |succ i ih =>
   intro hi v hv;have ih:=ih (by omega);have hl:=sF m s i;have he:=qV hok (i:=i) (by omega);unfold nF vD at hv;split at hv
   ·rename_i hor;have hed:=aIc (a:=aN m) (b:=bN m) (k:=m.length) (i:=i) (by omega);rw [oK _ _ _ _ (by rw [List.length_set];omega),oK _ _ _ _ (by omega)] at hv;have hab:VcR (aN m) (bN m) m.length 0 (aN m i):=by
     rw [Bool.or_eq_true] at hor;rcases hor with g|g
     ·exact ih _ g
     exact eV.trans (ih _ g) (eV.symm hed)
    split at hv
    ·rename_i e;rw [e];exact eV.trans hab hed
    split at hv
    ·rename_i e;rw [e];exact hab
    exact ih v hv
   exact ih v hv
 have con:∀ k,∀ v,cV (dO l m k) v=true→VcR (aN m) (bN m) m.length 0 v:=fun k=>by
  induction k with
  |zero =>
   intro v hv;unfold dO nG cV at hv;rw [List.getD_eq_getElem?_getD,List.getElem?_map] at hv;by_cases hvl:v<l.length
   ·rw [List.getElem?_range hvl] at hv;have:(v:Int)=0:=(by simpa using hv);rw [show v=0 by omega];exact eV.refl _
   rw [List.getElem?_eq_none (by simpa using hvl)] at hv;simp at hv
  |succ k ih =>
   intro v hv;exact rel (dO l m k) (sI l m k) ih m.length (Nat.le_refl _) v hv
 intro v hv;refine con l.length v ?_;have hl:=sI l m l.length;have:=List.all_eq_true.1 hc (dO l m l.length)[v] (List.getElem_mem (by omega));rw [qZ (by omega)];exact this
theorem aK7 {R:Nat→Nat→Prop}(hR:Eqv R)(hok:cQ l m n=true)(hn:∀ d,d<2*m.length→R d (HE l m d))(hf:∀ i,i<m.length→R (2*i) (2*i+1)):∀ k,k≤m.length→∀ u v,VcR (aN m) (bN m) k u v→∀ x y,x<2*m.length→y<2*m.length→sL (aN m) (bN m) x=u→sL (aN m) (bN m) y=v→R x y:=fun k=>by
 induction k with
 |zero =>
  intro _ u v h x y hx hy ex ey;have h:u=v:=h;exact aOr hok hR hn hf hx hy (by omega)
 |succ k ih =>
  intro hk u v h x y hx hy ex ey;have ih:=ih (by omega);have f0:sL (aN m) (bN m) (2*k)=aN m k:=(by unfold sL;rw [if_pos (by omega),show 2*k / 2=k by omega]);have f1:sL (aN m) (bN m) (2*k+1)=bN m k:=(by unfold sL;rw [if_neg (by omega),show (2*k+1) / 2=k by omega]);rcases h with g|⟨g1,g2⟩|⟨g1,g2⟩
  ·exact ih u v g x y hx hy ex ey
  ·exact hR.trans (ih u _ g1 x (2*k) hx (by omega) ex f0) (hR.trans (hf k (by omega)) (ih _ v g2 (2*k+1) y (by omega) hy f1 ey))
  exact hR.trans (ih u _ g1 x (2*k+1) hx (by omega) ex f1) (hR.trans (hR.symm (hf k (by omega))) (ih _ v g2 (2*k) y (by omega) hy f0 ey))
theorem aCD (hp:eK l m n=true)(hc:C4 l m=true):Emb l.length m.length (aN m) (bN m) (HE l m) (pvF (HE l m) (2*m.length)) (Wk (HE l m) (2*m.length)) where
 pos:=(lE hp).pos
 av:=(lE hp).av
 bv:=(lE hp).bv
 nx_lt:=(lE hp).prm.lt
 pv_lt:=(lE hp).prm.pv.1
 nxpv:=(lE hp).prm.pv.2.1
 pvnx:=(lE hp).prm.pv.2.2
 meet g d hd:=by
  have h:=FC (cU hp) hd;unfold sL fH at h;have:=congrArg g h;rw [apply_ite g,apply_ite g] at this;exact this.symm
 eqv:=(lE hp).prm.eqv
 W_nx d hd:=.inr ⟨hd,1,rfl⟩
 W_inv L hL:=aEq (lE hp).prm L hL
 cyc c hc:=(lE hp).cyc (fun d hd=>by rw [FC (cU hp) hd]) (fun d x hd hx he=>by
  have hok:=cU hp
  -- the same point has the same number
  have hinj:sL (aN m) (bN m) x=fH (aN m) (bN m) d:=by
   have v1:sL (aN m) (bN m) x<l.length:=by
    have:=fC (l:=l) (cZ hok).1 hx;rw [(rN (l:=l) hx).1];omega
   have v2:fH (aN m) (bN m) d<l.length:=by
    have:=fC (l:=l) (cZ hok).1 hd;rw [(rN (l:=l) hd).2];omega
   refine Classical.byContradiction fun hne=>?_;have key:∀ {i j:Nat},i<j→j<l.length→pN l i=pN l j→False:=fun {i j} h1 h2 e=>by
    have:=IL hok h1 h2;have e:fA l i=fA l j:=e;rw [e] at this;unfold eO at this;simp only [Bool.or_eq_true,Bool.and_eq_true,decide_eq_true_eq] at this;omega
   rcases Nat.lt_or_gt_of_ne hne with h|h
   ·exact key h v2 he
   exact key h v1 he.symm
  exact aA2 hp hd hx hinj) c hc
 conV:=WM (cU hp) hc
 conD d hd:=by
  have hok:=cU hp;have eW:=(lE hp).prm.eqv;have eD:=NF eW m.length m.length;have eV:=AR (aN m) (bN m) m.length;have h0:=(lE hp).pos;have v0:sL (aN m) (bN m) 0<l.length:=by
   have:=fC (l:=l) (cZ hok).1 (i:=0) (by omega);rw [(rN (l:=l) (i:=0) (by omega)).1];omega
  have v1:sL (aN m) (bN m) d<l.length:=by
   have:=fC (l:=l) (cZ hok).1 hd;rw [(rN (l:=l) hd).1];omega
  exact aK7 eD hok (fun d hd=>aNC (.inr ⟨hd,1,rfl⟩)) (fun i hi=>YE eW (by omega) hi) m.length (Nat.le_refl _) _ _ (eV.trans (eV.symm (WM hok hc _ v0)) (WM hok hc _ v1)) 0 d (by omega) hd rfl rfl
end Go.Aw
end

noncomputable section
namespace Go.Aw
set_option maxRecDepth 100000
section
variable {l:List Pt}{m:List Ed}{n:Int}
def tQ (l:List Pt)(m:List Ed)(d:Nat):Int:=aK (c8 l m).face d
theorem FH (ho:a8 l m n=true){u v:Nat}(hu:u<2*m.length)(hv:v<2*m.length):Wk (HE l m) (2*m.length) u v↔tQ l m u=tQ l m v:=by
 have ho':=ho;simp only [a8,eK,Bool.and_eq_true,decide_eq_true_eq] at ho';obtain⟨⟨hok,hpl⟩,_,hn,hmn,_⟩:=ho';have hp:eK l m n=true:=(by simp only [a8,Bool.and_eq_true] at ho;exact ho.1);have o:=U9 hok (2*m.length) (Nat.le_refl _);have hsn:=(AF hp (2*m.length) (Nat.le_refl _)).2;have e:bW l (aQ l m m.length) (outs l m) (2*m.length)=c8 l m:=(by unfold c8 nmD;rw [a9]);rw [e] at o hsn;simp only [yX,Bool.and_eq_true,decide_eq_true_eq,Bool.not_eq_true'] at hn;constructor
 ·refine aEq (lE hp).prm (tQ l m) (fun d hd=>?_) u v;have:=o.con d hd (hsn d hd);exact this
 intro h;obtain⟨k,hk⟩:=o.orb u v hu hv (hsn u hu) (hsn v hv) h (.inr ⟨by omega,hn.2⟩);have:=aBn hok hu k;exact .inr ⟨hu,k,by omega⟩
theorem aE9 (ho:a8 l m n=true){f:Int}(h0:0≤f)(h1:f≤n):(B9 l m f).Nodup:=by
 have hok:=aZ ho;obtain⟨k,b1,b2,b3,b4⟩:=uI ho h0 h1;have hfw:B9 l m f=j8 (aQ l m m.length) (outs l m) k:=(by unfold B9;rw [b4]);rw [hfw];unfold j8;refine List.pairwise_map.2 (List.Pairwise.imp_of_mem (R:=fun i k=>i<k) (fun {i j} hi hj hlt e=>?_) List.pairwise_lt_range);have hj:=List.mem_range.1 hj;have hlow:=(gI (aQ l m m.length) (outs l m) k (aQ l m m.length).length 1).2.2;obtain⟨t,rfl⟩:∃ t,j=i+t:=⟨j - i,by omega⟩;have:=FF hok (d:=(k:Int)) (by omega) (by omega) i t e;exact hlow t (by omega) (by unfold gU at hj;omega) this.symm
end
theorem aCM {N A:Int}(hN:0<N):(0<N*A↔0<A)∧(N*A≤0↔A≤0)∧(N*A<0↔A<0):=by
 have key:0<N*A↔0<A:=⟨fun h=>Int.not_le.1 fun g=>by have:=Int.mul_nonpos_of_nonneg_of_nonpos (Int.le_of_lt hN) g;omega,fun h=>Int.mul_pos hN h⟩;have key2:N*A<0↔A<0:=⟨fun h=>Int.not_le.1 fun g=>by have:=Int.mul_nonneg (Int.le_of_lt hN) g;omega,fun h=>Int.mul_neg_of_pos_of_neg hN h⟩;exact⟨key,by omega,key2⟩
theorem RB {N M A B α:Int}(hN:0<N)(hM:0<M):rI (N*A) (N*B) (M*α)=rI A B α:=by
 have a:=aCM (A:=A) hN;have b:=aCM (A:=B) hN;have c:=aCM (A:=α) hM;unfold rI;simp only [a.1,a.2.1,b.1,b.2.1,c.1,c.2.2]
variable {G:List (Pq × Pq)}{c:Pq × Pq→Int}
theorem aEr (hG:Gr G){u v:Pq}(hd:Ad G u v){e:Pq × Pq}(he:e∈G){i j:Int}{P:Pq}(hi:0<i)(hj:0<j)(h1:P.1=i*u.1+j*v.1)(h2:P.2=i*u.2+j*v.2) :
  wn (dd u v) 1 u e=wn (dd u v) (i+j) P e:=by
 have hs:=MD hG hd he;obtain⟨y,z⟩:=e;have hyz:y≠z:=hG.ne _ he;have S1:∀ x:Pq,bU (dd u v) (vec 1 u x)=bU (dd u v) (vec 1 v x):=fun x=>(by unfold bU dd vec;simp only;grind);have SN:∀ x:Pq,bU (dd u v) (vec (i+j) P x)=(i+j)*bU (dd u v) (vec 1 v x):=fun x=>(by unfold bU dd vec;simp only;rw [h1,h2];grind);have hal:bU (vec 1 u y) (vec 1 u z)=bU (vec 1 v y) (vec 1 v z)+bU (dd u v) (vec 1 v z) - bU (dd u v) (vec 1 v y):=(by unfold bU dd vec;simp only;grind);have haN:bU (vec (i+j) P y) (vec (i+j) P z)=(i+j)*(i*(bU (vec 1 v y) (vec 1 v z)+bU (dd u v) (vec 1 v z) - bU (dd u v) (vec 1 v y))+j*bU (vec 1 v y) (vec 1 v z)):=(by unfold bU dd vec;simp only;rw [h1,h2];grind);have z1:y=v→bU (dd u v) (vec 1 v y)=0∧bU (vec 1 v y) (vec 1 v z)=0:=fun e=>(by subst e;exact⟨xH _ _,aDq _ _⟩);have z2:z=v→bU (dd u v) (vec 1 v z)=0∧bU (vec 1 v y) (vec 1 v z)=0:=fun e=>(by subst e;exact⟨xH _ _,aEI _ _⟩);unfold wn at hs ⊢;simp only at hs ⊢;rw [S1,S1,hal] at hs ⊢;rw [SN,SN,haN,RB (by omega) (by omega)];clear SN haN h1 h2 S1 hal;generalize bU (dd u v) (vec 1 v y)=A at *;generalize bU (dd u v) (vec 1 v z)=B at *;generalize bU (vec 1 v y) (vec 1 v z)=α at *;have ma:=aCM (A:=α+B - A) hi;have mb:=aCM (A:=α) hj;by_cases e1:y=v
 ·obtain⟨rfl,rfl⟩:=z1 e1;simp only [Int.mul_zero,Int.add_zero,Int.zero_add,Int.sub_zero] at ma ⊢;unfold rI
  (repeat' split) <;> omega
 by_cases e2:z=v
 ·obtain⟨rfl,rfl⟩:=z2 e2;simp only [Int.mul_zero,Int.add_zero,Int.zero_add,Int.sub_zero] at ma ⊢;unfold rI
  (repeat' split) <;> omega
 rw [if_neg e1,if_neg e2] at hs;clear z1 z2;generalize i*(α+B - A)=X at *;generalize j*α=Y at *;unfold rI at hs ⊢;by_cases g1:A≤0∧0<B
 ·rw [if_pos g1,if_pos g1] at hs;rw [if_pos g1,if_pos g1];by_cases g2:0<α+B - A
  ·rw [if_pos g2] at hs ⊢;by_cases g3:0<α
   ·rw [if_pos (by omega)]
   rw [if_neg g3] at hs;omega
  rw [if_neg g2] at hs ⊢;rw [if_neg (by omega)]
 rw [if_neg g1,if_neg g1] at hs;rw [if_neg g1,if_neg g1];by_cases g4:0<A∧B≤0
 ·rw [if_pos g4,if_pos g4] at hs;rw [if_pos g4,if_pos g4];by_cases g2:α+B - A<0
  ·rw [if_pos g2] at hs ⊢;by_cases g3:α<0
   ·rw [if_pos (by omega)]
   rw [if_neg g3] at hs;omega
  rw [if_neg g2] at hs ⊢;rw [if_neg (by omega)]
 rw [if_neg g4,if_neg g4]
theorem aGP (hG:Gr G){u v:Pq}(hd:Ad G u v){e:Pq × Pq}(he:e∈G){i j:Int}{P:Pq}(hi:0<i)(hj:0<j)(h1:P.1=i*u.1+j*v.1)(h2:P.2=i*u.2+j*v.2)(n1:e≠(u,v))(n2:e≠(v,u)):V0 (i+j) P e:=fun ⟨M,hM,ho⟩=>by
 have huv:=hd.ne hG;obtain⟨w,w1,w2,w3,w4⟩:=aFm hG hd he n1 n2 (M*(i+j)) (M*P.1) (M*P.2) (Int.mul_pos hM (by omega)) ho ⟨M*i,M*j,Int.mul_nonneg (by omega) (by omega),Int.mul_nonneg (by omega) (by omega),by rw [Int.mul_add],by show _=M*i*u.1+M*j*v.1;rw [h1];grind,by show _=M*i*u.2+M*j*v.2;rw [h2];grind⟩;rw [Int.mul_assoc] at w3 w4;have e1:=Int.eq_of_mul_eq_mul_left (show M≠0 by omega) w3;have e2:=Int.eq_of_mul_eq_mul_left (show M≠0 by omega) w4;rw [h1] at e1;rw [h2] at e2;simp only at w2;rcases w2 with rfl|rfl
 ·have f1:j*v.1=j*w.1:=(by grind);have f2:j*v.2=j*w.2:=(by grind);exact huv (Prod.ext (Int.eq_of_mul_eq_mul_left (by omega) f1) (Int.eq_of_mul_eq_mul_left (by omega) f2)).symm
 have f1:i*u.1=i*w.1:=(by grind);have f2:i*u.2=i*w.2:=(by grind);exact huv (Prod.ext (Int.eq_of_mul_eq_mul_left (by omega) f1) (Int.eq_of_mul_eq_mul_left (by omega) f2))
theorem aLa (hG:Gr G)(hc:JR G c){u v:Pq}(hd:Ad G u v){i j:Int}{P:Pq}(hi:0<i)(hj:0<j)(h1:P.1=i*u.1+j*v.1)(h2:P.2=i*u.2+j*v.2){U:Pq}(hD:0<bU (dd u v) U) :
  Ld G c u v=Cs G c (wn U (i+j) P):=by
 have k1:Ld G c u v=Cs G c (wn (dd u v) (i+j) P):=iP fun e he _=>aEr hG hd he hi hj h1 h2;have k2:Cs G c (fun e=>wn (dd u v) (i+j) P e - wn U (i+j) P e)=Cs G c (fun e=>yR (bU (dd u v) (vec (i+j) P e.2)) (bU U (vec (i+j) P e.2)) - yR (bU (dd u v) (vec (i+j) P e.1)) (bU U (vec (i+j) P e.1))):=iP fun e he _=>by
  by_cases n:e=(u,v)∨e=(v,u)
  ·have a0:bU (dd u v) (vec (i+j) P e.1)=0∧bU (dd u v) (vec (i+j) P e.2)=0∧bU (vec (i+j) P e.1) (vec (i+j) P e.2)=0:=by
    rcases n with rfl|rfl
    ·refine⟨?_,?_,?_⟩ <;> (unfold bU vec;try unfold dd) <;> simp only <;> rw [h1,h2] <;> grind
    refine⟨?_,?_,?_⟩ <;> (unfold bU vec;try unfold dd) <;> simp only <;> rw [h1,h2] <;> grind
   have r0:∀ A B:Int,rI A B 0=0:=fun A B=>(by unfold rI;(repeat' split) <;> omega);have c0:∀ B:Int,yR 0 B=0:=fun B=>(by unfold yR;rw [if_neg (by omega)]);unfold wn;rw [a0.1,a0.2.1,a0.2.2,r0,r0,c0,c0]
  have hoff:=aGP hG hd he hi hj h1 h2 (fun e=>n (.inl e)) (fun e=>n (.inr e));exact aEA hD (by unfold bU;grind) fun h0=>⟨r8 (by omega) hoff h0 _,r8 (by omega) hoff h0 _⟩
 have k3:=hc (fun z=>yR (bU (dd u v) (vec (i+j) P z)) (bU U (vec (i+j) P z)));rw [I3] at k2;omega
theorem XD (hc:JR G c){N:Int}(hN:0<N){p U U':Pq}(hD:0<bU U U')(hoff:∀ e∈G,V0 N p e):Cs G c (wn U N p)=Cs G c (wn U' N p):=by
 have k2:Cs G c (fun e=>wn U N p e - wn U' N p e)=Cs G c (fun e=>yR (bU U (vec N p e.2)) (bU U' (vec N p e.2)) - yR (bU U (vec N p e.1)) (bU U' (vec N p e.1))):=iP fun e he _ =>
  aEA hD (by unfold bU;grind) fun h0=>⟨r8 hN (hoff e he) h0 _,r8 hN (hoff e he) h0 _⟩
 have k3:=hc (fun z=>yR (bU U (vec N p z)) (bU U' (vec N p z)));rw [I3] at k2;omega
end Go.Aw
end

noncomputable section
namespace Go.Aw
theorem IX {p:Nat→Pq}{a b:Nat→Nat}{n:Nat}{c:Nat→Int}(hd:∀ i k,i<n→k<n→sJ p a b i=sJ p a b k→i=k)(f:Pq × Pq→Int):Cs (gN p a b n) (chN p a b n c) f=sN (fun i=>c i*f (sJ p a b i)) n:=by
 unfold Cs gN;rw [tD];exact bH fun i hi=>by rw [WN hd hi]
section
variable (p:Nat→Pq)(a b:Nat→Nat)
def kZ (x:Int)(i:Nat):Prop:=(p (a i)).1≤x∧x<(p (b i)).1
def fK (i:Nat):Int:=(p (b i)).1 - (p (a i)).1
def gR (x:Int)(i:Nat):Int:=2*fK p a b i*(p (a i)).2+((p (b i)).2 - (p (a i)).2)*(2*x+1 - 2*(p (a i)).1)
def N4 (x:Int)(i k:Nat):Prop:=gR p a b x i*(2*fK p a b k)<gR p a b x k*(2*fK p a b i)
instance (x:Int) (i:Nat):Decidable (kZ p a b x i):=inferInstanceAs (Decidable (_∧_))
instance (x:Int) (i k:Nat):Decidable (N4 p a b x i k):=inferInstanceAs (Decidable (_<_))
end
variable {p:Nat→Pq}{a b nx:Nat→Nat}{nV nE:Nat}{c:Nat→Int}
theorem aN7 {x:Int}{i k:Nat}(hi:kZ p a b x i)(hk:(p (a k)).1≤(p (b k)).1){P:Pq}(h1:P.1=(2*(p (b i)).1 - 2*x - 1)*(p (a i)).1+(2*x+1 - 2*(p (a i)).1)*(p (b i)).1)(h2:P.2=(2*(p (b i)).1 - 2*x - 1)*(p (a i)).2+(2*x+1 - 2*(p (a i)).1)*(p (b i)).2) :
  wn (0,1) ((2*(p (b i)).1 - 2*x - 1)+(2*x+1 - 2*(p (a i)).1)) P (sJ p a b k) = -(if kZ p a b x k∧N4 p a b x i k then 1 else 0):=by
 unfold wn sJ;simp only;obtain⟨h3,h4⟩:=hi;have hdx:0<fK p a b i:=(by unfold fK;omega);have eA:∀ z:Pq,bU (0,1) (vec ((2*(p (b i)).1 - 2*x - 1)+(2*x+1 - 2*(p (a i)).1)) P z)=fK p a b i*(2*x+1 - 2*z.1):=fun z=>(by unfold bU vec fK;simp only;rw [h1];grind);have eC:bU (vec ((2*(p (b i)).1 - 2*x - 1)+(2*x+1 - 2*(p (a i)).1)) P (p (a k))) (vec ((2*(p (b i)).1 - 2*x - 1)+(2*x+1 - 2*(p (a i)).1)) P (p (b k)))=fK p a b i*(gR p a b x i*(2*fK p a b k) - gR p a b x k*(2*fK p a b i)):=by
  unfold bU vec gR fK;simp only;rw [h1,h2];grind
 rw [eA,eA,eC,RB hdx hdx];unfold rI;rw [if_neg (by omega)];by_cases g:kZ p a b x k
 ·have g':=g;unfold kZ at g';rw [if_pos (by omega)];by_cases g2:N4 p a b x i k
  ·have g3:=g2;unfold N4 at g3;rw [if_pos (by omega),if_pos ⟨g,g2⟩]
  have g3:=g2;unfold N4 at g3;rw [if_neg (by omega),if_neg (fun h=>g2 h.2)];rfl
 have g':=g;unfold kZ at g';rw [if_neg (by omega),if_neg (fun h=>g h.1)];rfl
def upS (p:Nat→Pq)(a b:Nat→Nat)(nE:Nat)(c:Nat→Int)(x:Int)(i:Nat):Int:=sN (fun k=>if kZ p a b x k∧N4 p a b x i k then c k else 0) nE
theorem UT (f:Nat→Int):∀ n,sN (fun i=>-f i) n = -sN f n
 |0=>rfl
 |n+1=>by rw [sN,sN,UT f n];omega
theorem aF4 (h:Mp p a b nx nV nE)(hx:∀ i,i<nE→(p (a i)).1≤(p (b i)).1)(hc:∀ g:Nat→Int,sN (fun i=>c i*(g (b i) - g (a i))) nE=0){x:Int}{i:Nat}(hi:i<nE)(hs:kZ p a b x i) :
  Ld (gN p a b nE) (chN p a b nE c) (p (a i)) (p (b i)) = -upS p a b nE c x i:=by
 have hd:Ad (gN p a b nE) (p (a i)) (p (b i)):=by
  have:=h.ad (d:=2*i) (by omega);unfold sL fH at this;rw [if_pos (by omega),if_pos (by omega),show 2*i / 2=i by omega] at this;exact this
 have h3:=hs.1;have h4:=hs.2;rw [aLa h.gr (wI h.dist hc) hd (i:=2*(p (b i)).1 - 2*x - 1) (j:=2*x+1 - 2*(p (a i)).1) (P:=((2*(p (b i)).1 - 2*x - 1)*(p (a i)).1+(2*x+1 - 2*(p (a i)).1)*(p (b i)).1,(2*(p (b i)).1 - 2*x - 1)*(p (a i)).2+(2*x+1 - 2*(p (a i)).1)*(p (b i)).2)) (by omega) (by omega) rfl rfl (U:=(0,1)) (by unfold bU dd;simp only;omega),IX h.dist];unfold upS;rw [← UT];exact bH fun k hk=>by
  rw [aN7 hs (hx k hk) rfl rfl];by_cases g:kZ p a b x k∧N4 p a b x i k
  ·rw [if_pos g,if_pos g];omega
  rw [if_neg g,if_neg g];omega
theorem Q0 (hc:∀ g:Nat→Int,sN (fun i=>c i*(g (b i) - g (a i))) nE=0)(hx:∀ i,i<nE→(p (a i)).1≤(p (b i)).1)(x:Int):sN (fun k=>if kZ p a b x k then c k else 0) nE=0:=by
 refine Eq.trans ?_ (hc fun v=>if (p v).1≤x then 0 else 1);exact bH fun k hk=>by
  have:=hx k hk;show (if (p (a k)).1≤x∧x<(p (b k)).1 then c k else 0)=_;by_cases g1:(p (a k)).1≤x <;> by_cases g2:(p (b k)).1≤x
  ·rw [if_neg (by omega),if_pos g1,if_pos g2];simp
  ·rw [if_pos (by omega),if_pos g1,if_neg g2];simp
  ·exact absurd g2 (by omega)
  rw [if_neg (by omega),if_neg g1,if_neg g2];simp
theorem aGl {P:Pq}{k:Nat}(hk:(p (a k)).1≤(p (b k)).1):wn (0,-1) 1 P (sJ p a b k)=if kZ p a b P.1 k∧0<aP (p (a k)) (p (b k)) P then 1 else 0:=by
 unfold wn sJ;simp only;have eA:∀ z:Pq,bU (0,-1) (vec 1 P z)=z.1 - P.1:=fun z=>(by unfold bU vec;simp only;omega);have eC:bU (vec 1 P (p (a k))) (vec 1 P (p (b k)))=aP (p (a k)) (p (b k)) P:=(by unfold bU vec aP;simp only;grind);rw [eA,eA,eC];unfold rI kZ;by_cases g:(p (a k)).1≤P.1∧P.1<(p (b k)).1
 ·rw [if_pos (by omega)];by_cases g2:0<aP (p (a k)) (p (b k)) P
  ·rw [if_pos g2,if_pos ⟨g,g2⟩]
  rw [if_neg g2,if_neg (fun h=>g2 h.2)]
 rw [if_neg (by omega),if_neg (by omega),if_neg (fun h=>g h.1)]
theorem aDP {P:Pq}{k:Nat}:wn (1,0) 1 P (sJ p a b k)=if (p (a k)).2≤P.2∧P.2<(p (b k)).2 then (if 0<aP (p (a k)) (p (b k)) P then 1 else 0) else if P.2<(p (a k)).2∧(p (b k)).2≤P.2 then (if aP (p (a k)) (p (b k)) P<0 then -1 else 0) else 0:=by
 unfold wn sJ;simp only;have eA:∀ z:Pq,bU (1,0) (vec 1 P z)=z.2 - P.2:=fun z=>(by unfold bU vec;simp only;omega);have eC:bU (vec 1 P (p (a k))) (vec 1 P (p (b k)))=aP (p (a k)) (p (b k)) P:=(by unfold bU vec aP;simp only;grind);rw [eA,eA,eC];unfold rI;by_cases g:(p (a k)).2≤P.2∧P.2<(p (b k)).2
 ·rw [if_pos (by omega),if_pos g]
 rw [if_neg (by omega),if_neg g];by_cases g:P.2<(p (a k)).2∧(p (b k)).2≤P.2
 ·rw [if_pos (by omega),if_pos g]
 rw [if_neg (by omega),if_neg g]
theorem aLw (h:Mp p a b nx nV nE)(hx:∀ i,i<nE→(p (a i)).1≤(p (b i)).1)(hc:∀ g:Nat→Int,sN (fun i=>c i*(g (b i) - g (a i))) nE=0){P:Pq}(hoff:∀ i,i<nE→V0 1 P (sJ p a b i)) :
  sN (fun k=>if kZ p a b P.1 k∧0<aP (p (a k)) (p (b k)) P then c k else 0) nE=sN (fun k=>c k*wn (1,0) 1 P (sJ p a b k)) nE:=by
 have hC:=wI (p:=p) h.dist hc;have:=XD hC (N:=1) (by decide) (p:=P) (U:=(0,-1)) (U':=(1,0)) (by decide) fun e he=>by
  obtain⟨i,hi,rfl⟩:=List.mem_map.1 he;exact hoff i (List.mem_range.1 hi)
 rw [IX h.dist,IX h.dist] at this;rw [← this];exact bH fun k hk=>by
  rw [aGl (hx k hk)];by_cases g:kZ p a b P.1 k∧0<aP (p (a k)) (p (b k)) P
  ·rw [if_pos g,if_pos g];omega
  rw [if_neg g,if_neg g];omega
end Go.Aw
end

noncomputable section
namespace Go.Aw
variable {p:Nat→Pq}{a b:Nat→Nat}{nE:Nat}{c:Nat→Int}
theorem C1 {f:Nat→Int}:∀ {n:Nat},(∀ i,i<n→0≤f i)→0≤sN f n
 |0,_=>Int.le_refl _
 |n+1,h=>by
  have:=C1 (f:=f) (n:=n) fun i hi=>h i (by omega);have:=h n (by omega);rw [sN];omega
theorem HW (k:Int)(f:Nat→Int):∀ n,sN (fun i=>k*f i) n=k*sN f n
 |0=>by rw [sN,sN,Int.mul_zero]
 |n+1=>by rw [sN,sN,HW k f n,Int.mul_add]
theorem PK (P:Nat→Prop)(H:Nat→Int):∀ n,(∃ j,j<n∧P j)→∃ j,j<n∧P j∧∀ i,i<n→P i→H i≤H j
 |0,⟨j,h,_⟩=>by omega
 |n+1,⟨j,h,hj⟩=>by
  by_cases hn:P n
  ·by_cases hk:∃ j,j<n∧P j
   ·obtain⟨k,k1,k2,k3⟩:=PK P H n hk;by_cases hle:H n≤H k
    ·refine⟨k,by omega,k2,fun i hi hp=>?_⟩;by_cases e:i=n
     ·rw [e];exact hle
     exact k3 i (by omega) hp
    refine⟨n,by omega,hn,fun i hi hp=>?_⟩;by_cases e:i=n
    ·rw [e];exact Int.le_refl _
    have:=k3 i (by omega) hp;omega
   refine⟨n,by omega,hn,fun i hi hp=>?_⟩;by_cases e:i=n
   ·rw [e];exact Int.le_refl _
   exact absurd ⟨i,by omega,hp⟩ hk
  have hjn:j<n:=by
   by_cases e:j=n
   ·rw [e] at hj;exact absurd hj hn
   omega
  obtain⟨k,k1,k2,k3⟩:=PK P H n ⟨j,hjn,hj⟩;refine⟨k,by omega,k2,fun i hi hp=>?_⟩;by_cases e:i=n
  ·rw [e] at hp;exact absurd hp hn
  exact k3 i (by omega) hp
theorem aIL {H:Int}:∀ (B:Nat),0≤H→(sN (fun t:Nat=>if (t:Int)<H then 1 else 0) B)=if H≤B then H else B
 |0,h=>by
  rw [sN];split <;> omega
 |B+1,h=>by
  rw [sN,aIL B h];split <;> split <;> split <;> omega
def wdN (p:Nat→Pq)(a b:Nat→Nat):Nat→Int
 |0=>1
 |k+1=>wdN p a b k*(if 0<fK p a b k then 2*fK p a b k else 1)
theorem NC:∀ n,0<wdN p a b n
 |0=>Int.one_pos
 |n+1=>by
  have:=NC n;rw [wdN];split
  ·exact Int.mul_pos this (by omega)
  omega
theorem OI:∀ n k,k<n→0<fK p a b k→∃ w,0<w∧wdN p a b n=2*fK p a b k*w
 |0,k,h,_=>by omega
 |n+1,k,h,hd=>by
  by_cases e:k=n
  ·subst e;refine⟨wdN p a b k,NC k,?_⟩;rw [wdN,if_pos hd,Int.mul_comm]
  obtain⟨w,w1,w2⟩:=OI n k (by omega) hd;rw [wdN,w2];split
  ·exact⟨w*(2*fK p a b n),Int.mul_pos w1 (by omega),Int.mul_assoc _ _ _⟩
  exact⟨w,w1,by rw [Int.mul_one]⟩
theorem aG9 {x:Int}{i k:Nat}{T wi wk:Int}(hT:0<T)(h1:0<wi)(h2:T=2*fK p a b i*wi)(h3:0<wk)(h4:T=2*fK p a b k*wk):N4 p a b x i k↔gR p a b x i*wi<gR p a b x k*wk:=by
 unfold N4;generalize gR p a b x i=X at *;generalize gR p a b x k=Y at *;generalize 2*fK p a b i=u at *;generalize 2*fK p a b k=v at *;have hw:0<wi*wk:=Int.mul_pos h1 h3;have e1:X*v*(wi*wk)=X*wi*T:=(by rw [h4];grind);have e2:Y*u*(wi*wk)=Y*wk*T:=(by rw [h2];grind);constructor
 ·intro h;have:=Int.mul_lt_mul_of_pos_right h hw;rw [e1,e2] at this;exact Int.lt_of_mul_lt_mul_right this (Int.le_of_lt hT)
 intro h;have:=Int.mul_lt_mul_of_pos_right h hT;rw [← e1,← e2] at this;exact Int.lt_of_mul_lt_mul_right this (Int.le_of_lt hw)
theorem num_nonneg (hn:∀ i,i<nE→0≤(p (a i)).2∧0≤(p (b i)).2){x:Int}{i:Nat}(hi:i<nE)(hs:kZ p a b x i):0≤gR p a b x i:=by
 obtain⟨h1,h2⟩:=hs;have h3:=hn i hi;have e:gR p a b x i=(2*(p (b i)).1 - 2*x - 1)*(p (a i)).2+(2*x+1 - 2*(p (a i)).1)*(p (b i)).2:=(by unfold gR fK;grind);rw [e];have m1:=Int.mul_nonneg (show 0≤2*(p (b i)).1 - 2*x - 1 by omega) h3.1;have m2:=Int.mul_nonneg (show 0≤2*x+1 - 2*(p (a i)).1 by omega) h3.2;omega
theorem aGD (hx:∀ i,i<nE→(p (a i)).1≤(p (b i)).1)(hn:∀ i,i<nE→0≤(p (a i)).2∧0≤(p (b i)).2)(hc:∀ g:Nat→Int,sN (fun i=>c i*(g (b i) - g (a i))) nE=0){x:Int}(hup:∀ i,i<nE→kZ p a b x i→0≤upS p a b nE c x i)
  {T:Int} {w:Nat→Int} (hT:0<T) (hw:∀ i,i<nE→0<fK p a b i→0<w i∧T=2*fK p a b i*w i):0≤sN (fun i=>if kZ p a b x i then c i*(gR p a b x i*w i) else 0) nE:=by
 have hd:∀ {i},kZ p a b x i→0<fK p a b i:=fun {i} h=>(by have:=h.1;have:=h.2;unfold fK;omega);have hH:∀ i,i<nE→kZ p a b x i→0≤gR p a b x i*w i:=fun i hi hs=>Int.mul_nonneg (num_nonneg hn hi hs) (Int.le_of_lt (hw i hi (hd hs)).1);obtain⟨H,hHd⟩:∃ H:Nat→Int,H=fun i=>gR p a b x i*w i:=⟨_,rfl⟩;obtain⟨B,hB⟩:∃ B:Nat,∀ i,i<nE→H i≤B:=by
  clear hup hw hH hd hn hx hc
  induction nE with
  |zero=>exact⟨0,fun i hi=>by omega⟩
  |succ k ih =>
   obtain⟨B,h⟩:=ih;refine⟨B+(H k).toNat,fun i hi=>?_⟩;by_cases e:i=k
   ·subst e;omega
   have:=h i (by omega);omega
 have e1:sN (fun i=>if kZ p a b x i then c i*(gR p a b x i*w i) else 0) nE=sN (fun i=>sN (fun t:Nat=>if kZ p a b x i∧(t:Int)<H i then c i else 0) B) nE:=bH fun i hi=>by
  by_cases g:kZ p a b x i
  ·rw [if_pos g];have:sN (fun t:Nat=>if kZ p a b x i∧(t:Int)<H i then c i else 0) B=sN (fun t:Nat=>c i*(if (t:Int)<H i then 1 else 0)) B:=bH fun t _=>by
    by_cases g2:(t:Int)<H i
    ·rw [if_pos ⟨g,g2⟩,if_pos g2,Int.mul_one]
    rw [if_neg (fun h=>g2 h.2),if_neg g2,Int.mul_zero]
   have h0:0≤H i:=(by rw [hHd];exact hH i hi g);rw [this,HW,aIL B h0,if_pos (hB i hi),hHd]
  rw [if_neg g];have:sN (fun t:Nat=>if kZ p a b x i∧(t:Int)<H i then c i else 0) B=sN (fun _=>0) B:=bH fun t _=>if_neg (fun h=>g h.1);rw [this,wL]
 rw [e1,z8 (fun i t=>if kZ p a b x i∧(t:Int)<H i then c i else 0) B nE];refine C1 fun t _=>?_;by_cases hk:∃ j,j<nE∧(kZ p a b x j∧H j≤t)
 ·obtain⟨j,j1,⟨j2,j3⟩,j4⟩:=PK (fun j=>kZ p a b x j∧H j≤t) H nE hk;have:sN (fun i=>if kZ p a b x i∧(t:Int)<H i then c i else 0) nE=upS p a b nE c x j:=bH fun i hi=>by
   by_cases g:kZ p a b x i
   ·have ha:=aG9 (x:=x) hT (hw j j1 (hd j2)).1 (hw j j1 (hd j2)).2 (hw i hi (hd g)).1 (hw i hi (hd g)).2;have hk2:(t:Int)<H i↔N4 p a b x j i:=by
     rw [ha];have hHj:H j=gR p a b x j*w j:=(by rw [hHd]);have hHi:H i=gR p a b x i*w i:=(by rw [hHd]);rw [← hHj,← hHi];constructor
     ·intro h;omega
     intro h;refine Int.not_le.1 fun hle=>?_;have:=j4 i hi ⟨g,hle⟩;omega
    by_cases g2:(t:Int)<H i
    ·rw [if_pos ⟨g,g2⟩,if_pos ⟨g,hk2.1 g2⟩]
    rw [if_neg (fun h=>g2 h.2),if_neg (fun h=>g2 (hk2.2 h.2))]
   rw [if_neg (fun h=>g h.1),if_neg (fun h=>g h.1)]
  rw [this];exact hup j j1 j2
 have:sN (fun i=>if kZ p a b x i∧(t:Int)<H i then c i else 0) nE=sN (fun i=>if kZ p a b x i then c i else 0) nE:=bH fun i hi=>by
  by_cases g:kZ p a b x i
  ·rw [if_pos g,if_pos ⟨g,Int.not_le.1 fun h=>hk ⟨i,hi,g,h⟩⟩]
  rw [if_neg g,if_neg (fun h=>g h.1)]
 rw [this,Q0 hc hx];exact Int.le_refl _
theorem ZD {i:Nat}(hx:(p (a i)).1≤(p (b i)).1)(h0:0≤(p (a i)).1):∀ X:Nat,sN (fun x:Nat=>if kZ p a b x i then gR p a b x i else 0) X =
  if (X:Int)≤(p (a i)).1 then 0 else if (X:Int)≤(p (b i)).1 then 2*fK p a b i*(p (a i)).2*(X - (p (a i)).1)+((p (b i)).2 - (p (a i)).2)*((X - (p (a i)).1)*(X - (p (a i)).1)) else 2*fK p a b i*(p (a i)).2*fK p a b i+((p (b i)).2 - (p (a i)).2)*(fK p a b i*fK p a b i)
 |0=>by rw [sN,if_pos (by omega)]
 |X+1=>by
  rw [sN,ZD hx h0 X];have es:kZ p a b (X:Int) i↔(p (a i)).1≤X∧(X:Int)<(p (b i)).1:=Iff.rfl;have ec:((X+1:Nat):Int)=(X:Int)+1:=(by omega);rw [ec];by_cases g1:(X:Int)<(p (a i)).1
  ·rw [if_pos (by omega),if_neg (by rw [es];omega),if_pos (by omega)];rfl
  by_cases g2:(X:Int)<(p (b i)).1
  ·rw [if_pos (show kZ p a b (X:Int) i from es.2 ⟨by omega,g2⟩),if_neg (show ¬ ((X:Int)+1≤(p (a i)).1) by omega),if_pos (show (X:Int)+1≤(p (b i)).1 by omega)];unfold gR;by_cases g3:(X:Int)≤(p (a i)).1
   ·have e:(p (a i)).1=X:=(by omega);rw [if_pos g3,e]
    grind
   rw [if_neg g3,if_pos (by omega)]
   grind
  rw [if_neg (show ¬ kZ p a b (X:Int) i by rw [es];omega)];by_cases g3:(p (a i)).1=(p (b i)).1
  ·have hd:fK p a b i=0:=(by unfold fK;omega);rw [hd];by_cases g4:(X:Int)≤(p (a i)).1
   ·rw [if_pos g4,if_neg (by omega),if_neg (by omega)];simp
   rw [if_neg g4,if_neg (by omega),if_neg (by omega),if_neg (by omega)];simp
  rw [if_neg (by omega),if_neg (show ¬ ((X:Int)+1≤(p (a i)).1) by omega),if_neg (show ¬ ((X:Int)+1≤(p (b i)).1) by omega)];by_cases g4:(X:Int)≤(p (b i)).1
  ·have e:(X:Int)=(p (b i)).1:=(by omega);rw [if_pos g4,e,Int.add_zero];rfl
  rw [if_neg g4,Int.add_zero]
def J7 (u v:Pq):Int:=u.1*v.2 - v.1*u.2
theorem aH3 (hx:∀ i,i<nE→(p (a i)).1≤(p (b i)).1)(hn:∀ i,i<nE→0≤(p (a i)).2∧0≤(p (b i)).2)(h0:∀ i,i<nE→0≤(p (a i)).1)(hc:∀ g:Nat→Int,sN (fun i=>c i*(g (b i) - g (a i))) nE=0)
  (hup:∀ (x:Int) i,i<nE→kZ p a b x i→0≤upS p a b nE c x i):sN (fun i=>c i*J7 (p (a i)) (p (b i))) nE≤0:=by
 obtain⟨T,hTd⟩:∃ T,T=wdN p a b nE:=⟨_,rfl⟩;have hT:0<T:=(by rw [hTd];exact NC nE);obtain⟨w,hw⟩:∃ w:Nat→Int,∀ i,i<nE→0<fK p a b i→0<w i∧T=2*fK p a b i*w i :=
  ⟨fun i=>if h:i<nE∧0<fK p a b i then (OI nE i h.1 h.2).choose else 0,fun i h1 h2=>by
   simp only [dif_pos (And.intro h1 h2)];rw [hTd];exact (OI nE i h1 h2).choose_spec⟩
 obtain⟨X,hX⟩:∃ X:Nat,∀ i,i<nE→(p (b i)).1<X:=by
  clear hup hw hn hx hc h0 hTd
  induction nE with
  |zero=>exact⟨0,fun i hi=>by omega⟩
  |succ k ih =>
   obtain⟨B,h⟩:=ih;refine⟨B+(p (b k)).1.toNat+1,fun i hi=>?_⟩;by_cases e:i=k
   ·subst e;omega
   have:=h i (by omega);omega
 have h1:0≤sN (fun x:Nat=>sN (fun i=>if kZ p a b x i then c i*(gR p a b x i*w i) else 0) nE) X:=C1 fun x _=>aGD hx hn hc (hup x) hT hw;rw [z8 (fun (x:Nat) i=>if kZ p a b x i then c i*(gR p a b x i*w i) else 0) nE X] at h1;have h2:2*sN (fun i=>sN (fun x:Nat=>if kZ p a b x i then c i*(gR p a b x i*w i) else 0) X) nE=sN (fun i=>T*(c i*(fK p a b i*((p (a i)).2+(p (b i)).2)))) nE:=by
  rw [← HW];refine bH fun i hi=>?_;have e1:sN (fun x:Nat=>if kZ p a b x i then c i*(gR p a b x i*w i) else 0) X=c i*w i*sN (fun x:Nat=>if kZ p a b x i then gR p a b x i else 0) X:=by
   rw [← HW];refine bH fun x _=>?_;by_cases g:kZ p a b (x:Int) i
   ·rw [if_pos g,if_pos g];grind
   rw [if_neg g,if_neg g,Int.mul_zero]
  have hi1:=hx i hi;have hi2:=hX i hi;have hi3:=h0 i hi;rw [e1,ZD hi1 hi3 X,if_neg (by omega),if_neg (by omega)];by_cases g:0<fK p a b i
  ·have:=(hw i hi g).2;rw [this]
   grind
  have hd:fK p a b i=0:=(by unfold fK at g ⊢;omega);rw [hd];simp
 rw [HW] at h2;have h3:sN (fun i=>c i*J7 (p (a i)) (p (b i))) nE = -sN (fun i=>c i*(fK p a b i*((p (a i)).2+(p (b i)).2))) nE:=by
  have e:=hc fun v=>(p v).1*(p v).2;have:sN (fun i=>c i*((p (b i)).1*(p (b i)).2 - (p (a i)).1*(p (a i)).2)) nE=sN (fun i=>c i*J7 (p (a i)) (p (b i))+c i*(fK p a b i*((p (a i)).2+(p (b i)).2))) nE:=bH fun i _=>(by unfold J7 fK;grind);rw [this,GU] at e;omega
 rw [h3];refine Int.neg_nonpos_of_nonneg (Int.not_lt.1 fun g=>?_);have:=Int.mul_neg_of_pos_of_neg hT g;omega
end Go.Aw
end

noncomputable section
namespace Go.Aw
variable {p:Nat→Pq}{a b nx:Nat→Nat}{nV nE:Nat}{c:Nat→Int}
def hN (p:Nat→Pq)(a b:Nat→Nat)(t:Int)(i:Nat):Int:=2*fK p a b i*(p (a i)).2+((p (b i)).2 - (p (a i)).2)*(t - 2*(p (a i)).1)
theorem aHK {x t:Int}{i k:Nat}(hok:okP (sJ p a b i) (sJ p a b k))(hi:kZ p a b x i)(hk:kZ p a b x k)(ht:t=2*x∨t=2*x+2)(h1:hN p a b t i*fK p a b k<hN p a b t k*fK p a b i):gR p a b x i*fK p a b k<gR p a b x k*fK p a b i:=by
 refine Int.not_le.1 fun h2=>?_;have di:0<fK p a b i:=(by have:=hi.1;have:=hi.2;unfold fK;omega);have dk:0<fK p a b k:=(by have:=hk.1;have:=hk.2;unfold fK;omega);obtain⟨B,hB⟩:∃ B,B=hN p a b t k*fK p a b i - hN p a b t i*fK p a b k:=⟨_,rfl⟩;obtain⟨A,hA⟩:∃ A,A=gR p a b x i*fK p a b k - gR p a b x k*fK p a b i:=⟨_,rfl⟩;have hB0:0<B:=(by omega);have hA0:0≤A:=(by omega);obtain⟨τ,hτ⟩:∃ τ,τ=t*A+(2*x+1)*B:=⟨_,rfl⟩;have i1:=hi.1;have i2:=hi.2;have k1:=hk.1;have k2:=hk.2
 -- the place where they meet
 have lowT:2*x*(A+B)≤τ∧τ≤(2*x+2)*(A+B):=by
  rcases ht with rfl|rfl
  ·constructor
   ·rw [hτ];have:(2*x+1)*B=2*x*B+B:=(by grind);have e:2*x*(A+B)=2*x*A+2*x*B:=Int.mul_add _ _ _;omega
   rw [hτ];have:(2*x+1)*B=2*x*B+B:=(by grind);have e:(2*x+2)*(A+B)=2*x*A+2*x*B+2*A+2*B:=(by grind);omega
  constructor
  ·rw [hτ];have:(2*x+1)*B=2*x*B+B:=(by grind);have e:2*x*(A+B)=2*x*A+2*x*B:=Int.mul_add _ _ _;have e2:(2*x+2)*A=2*x*A+2*A:=(by grind);omega
  rw [hτ];have:(2*x+1)*B=2*x*B+B:=(by grind);have e:(2*x+2)*(A+B)=(2*x+2)*A+2*x*B+2*B:=(by grind);omega
 have hS:0<A+B:=(by omega);have wgt:∀ {y:Int},y≤x→0≤τ - 2*y*(A+B):=fun {y} hy=>by
  have:=Int.mul_le_mul_of_nonneg_right (show 2*y≤2*x by omega) (Int.le_of_lt hS);omega
 have wgt2:∀ {y:Int},x<y→0≤2*y*(A+B) - τ:=fun {y} hy=>by
  have:=Int.mul_le_mul_of_nonneg_right (show 2*x+2≤2*y by omega) (Int.le_of_lt hS);omega
 have hYd:fK p a b i*(A*hN p a b t k+B*gR p a b x k)=fK p a b k*(A*hN p a b t i+B*gR p a b x i):=by
  have e1:A*(hN p a b t k*fK p a b i - hN p a b t i*fK p a b k)+B*(gR p a b x k*fK p a b i - gR p a b x i*fK p a b k)=A*B+B*(-A):=(by rw [← hB,hA];grind);have e2:A*B+B*(-A)=0:=(by grind);rw [e2] at e1;clear hB hA hτ lowT wgt wgt2 hok
  grind
 obtain⟨z,z1,z2,z3,z4⟩:=hok (2*fK p a b i*(2*fK p a b k)*(A+B)) (2*fK p a b k*fK p a b i*τ) (2*fK p a b k*(A*hN p a b t i+B*gR p a b x i))
  (Int.mul_pos (Int.mul_pos (by omega) (by omega)) hS)
  ⟨2*fK p a b k*(2*(p (b i)).1*(A+B) - τ),2*fK p a b k*(τ - 2*(p (a i)).1*(A+B)),Int.mul_nonneg (by omega) (wgt2 i2),Int.mul_nonneg (by omega) (wgt i1),by unfold fK;grind,
   by show _=_*(p (a i)).1+_*(p (b i)).1;unfold fK;grind,
   by show _=_*(p (a i)).2+_*(p (b i)).2;rw [hτ];unfold hN gR fK;grind⟩
  ⟨2*fK p a b i*(2*(p (b k)).1*(A+B) - τ),2*fK p a b i*(τ - 2*(p (a k)).1*(A+B)),Int.mul_nonneg (by omega) (wgt2 k2),Int.mul_nonneg (by omega) (wgt k1),by unfold fK;grind,
   by show _=_*(p (a k)).1+_*(p (b k)).1;unfold fK;grind,
   by
    show _=_*(p (a k)).2+_*(p (b k)).2;have:2*fK p a b k*(A*hN p a b t i+B*gR p a b x i)=2*(fK p a b i*(A*hN p a b t k+B*gR p a b x k)):=(by rw [hYd];grind);rw [this,hτ];unfold hN gR fK;grind⟩
 have e1:2*fK p a b i*fK p a b k*τ=2*fK p a b i*fK p a b k*(2*(A+B)*z.1):=by
  have r1:∀ u v w:Int,2*u*v*w=2*v*u*w:=fun u v w=>(by grind);have r2:∀ u v w y:Int,2*u*(2*v)*w*y=2*u*v*(2*w*y):=fun u v w y=>(by grind);rw [r1,z3,r2]
 have e2:=Int.eq_of_mul_eq_mul_left (Int.ne_of_gt (Int.mul_pos (show 0<2*fK p a b i by omega) dk)) e1;clear z4 z3 hYd e1 hok wgt wgt2 lowT;rcases ht with rfl|rfl
 ·have e3:2*(A+B)*(z.1 - x)=B:=(by rw [Int.mul_sub,← e2,hτ];grind);rcases Int.lt_or_le 0 (z.1 - x) with g|g
  ·have:=Int.mul_le_mul_of_nonneg_left (show 1≤z.1 - x by omega) (show 0≤2*(A+B) by omega);omega
  have:=Int.mul_nonpos_of_nonneg_of_nonpos (show 0≤2*(A+B) by omega) g;omega
 have e3:2*(A+B)*(x+1 - z.1)=B:=(by rw [Int.mul_sub,← e2,hτ];grind);rcases Int.lt_or_le 0 (x+1 - z.1) with g|g
 ·have:=Int.mul_le_mul_of_nonneg_left (show 1≤x+1 - z.1 by omega) (show 0≤2*(A+B) by omega);omega
 have:=Int.mul_nonpos_of_nonneg_of_nonpos (show 0≤2*(A+B) by omega) g;omega
def LN (p:Nat→Pq)(a b:Nat→Nat)(nE:Nat)(c:Nat→Int)(d:Nat):Int:=Ld (gN p a b nE) (chN p a b nE c) (p (sL a b d)) (p (fH a b d))
theorem aNT (h:Mp p a b nx nV nE)(hmeet:∀ d,d<2*nE→p (sL a b (nx d))=p (fH a b d))
  (hsoon:∀ d x,d<2*nE→x<2*nE→p (sL a b x)=p (fH a b d)→¬ Z9 (p (fH a b d)) (p (sL a b d)) (p (fH a b x)) (p (fH a b (nx d)))) (hc:∀ g:Nat→Int,sN (fun i=>c i*(g (b i) - g (a i))) nE=0) {d:Nat} (hd:d<2*nE) :
  LN p a b nE c (nx d)=LN p a b nE c d:=by
 have hG:=h.gr;have hC:=wI (p:=p) h.dist hc;have hn:=h.prm.lt d hd;have h1:=h.ad hd;have h2:=h.ad hn;unfold LN;rw [hmeet d hd] at h2;rw [hmeet d hd];refine (aA9 hG hC h1 h2 fun z hz=>?_).symm;obtain⟨x,hx,e1,e2⟩:=h.aEi hz;rw [← e2];exact hsoon d x hd hx e1
theorem aA3 (a b:Nat→Nat)(i:Nat):sL a b (2*i)=a i∧fH a b (2*i)=b i∧sL a b (2*i+1)=b i∧fH a b (2*i+1)=a i:=by
 unfold sL fH;rw [if_pos (by omega),if_pos (by omega),if_neg (by omega),if_neg (by omega),show 2*i / 2=i by omega,show (2*i+1) / 2=i by omega];exact⟨rfl,rfl,rfl,rfl⟩
theorem aHD (h:Mp p a b nx nV nE)(hc:∀ g:Nat→Int,sN (fun i=>c i*(g (b i) - g (a i))) nE=0){i:Nat}(hi:i<nE):LN p a b nE c (2*i) - LN p a b nE c (2*i+1)=c i:=by
 have hG:=h.gr;have hC:=wI (p:=p) h.dist hc;have h1:=h.ad (d:=2*i) (by omega);have j:=XC hG hC h1;obtain⟨e1,e2,e3,e4⟩:=aA3 a b i;unfold LN;rw [e1,e2,e3,e4];rw [e1,e2] at j;rw [j];exact Y2 h.dist h.rev hi
theorem aKD (h:Mp p a b nx nV nE)(hx:∀ i,i<nE→(p (a i)).1≤(p (b i)).1)(hc:∀ g:Nat→Int,sN (fun i=>c i*(g (b i) - g (a i))) nE=0){x:Int}{i:Nat}(hi:i<nE)(hs:kZ p a b x i):LN p a b nE c (2*i) = -upS p a b nE c x i:=by
 obtain⟨e1,e2,_,_⟩:=aA3 a b i;unfold LN;rw [e1,e2];exact aF4 h hx hc hi hs
theorem aIo {pv:Nat→Nat}(nx_lt:∀ d,d<2*nE→nx d<2*nE)(pv_lt:∀ d,d<2*nE→pv d<2*nE)(nxpv:∀ d,d<2*nE→nx (pv d)=d)(pvnx:∀ d,d<2*nE→pv (nx d)=d)
  (meet:∀ (g:Nat→Int) d,d<2*nE→(if d % 2=0 then g (b (d / 2)) else g (a (d / 2)))=(if nx d % 2=0 then g (a (nx d / 2)) else g (b (nx d / 2)))) {g:Nat→Int} (g_nx:∀ d,d<2*nE→g (nx d)=g d) (q:Nat→Int) :
  sN (fun i=>(g (2*i) - g (2*i+1))*(q (b i) - q (a i))) nE=0:=by
 have e1:sN (fun d=>g d*(if d % 2=0 then q (b (d / 2)) else q (a (d / 2)))) (2*nE)=sN (fun d=>g d*(if d % 2=0 then q (a (d / 2)) else q (b (d / 2)))) (2*nE):=by
  have:=aIq nx_lt pv_lt pvnx nxpv (fun d=>g d*(if d % 2=0 then q (a (d / 2)) else q (b (d / 2))));rw [← this];exact bH fun d hd'=>by
   rw [g_nx d hd',meet q d hd']
 rw [HJ,HJ] at e1;have e2:sN (fun i=>(g (2*i) - g (2*i+1))*(q (b i) - q (a i))) nE=sN (fun i=>g (2*i)*(if 2*i % 2=0 then q (b (2*i / 2)) else q (a (2*i / 2)))+g (2*i+1)*(if (2*i+1) % 2=0 then q (b ((2*i+1) / 2)) else q (a ((2*i+1) / 2)))) nE - sN (fun i=>g (2*i)*(if 2*i % 2=0 then q (a (2*i / 2)) else q (b (2*i / 2)))+g (2*i+1)*(if (2*i+1) % 2=0 then q (a ((2*i+1) / 2)) else q (b ((2*i+1) / 2)))) nE:=by
  rw [← aFc];exact bH fun i _=>by
   rw [if_pos (by omega),if_neg (by omega),if_pos (by omega),if_neg (by omega),show 2*i / 2=i by omega,show (2*i+1) / 2=i by omega]
   grind
 rw [e2,e1];omega
end Go.Aw
end

noncomputable section
namespace Go.Aw
set_option maxRecDepth 100000
section
variable {l:List Pt}{m:List Ed}{n:Int}
def Cyc (m:List Ed)(c:Nat→Int):Prop:=∀ g:Nat→Int,sN (fun i=>c i*(g (bN m i) - g (aN m i))) m.length=0
def LL (l:List Pt)(m:List Ed)(c:Nat→Int)(d:Nat):Int:=LN (pN l) (aN m) (bN m) m.length c d
theorem oC (ho:a8 l m n=true):eK l m n=true:=by simp only [a8,Bool.and_eq_true] at ho;exact ho.1
theorem ZS (ho:a8 l m n=true):C4 l m=true:=by
 have hv:=(aFq l m n).symm.trans ho;simp only [NB,Bool.and_eq_true] at hv;exact hv.2.1
theorem aLR (hok:cQ l m n=true){i j:Nat}(hi:i<l.length)(hj:j<l.length)(e:pN l i=pN l j):i=j:=by
 refine Classical.byContradiction fun hne=>?_;have key:∀ {i j:Nat},i<j→j<l.length→pN l i=pN l j→False:=fun {i j} h1 h2 e=>by
  have:=IL hok h1 h2;have e:fA l i=fA l j:=e;rw [e] at this;unfold eO at this;simp only [Bool.or_eq_true,Bool.and_eq_true,decide_eq_true_eq] at this;omega
 rcases Nat.lt_or_gt_of_ne hne with h|h
 ·exact key h hj e
 exact key h hi e.symm
theorem aNa (hp:eK l m n=true){c:Nat→Int}(hc:Cyc m c){d:Nat}(hd:d<2*m.length):LL l m c (HE l m d)=LL l m c d:=by
 have hok:=cU hp;refine aNT (lE hp) (fun d hd=>by rw [FC hok hd]) (fun d x hd hx he=>?_) hc hd;have v1:sL (aN m) (bN m) x<l.length:=by
  have:=fC (l:=l) (cZ hok).1 hx;rw [(rN (l:=l) hx).1];omega
 have v2:fH (aN m) (bN m) d<l.length:=by
  have:=fC (l:=l) (cZ hok).1 hd;rw [(rN (l:=l) hd).2];omega
 exact aA2 hp hd hx (aLR hok v1 v2 he)
theorem X7 (hp:eK l m n=true){c:Nat→Int}(hc:Cyc m c){i:Nat}(hi:i<m.length):LL l m c (2*i) - LL l m c (2*i+1)=c i:=aHD (lE hp) hc hi
theorem aIW (ho:a8 l m n=true){d:Nat}(hd:d<2*m.length):tQ l m (HE l m d)=tQ l m d :=
 ((FH ho hd (lE (oC ho)|>.prm.lt d hd)).1 (.inr ⟨hd,1,rfl⟩)).symm
def cF (l:List Pt)(m:List Ed)(f:Int)(i:Nat):Int:=(if tQ l m (2*i)=f then 1 else 0) - (if tQ l m (2*i+1)=f then 1 else 0)
theorem aM5 (hp:eK l m n=true)(hc:C4 l m=true){g:Nat→Int}(hg:∀ d,d<2*m.length→g (HE l m d)=g d):Cyc m (fun i=>g (2*i) - g (2*i+1)):=fun q=>by
 have hE:=aCD hp hc;exact aIo hE.nx_lt hE.pv_lt hE.nxpv hE.pvnx hE.meet hg q
theorem GQ (ho:a8 l m n=true)(f:Int):Cyc m (cF l m f):=by
 refine aM5 (oC ho) (ZS ho) (g:=fun d=>if tQ l m d=f then 1 else 0) fun d hd=>?_;rw [aIW ho hd]
theorem aHQ (ho:a8 l m n=true)(f:Int):∃ k:Int,∀ d,d<2*m.length→LL l m (cF l m f) d=(if tQ l m d=f then 1 else 0)+k:=by
 have hp:=oC ho;have hE:=aCD hp (ZS ho);have hc:=GQ ho f;have h0:=hE.pos;refine⟨LL l m (cF l m f) 0 - (if tQ l m 0=f then 1 else 0),fun d hd=>?_⟩;have:=PS (W:=Wk (HE l m) (2*m.length)) (n:=m.length) (L:=fun d=>LL l m (cF l m f) d - (if tQ l m d=f then 1 else 0)) (hE.W_inv _ fun d hd=>by rw [aNa hp hc hd,aIW ho hd]) (j:=m.length) (fun i _ hi=>by
  have:=X7 hp hc hi;simp only [cF] at this ⊢;omega) (Nat.le_refl _) (hE.conD d hd)
 omega
theorem Y1 {x:Int}{i:Nat}(hi:i<m.length):kZ (pN l) (aN m) (bN m) x i↔TP l m x (i:Int):=by
 unfold TP kZ oF;rw [Int.toNat_natCast];simp only [Bool.and_eq_true,decide_eq_true_eq];exact⟨fun h=>⟨by omega,by omega,h⟩,fun h=>h.2.2⟩
theorem aKu {x:Int}{i k:Nat}:N4 (pN l) (aN m) (bN m) x i k↔lwB l m (2*x+1) (i:Int) (k:Int)=true:=by
 unfold lwB N4;rw [decide_eq_true_eq,Int.toNat_natCast,Int.toNat_natCast];have e1:gR (pN l) (aN m) (bN m) x i=FN (aS l m i) (2*x+1):=rfl;have e2:gR (pN l) (aN m) (bN m) x k=FN (aS l m k) (2*x+1):=rfl;have e3:fK (pN l) (aN m) (bN m) i=EI (aS l m i):=rfl;have e4:fK (pN l) (aN m) (bN m) k=EI (aS l m k):=rfl;rw [e1,e2,e3,e4];have:∀ u v:Int,u*(2*v)=2*(u*v):=fun u v=>(by grind);rw [this,this];omega
theorem aHq (ho:a8 l m n=true)(x:Int):(iB l m x).Pairwise (fun a b=>lwB l m (2*x+1) a b=true):=by
 rw [aJS ho];exact (T6 (QQ (x:=x) ho) (bS (oF l x) m m.length).length (bS (oF l x) m m.length) (Nat.le_refl _) (fun y hy=>aAm.1 hy) (tF _ _ _)).1
theorem OG (hok:cQ l m n=true){i:Nat}(hi:i<m.length):(pN l (aN m i)).1≤(pN l (bN m i)).1:=by
 have h:eO (pN l (aN m i)) (pN l (bN m i))=true:=(lS hok hi).2;unfold eO at h;simp only [Bool.or_eq_true,Bool.and_eq_true,decide_eq_true_eq] at h;omega
theorem aJ1 (ho:a8 l m n=true):m.length≤1000:=by have:=(cZ (aZ ho)).2.2.2.2.1;omega
def cE (l:List Pt)(m:List Ed)(x:Int)(q:Nat):Nat:=(aK (iB l m x) q).toNat
theorem BB (ho:a8 l m n=true){x:Int}{q:Nat}(hq:q<(iB l m x).length):cE l m x q<m.length∧((cE l m x q:Nat):Int)=aK (iB l m x) q∧kZ (pN l) (aN m) (bN m) x (cE l m x q):=by
 have hmem:aK (iB l m x) q∈iB l m x:=(by rw [cX hq];exact List.getElem_mem hq);have hu:=(sH (aJ1 ho)).1 hmem;have h1:=hu.1;have h2:=hu.2.1;have e:((cE l m x q:Nat):Int)=aK (iB l m x) q:=(by unfold cE;omega);have hlt:cE l m x q<m.length:=(by omega);exact⟨hlt,e,(Y1 hlt).2 (by rw [e];exact hu)⟩
theorem VP (ho:a8 l m n=true){x:Int}{q r:Nat}(hqr:q<r)(hr:r<(iB l m x).length):N4 (pN l) (aN m) (bN m) x (cE l m x q) (cE l m x r):=by
 rw [aKu,(BB ho (by omega)).2.1,(BB ho hr).2.1,cX (by omega),cX hr];exact List.pairwise_iff_getElem.1 (aHq ho x) q r (by omega) hr hqr
theorem R8 (ho:a8 l m n=true){x:Int}{k:Nat}(hk:k<m.length)(hs:kZ (pN l) (aN m) (bN m) x k):∃ q,q<(iB l m x).length∧cE l m x q=k:=by
 have:=(sH (aJ1 ho)).2 ((Y1 hk).1 hs);obtain⟨q,hq,e⟩:=List.getElem_of_mem this;refine⟨q,hq,?_⟩;unfold cE;rw [cX hq,e,Int.toNat_natCast]
theorem AV {x:Int}{i k:Nat}(h1:N4 (pN l) (aN m) (bN m) x i k)(h2:N4 (pN l) (aN m) (bN m) x k i):False:=by
 unfold N4 at h1 h2;omega
theorem ON (ho:a8 l m n=true){x:Int}{q r:Nat}(hq:q<(iB l m x).length)(hr:r<(iB l m x).length):N4 (pN l) (aN m) (bN m) x (cE l m x q) (cE l m x r)↔q<r:=by
 constructor
 ·intro h;refine Nat.lt_of_not_le fun hle=>?_;by_cases e:q=r
  ·rw [e] at h;exact AV h h
  exact AV h (VP ho (by omega) hq)
 intro h;exact VP ho h hr
theorem aDk {P Q:Nat→Prop}[DecidablePred P][DecidablePred Q]{c:Nat→Int}{k N:Nat}(hk:k<N)(h:∀ i,i<N→(P i↔i=k∨Q i))(hq:¬ Q k):sN (fun i=>if P i then c i else 0) N=c k+sN (fun i=>if Q i then c i else 0) N:=by
 have:sN (fun i=>if P i then c i else 0) N=sN (fun i=>(if i=k then c k else 0)+(if Q i then c i else 0)) N:=bH fun i hi=>by
  by_cases e:i=k
  ·rw [if_pos ((h i hi).2 (.inl e)),if_pos e,if_neg (by rw [e];exact hq),e];omega
  by_cases g:Q i
  ·rw [if_pos ((h i hi).2 (.inr g)),if_neg e,if_pos g];omega
  rw [if_neg (fun x=>((h i hi).1 x).elim e g),if_neg e,if_neg g];rfl
 rw [this,GU,uK,if_pos hk]
theorem aHH (ho:a8 l m n=true)(c:Nat→Int){x:Int}{q:Nat}(hq:q+1=(iB l m x).length):upS (pN l) (aN m) (bN m) m.length c x (cE l m x q)=0:=by
 have:∀ i,i<m.length→(if kZ (pN l) (aN m) (bN m) x i∧N4 (pN l) (aN m) (bN m) x (cE l m x q) i then c i else 0)=0:=fun i hi=>if_neg fun h=>by
  obtain⟨r,hr,rfl⟩:=R8 ho hi h.1;have:=(ON ho (by omega) hr).1 h.2;omega
 unfold upS;rw [bH this,wL]
theorem V5 (ho:a8 l m n=true){c:Nat→Int}(hc:Cyc m c){x:Int}{i:Nat}(hi:i<m.length)(hs:kZ (pN l) (aN m) (bN m) x i):LL l m c (2*i) = -upS (pN l) (aN m) (bN m) m.length c x i∧LL l m c (2*i+1) = -upS (pN l) (aN m) (bN m) m.length c x i - c i:=by
 have h1:LL l m c (2*i)=_:=aKD (lE (oC ho)) (fun i hi=>OG (aZ ho) hi) hc hi hs;have h2:=X7 (oC ho) hc hi;exact⟨h1,by omega⟩
end
section
variable {l:List Pt}{m:List Ed}{n:Int}
theorem aHU (hok:cQ l m n=true){t:OP}(hlen:t.face.length=2*m.length∧t.seen.length=2*m.length)
  (h:∀ i,i<2*m.length→cV t.seen i=true→1≤aK t.face i→∃ u,u<2*m.length∧(∃ k,jI (aQ l m m.length) (outs l m) u k=(i:Nat))∧0<B8 l (aQ l m m.length) (j8 (aQ l m m.length) (outs l m) u) (j8 (aQ l m m.length) (outs l m) u).length) {d:Nat} (hd:d<2*m.length) :
  ∀ i,i<2*m.length→cV (iY l (aQ l m m.length) (outs l m) t d).seen i=true→1≤aK (iY l (aQ l m m.length) (outs l m) t d).face i→∃ u,u<2*m.length∧(∃ k,jI (aQ l m m.length) (outs l m) u k=(i:Nat))∧0<B8 l (aQ l m m.length) (j8 (aQ l m m.length) (outs l m) u) (j8 (aQ l m m.length) (outs l m) u).length:=by
 intro i hi;unfold iY;split
 ·exact h i hi
 simp only;have hin:=qE hok (d:=(d:Int)) (by omega) (by omega);have hr:∀ k,k<(j8 (aQ l m m.length) (outs l m) d).length→(aK (j8 (aQ l m m.length) (outs l m) d) k).toNat<2*m.length:=fun k hk=>by
  rw [mH] at hk;rw [xA hk];have:=hin k;omega
 have hF:=oL t.face (j8 (aQ l m m.length) (outs l m) d) (if 0<B8 l (aQ l m m.length) (j8 (aQ l m m.length) (outs l m) d) (j8 (aQ l m m.length) (outs l m) d).length then t.many+1 else 0) (fun k hk=>by rw [hlen.1];exact hr k hk) i _ (Nat.le_refl _);have hT:=oM t.seen (j8 (aQ l m m.length) (outs l m) d) (fun k hk=>by rw [hlen.2];exact hr k hk) i _ (Nat.le_refl _);by_cases hc:∃ k,k<(j8 (aQ l m m.length) (outs l m) d).length∧(aK (j8 (aQ l m m.length) (outs l m) d) k).toNat=i
 ·rw [hF.1 hc];intro _ h1;obtain⟨k,hk,e⟩:=hc;rw [mH] at hk;rw [xA hk] at e;have:=hin k;refine⟨d,hd,⟨k,by omega⟩,?_⟩;refine Int.not_le.1 fun hle=>?_;rw [if_neg (by omega)] at h1;omega
 rw [hF.2 hc,hT.2 hc];exact h i hi
theorem aEy (hok:cQ l m n=true):∀ d,d≤2*m.length→∀ i,i<2*m.length→cV (bW l (aQ l m m.length) (outs l m) d).seen i=true→1≤aK (bW l (aQ l m m.length) (outs l m) d).face i→∃ u,u<2*m.length∧(∃ k,jI (aQ l m m.length) (outs l m) u k=(i:Nat))∧0<B8 l (aQ l m m.length) (j8 (aQ l m m.length) (outs l m) u) (j8 (aQ l m m.length) (outs l m) u).length
 |0,_,i,hi=>fun h=>by
  unfold bW cV at h;rw [List.getD_eq_getElem?_getD,List.getElem?_replicate] at h;split at h <;> cases h
 |d+1,h,i,hi=>by
  have ha:=oR l (aQ l m m.length) (outs l m) d;rw [a9] at ha;exact aHU hok ⟨ha.1,ha.2.1⟩ (aEy hok d (by omega)) (by omega) i hi
theorem aF8 (ho:a8 l m n=true){u d:Nat}(hu:u<2*m.length)(hd:d<2*m.length):((d:Int)∈j8 (aQ l m m.length) (outs l m) u↔tQ l m d=tQ l m u):=by
 have hok:=aZ ho;have hw:=List.all_eq_true.1 (uR hok) u (List.mem_range.2 (by rw [a9];exact hu));have hT:jI (aQ l m m.length) (outs l m) u (gU (aQ l m m.length) (outs l m) u)=u:=of_decide_eq_true hw;have hT1:1≤gU (aQ l m m.length) (outs l m) u:=by
  have:=(gI (aQ l m m.length) (outs l m) u (aQ l m m.length).length 1).1;unfold gU;omega
 constructor
 ·intro hm;unfold j8 at hm;obtain⟨q,_,hq⟩:=List.mem_map.1 hm;have:=aBn hok hu q;exact ((FH ho hu hd).1 (.inr ⟨hu,q,by omega⟩)).symm
 intro hf;have hq:∃ q,jI (aQ l m m.length) (outs l m) u q=d:=by
  rcases (FH ho hu hd).2 hf.symm with e|⟨_,q,e⟩
  ·exact⟨0,by rw [e];rfl⟩
  have:=aBn hok hu q;exact⟨q,by omega⟩
 obtain⟨q,hq⟩:=hq;obtain⟨T,hTd⟩:∃ T,gU (aQ l m m.length) (outs l m) u=T:=⟨_,rfl⟩;rw [hTd] at hT hT1;have hmod:jI (aQ l m m.length) (outs l m) u (q % T)=d:=by
  have:∀ c,jI (aQ l m m.length) (outs l m) u (T*c+q % T)=jI (aQ l m m.length) (outs l m) u (q % T):=by
   intro c
   induction c with
   |zero=>rw [Nat.mul_zero,Nat.zero_add]
   |succ c ih =>
    rw [show T*(c+1)+q % T=T+(T*c+q % T) by rw [Nat.mul_succ];omega,← G5,hT];exact ih
  rw [← this (q / T),Nat.div_add_mod];exact hq
 have hlt:q % T<T:=Nat.mod_lt _ hT1;unfold j8;rw [hTd];exact List.mem_map.2 ⟨q % T,List.mem_range.2 hlt,hmod⟩
theorem aF1 (hok:cQ l m n=true){u:Nat}(hu:u<2*m.length):(j8 (aQ l m m.length) (outs l m) u).Nodup:=by
 unfold j8;refine List.pairwise_map.2 (List.Pairwise.imp_of_mem (R:=fun i k=>i<k) (fun {i j} hi hj hlt e=>?_) List.pairwise_lt_range);have hj:=List.mem_range.1 hj;have hlow:=(gI (aQ l m m.length) (outs l m) u (aQ l m m.length).length 1).2.2;obtain⟨t,rfl⟩:∃ t,j=i+t:=⟨j - i,by omega⟩;have:=FF hok (d:=(u:Int)) (by omega) (by omega) i t e;exact hlow t (by omega) (by unfold gU at hj;omega) this.symm
theorem SE {L:List Int}{N:Nat}{P:Nat→Prop}[DecidablePred P](w:Nat→Int)(hn:L.Nodup)(hm:∀ x,x∈L↔∃ d:Nat,x=d∧d<N∧P d):sN (fun j=>w (aK L j).toNat) L.length=sN (fun d=>if P d then w d else 0) N:=by
 have hin:∀ j,j<L.length→(aK L j).toNat<N∧P (aK L j).toNat∧0≤aK L j:=fun j hj=>by
  obtain⟨d,e,h1,h2⟩:=(hm (aK L j)).1 (by rw [cX hj];exact List.getElem_mem hj);rw [e,Int.toNat_natCast];exact⟨h1,h2,by omega⟩
 have e1:sN (fun j=>w (aK L j).toNat) L.length=sN (fun j=>sN (fun d=>if d=(aK L j).toNat then w d else 0) N) L.length:=bH fun j hj=>by
  have:(fun d=>if d=(aK L j).toNat then w d else 0)=fun d=>if d=(aK L j).toNat then w (aK L j).toNat else 0:=by
   funext d;by_cases e:d=(aK L j).toNat
   ·rw [if_pos e,if_pos e,e]
   rw [if_neg e,if_neg e]
  rw [this,uK,if_pos (hin j hj).1]
 rw [e1,z8 (fun j d=>if d=(aK L j).toNat then w d else 0) N L.length];refine bH fun d hd=>?_;by_cases hP:P d
 ·obtain⟨q,hq,e⟩:=List.getElem_of_mem ((hm (d:Int)).2 ⟨d,rfl,hd,hP⟩);have:sN (fun j=>if d=(aK L j).toNat then w d else 0) L.length=sN (fun j=>if j=q then w d else 0) L.length:=bH fun j hj=>by
   by_cases g:j=q
   ·rw [if_pos g,if_pos (by rw [g,cX hq,e];rfl)]
   rw [if_neg g,if_neg];intro g2;have h0:=(hin j hj).2.2;exact g (BM hn hj hq (by rw [cX hq,e];omega))
  rw [this,uK,if_pos hq,if_pos hP]
 rw [if_neg hP];have:sN (fun j=>if d=(aK L j).toNat then w d else 0) L.length=sN (fun _=>0) L.length:=bH fun j hj=>if_neg fun e=>hP (by rw [e];exact (hin j hj).2.1);rw [this,wL]
theorem XM (l:List Pt)(D:List Dt)(L:List Int):∀ k,B8 l D L k=sN (fun j=>M9 l D (aK L j)) k
 |0=>rfl
 |k+1=>by rw [B8,sN,XM l D L k]
theorem aDD (ho:a8 l m n=true){u:Nat}(hu:u<2*m.length):B8 l (aQ l m m.length) (j8 (aQ l m m.length) (outs l m) u) (j8 (aQ l m m.length) (outs l m) u).length=sN (fun i=>cF l m (tQ l m u) i*J7 (pN l (aN m i)) (pN l (bN m i))) m.length:=by
 have hok:=aZ ho;have hin:=qE hok (d:=(u:Int)) (by omega) (by omega);rw [XM];have e1:sN (fun j=>M9 l (aQ l m m.length) (aK (j8 (aQ l m m.length) (outs l m) u) j)) (j8 (aQ l m m.length) (outs l m) u).length=sN (fun j=>(fun d:Nat=>M9 l (aQ l m m.length) d) (aK (j8 (aQ l m m.length) (outs l m) u) j).toNat) (j8 (aQ l m m.length) (outs l m) u).length:=bH fun j hj=>by
  rw [mH] at hj;rw [xA hj];have:=hin j;simp only;rw [Int.toNat_of_nonneg this.1]
 rw [e1,SE (N:=2*m.length) (P:=fun d=>tQ l m d=tQ l m u) (fun d:Nat=>M9 l (aQ l m m.length) d) (aF1 hok hu) fun x=>?_,HJ]
 ·refine bH fun i hi=>?_;have d0:=(kR (l:=l) (m:=m) (N:=m.length) (i:=2*i) (by omega)).resolve_right (by omega);have d1:=(kR (l:=l) (m:=m) (N:=m.length) (i:=2*i+1) (by omega)).resolve_left (by omega);have c0:M9 l (aQ l m m.length) ((2*i:Nat):Int)=J7 (pN l (aN m i)) (pN l (bN m i)):=by
   unfold M9;rw [Int.toNat_natCast,d0.2,show 2*i / 2=i by omega];rfl
  have c1:M9 l (aQ l m m.length) ((2*i+1:Nat):Int) = -J7 (pN l (aN m i)) (pN l (bN m i)):=by
   unfold M9;rw [Int.toNat_natCast,d1.2,show (2*i+1) / 2=i by omega];show J7 (pN l (bN m i)) (pN l (aN m i))=_;unfold J7;omega
  rw [c0,c1];unfold cF;by_cases g1:tQ l m (2*i)=tQ l m u <;> by_cases g2:tQ l m (2*i+1)=tQ l m u <;> simp only [g1,g2,if_true,if_false] <;> grind
 constructor
 ·intro hx;unfold j8 at hx;obtain⟨q,hq,e⟩:=List.mem_map.1 hx;have:=hin q;refine⟨x.toNat,by omega,by omega,?_⟩;refine (aF8 ho hu (by omega)).1 ?_;rw [Int.toNat_of_nonneg (by omega)];exact hx
 rintro ⟨d,rfl,hd,e⟩;exact (aF8 ho hu hd).2 e
theorem aFs (ho:a8 l m n=true){f:Int}(h0:1≤f)(h1:f≤n):0<sN (fun i=>cF l m f i*J7 (pN l (aN m i)) (pN l (bN m i))) m.length:=by
 have hok:=aZ ho;obtain⟨k,k1,k2,k3,_⟩:=uI ho (f:=f) (by omega) h1;have e:bW l (aQ l m m.length) (outs l m) (2*m.length)=c8 l m:=(by unfold c8 nmD;rw [a9]);have hsn:=(AF (oC ho) (2*m.length) (Nat.le_refl _)).2;have h:=aEy hok (2*m.length) (Nat.le_refl _) k k1 (hsn k k1);rw [e,k2] at h;obtain⟨u,u1,⟨q,u2⟩,u3⟩:=h h0;have hw:=aBn hok u1 q;have hf:=(FH ho u1 k1).1 (.inr ⟨u1,q,by omega⟩);rw [aDD ho u1,hf] at u3;unfold tQ at u3;rw [k2] at u3;exact u3
theorem aKs (ho:a8 l m n=true)(f:Int){d:Nat}(hd:d<2*m.length):LL l m (cF l m f) d=(if tQ l m d=f then 1 else 0) - (if f=0 then 1 else 0):=by
 have hok:=aZ ho;have hn1:=aN6 ho;have hle:=fun i (hi:i<m.length)=>OG hok hi;have hrg:=fun i (hi:i<m.length)=>by
  have h1:=qV hok hi;have h2:=mD hok (i:=(bO m i).a.toNat) (by omega);have h3:=mD hok (i:=(bO m i).b.toNat) (by omega);exact And.intro h2 h3
 have neg:∀ f:Int,1≤f→f≤n→(∀ (x:Int) i,i<m.length→kZ (pN l) (aN m) (bN m) x i→0≤upS (pN l) (aN m) (bN m) m.length (cF l m f) x i)→False:=fun f h1 h2 hup=>by
  have hp:=aFs ho h1 h2;have hq:=aH3 (p:=pN l) (a:=aN m) (b:=bN m) (c:=cF l m f) hle (fun i hi=>⟨(hrg i hi).1.2.2.1,(hrg i hi).2.2.2.1⟩) (fun i hi=>(hrg i hi).1.1) (GQ ho f) hup;omega
 -- some column is not empty
 obtain⟨x,i0,hi0,hs0⟩:∃ (x:Int) (i:Nat),i<m.length∧kZ (pN l) (aN m) (bN m) x i:=by
  refine Classical.byContradiction fun hno=>?_;exact neg 1 (by omega) hn1.1 fun x i hi hs=>absurd ⟨x,i,hi,hs⟩ hno
 obtain⟨q0,hq0,_⟩:=R8 ho hi0 hs0;obtain⟨q,hq⟩:∃ q,q+1=(iB l m x).length:=⟨(iB l m x).length - 1,by omega⟩;have hE:=BB ho (x:=x) (q:=q) (by omega);have hk:∀ f,∀ d,d<2*m.length→LL l m (cF l m f) d=(if tQ l m d=f then 1 else 0) - (if tQ l m (2*cE l m x q)=f then 1 else 0):=fun f d hd=>by
  obtain⟨k,hk⟩:=aHQ ho f;have h1:=hk (2*cE l m x q) (by omega);rw [(V5 ho (GQ ho f) hE.1 hE.2.2).1,aHH ho _ hq] at h1;rw [hk d hd];omega
 have hO:tQ l m (2*cE l m x q)=0:=by
  refine Classical.byContradiction fun hne=>?_;have hr:=JU ho (i:=2*cE l m x q) (by omega);have hr:0≤tQ l m (2*cE l m x q)∧tQ l m (2*cE l m x q)≤n:=hr;refine neg (tQ l m (2*cE l m x q)) (by omega) hr.2 fun y i hi hs=>?_;have h1:=hk (tQ l m (2*cE l m x q)) (2*i) (by omega);rw [(V5 ho (GQ ho _) hi hs).1,if_pos rfl] at h1;split at h1 <;> omega
 rw [hk f d hd,hO];congr 1;by_cases e:f=0
 ·rw [if_pos e,if_pos e.symm]
 rw [if_neg e,if_neg (fun g=>e g.symm)]
end
theorem aLs {a b P:Pq}(h:nW P (a,b)=false):V0 1 P (a,b):=fun ⟨M,hM,α,β,h1,h2,h3,h4,h5⟩=>by
 rw [Int.mul_one] at h3;simp only at h4 h5;have key:∀ {x u v:Int},M*x=α*u+β*v→(if v<u then v else u)≤x∧x≤(if u<v then v else u):=fun {x u v} e=>by
  have r:∀ {y z:Int},M*y≤M*z→y≤z:=fun h=>Int.le_of_mul_le_mul_left h hM;by_cases g:v<u
  ·rw [if_pos g,if_neg (by omega)];have p1:=Int.mul_nonneg h1 (show 0≤u - v by omega);have p2:=Int.mul_nonneg h2 (show 0≤u - v by omega);constructor
   ·refine r ?_;rw [e,← h3];grind
   refine r ?_;rw [e,← h3];grind
  rw [if_neg g];have p1:=Int.mul_nonneg h1 (show 0≤v - u by omega);have p2:=Int.mul_nonneg h2 (show 0≤v - u by omega);have e2:(if u<v then v else u)=v:=(by split <;> omega);rw [e2];constructor
  ·refine r ?_;rw [e,← h3];grind
  refine r ?_;rw [e,← h3];grind
 have hc:M*aP a b P=0:=by
  have:M*aP a b P=(b.1 - a.1)*(M*P.2 - M*a.2) - (b.2 - a.2)*(M*P.1 - M*a.1):=(by unfold aP;grind);rw [this,h4,h5,← h3];grind
 have hc0:aP a b P=0:=by
  rcases Int.mul_eq_zero.1 hc with e|e
  ·omega
  exact e
 have:nW P (a,b)=true:=by
  have k1:=key h4;have k2:=key h5;simp only [nW,TT,Bool.and_eq_true,decide_eq_true_eq];exact⟨⟨k1,k2⟩,(lU _ _ _).2 hc0⟩
 rw [h] at this;cases this
section
variable {l:List Pt}{m:List Ed}{n:Int}{P:Pt}
def AT (l:List Pt)(m:List Ed)(P:Pt)(i:Nat):Int:=aP (aS l m i).1 (aS l m i).2 P
theorem aCL (i:Nat):AT l m P i=aP (pN l (aN m i)) (pN l (bN m i)) P:=rfl
def EV (l:List Pt)(m:List Ed)(P:Pt):Prop:=∀ i,i<m.length→nW P (aS l m i)=false
theorem aNY (hoff:EV l m P){i:Nat}(hi:i<m.length)(hs1:(aS l m i).1.1≤P.1)(hs2:P.1≤(aS l m i).2.1)(hs3:(aS l m i).1.1<(aS l m i).2.1):AT l m P i≠0:=fun h0=>by
 have hf:=hoff i hi;unfold AT at h0;have ht:=(lU (aS l m i).1 (aS l m i).2 P).2 h0;generalize aS l m i=s at *;obtain⟨⟨a1,a2⟩,⟨b1,b2⟩⟩:=s;obtain⟨p1,p2⟩:=P;simp only at hs1 hs2 hs3;unfold aP at h0;simp only at h0;have hy:(if b2<a2 then b2 else a2)≤p2∧p2≤(if a2<b2 then b2 else a2):=by
  have r:∀ {y z:Int},(b1 - a1)*y≤(b1 - a1)*z→y≤z:=fun h=>Int.le_of_mul_le_mul_left h (by omega);by_cases g:b2<a2
  ·rw [if_pos g,if_neg (by omega)];have q1:=Int.mul_nonneg (show 0≤a2 - b2 by omega) (show 0≤p1 - a1 by omega);have q2:=Int.mul_nonneg (show 0≤a2 - b2 by omega) (show 0≤b1 - p1 by omega);constructor
   ·refine r ?_
    grind
   refine r ?_
   grind
  rw [if_neg g];have q1:=Int.mul_nonneg (show 0≤b2 - a2 by omega) (show 0≤p1 - a1 by omega);have q2:=Int.mul_nonneg (show 0≤b2 - a2 by omega) (show 0≤b1 - p1 by omega);have e2:(if a2<b2 then b2 else a2)=b2:=(by split <;> omega);rw [e2];constructor
  ·refine r ?_
   grind
  refine r ?_
  grind
 have:nW (p1,p2) ((a1,a2),(b1,b2))=true:=by
  simp only [nW,TT,Bool.and_eq_true,decide_eq_true_eq];refine⟨⟨⟨?_,?_⟩,hy⟩,ht⟩ <;> split <;> omega
 rw [hf] at this;cases this
theorem aJ0 (hoff:EV l m P){x:Int}(hx:P.1=x∨P.1=x+1){i:Nat}(hi:i<m.length)(hs:kZ (pN l) (aN m) (bN m) x i):AT l m P i≠0:=by
 have h1:(aS l m i).1.1≤x:=hs.1;have h2:x<(aS l m i).2.1:=hs.2;exact aNY hoff hi (by omega) (by omega) (by omega)
theorem aIs (i:Nat):hN (pN l) (aN m) (bN m) (2*P.1) i=2*(fK (pN l) (aN m) (bN m) i*P.2 - AT l m P i):=by
 rw [aCL];unfold hN aP fK
 grind
theorem aOb (ho:a8 l m n=true)(hoff:EV l m P){x:Int}(hx:P.1=x∨P.1=x+1){q r:Nat}(hqr:q<r)(hr:r<(iB l m x).length)(h:AT l m P (cE l m x q)<0):AT l m P (cE l m x r)<0:=by
 refine Int.not_le.1 fun hle=>?_;have hq1:=BB ho (x:=x) (q:=q) (by omega);have hr1:=BB ho hr;have h0:=aJ0 hoff hx hr1.1 hr1.2.2;have hab:=VP ho hqr hr;have dq:0<fK (pN l) (aN m) (bN m) (cE l m x q):=(by have:=hq1.2.2.1;have:=hq1.2.2.2;unfold fK;omega);have dr:0<fK (pN l) (aN m) (bN m) (cE l m x r):=(by have:=hr1.2.2.1;have:=hr1.2.2.2;unfold fK;omega);have hne:cE l m x r≠cE l m x q:=fun e=>(by rw [e] at hab;exact AV hab hab);have:=aHK ((lE (oC ho)).ok _ _ hr1.1 hq1.1 hne) hr1.2.2 hq1.2.2 (t:=2*P.1) (by omega) (by
  rw [aIs,aIs];have k1:=Int.mul_pos (show 0<AT l m P (cE l m x r) by omega) dq;have k2:=Int.mul_pos (show 0 < -AT l m P (cE l m x q) by omega) dr
  grind)
 unfold N4 at hab;have e:∀ u v:Int,u*(2*v)=2*(u*v):=fun u v=>(by grind);rw [e,e] at hab;omega
def upn (l:List Pt)(m:List Ed)(x:Int)(P:Pt)(c:Nat→Int):Int:=sN (fun k=>if kZ (pN l) (aN m) (bN m) x k∧AT l m P k<0 then c k else 0) m.length
theorem aGJ (ho:a8 l m n=true)(hoff:EV l m P){c:Nat→Int}(hc:Cyc m c){x:Int}(hx:P.1=x∨P.1=x+1){q:Nat}(hq:q<(iB l m x).length)(hn:AT l m P (cE l m x q)<0)(hlow:∀ r,r<q→¬ AT l m P (cE l m x r)<0) : -upn l m x P c=LL l m c (2*cE l m x q+1):=by
 have hE:=BB ho hq;rw [(V5 ho hc hE.1 hE.2.2).2];have hs:upn l m x P c=c (cE l m x q)+upS (pN l) (aN m) (bN m) m.length c x (cE l m x q):=by
  refine aDk hE.1 (fun i hi=>?_) fun h=>AV h.2 h.2;constructor
  ·rintro ⟨s1,s2⟩;obtain⟨r,hr,rfl⟩:=R8 ho hi s1;rcases Nat.lt_trichotomy r q with g|g|g
   ·exact absurd s2 (hlow r g)
   ·exact .inl (by rw [g])
   exact .inr ⟨s1,(ON ho hq hr).2 g⟩
  rintro (rfl|⟨s1,s2⟩)
  ·exact⟨hE.2.2,hn⟩
  obtain⟨r,hr,rfl⟩:=R8 ho hi s1;have:=(ON ho hq hr).1 s2;exact⟨s1,aOb ho hoff hx this hr hn⟩
 omega
theorem aDt (ho:a8 l m n=true){c:Nat→Int}{x:Int}(hlow:∀ r,r<(iB l m x).length→¬ AT l m P (cE l m x r)<0):upn l m x P c=0:=by
 have:∀ i,i<m.length→(if kZ (pN l) (aN m) (bN m) x i∧AT l m P i<0 then c i else 0)=0:=fun i hi=>if_neg fun ⟨s1,s2⟩=>by
  obtain⟨r,hr,rfl⟩:=R8 ho hi s1;exact hlow r hr s2
 unfold upn;rw [bH this,wL]
def wnd (l:List Pt)(m:List Ed)(P:Pt)(c:Nat→Int):Int:=sN (fun k=>c k*wn (1,0) 1 P (sJ (pN l) (aN m) (bN m) k)) m.length
theorem aJh (hoff:EV l m P)(i:Nat)(hi:i<m.length):V0 1 P (sJ (pN l) (aN m) (bN m) i):=aLs (hoff i hi)
theorem aMP (ho:a8 l m n=true)(hoff:EV l m P){c:Nat→Int}(hc:Cyc m c):wnd l m P c = -upn l m P.1 P c:=by
 have hle:=fun i (hi:i<m.length)=>OG (aZ ho) hi;have h2:=aLw (lE (oC ho)) hle hc (P:=P) (aJh hoff);have hz:=Q0 (p:=pN l) hc hle P.1;have ha:sN (fun k=>if kZ (pN l) (aN m) (bN m) P.1 k then c k else 0) m.length=sN (fun k=>if kZ (pN l) (aN m) (bN m) P.1 k∧0<aP (pN l (aN m k)) (pN l (bN m k)) P then c k else 0) m.length+upn l m P.1 P c:=by
  unfold upn;rw [← GU];exact bH fun i hi=>by
   by_cases g1:kZ (pN l) (aN m) (bN m) P.1 i
   ·have h0:=aJ0 hoff (.inl rfl) hi g1;rw [aCL] at h0 ⊢;by_cases g2:0<aP (pN l (aN m i)) (pN l (bN m i)) P
    ·rw [if_pos g1,if_pos ⟨g1,g2⟩,if_neg (fun h=>by have:=h.2;omega)];omega
    rw [if_pos g1,if_neg (fun h=>g2 h.2),if_pos ⟨g1,by omega⟩];omega
   rw [if_neg g1,if_neg (fun h=>g1 h.1),if_neg (fun h=>g1 h.1)];rfl
 unfold wnd;rw [← h2];omega
theorem aJX {x:Int}(hx:P.1=x+1){k:Nat}(hk:(pN l (aN m k)).1≤(pN l (bN m k)).1):wn (0,1) 1 P (sJ (pN l) (aN m) (bN m) k) = -(if kZ (pN l) (aN m) (bN m) x k∧AT l m P k<0 then 1 else 0):=by
 rw [aCL];unfold wn sJ;simp only;have eA:∀ z:Pq,bU (0,1) (vec 1 P z)=P.1 - z.1:=fun z=>(by unfold bU vec;simp only;omega);have eC:bU (vec 1 P (pN l (aN m k))) (vec 1 P (pN l (bN m k)))=aP (pN l (aN m k)) (pN l (bN m k)) P:=(by unfold bU vec aP;simp only;grind);rw [eA,eA,eC];unfold rI kZ;rw [if_neg (by omega)];by_cases g:(pN l (aN m k)).1≤x∧x<(pN l (bN m k)).1
 ·rw [if_pos (by omega)];by_cases g2:aP (pN l (aN m k)) (pN l (bN m k)) P<0
  ·rw [if_pos g2,if_pos ⟨g,g2⟩]
  rw [if_neg g2,if_neg (fun h=>g2 h.2)];rfl
 rw [if_neg (by omega),if_neg (fun h=>g h.1)];rfl
theorem aNb (ho:a8 l m n=true)(hoff:EV l m P){c:Nat→Int}(hc:Cyc m c){x:Int}(hx:P.1=x+1):wnd l m P c = -upn l m x P c:=by
 have hM:=lE (oC ho);have hC:=wI (p:=pN l) hM.dist hc;have:=XD hC (N:=1) (by decide) (p:=P) (U:=(1,0)) (U':=(0,1)) (by decide) fun e he=>by
  obtain⟨i,hi,rfl⟩:=List.mem_map.1 he;exact aJh hoff i (List.mem_range.1 hi)
 rw [IX hM.dist,IX hM.dist] at this;unfold wnd;rw [this];unfold upn;rw [← UT];exact bH fun k hk=>by
  rw [aJX hx (OG (aZ ho) hk)];by_cases g:kZ (pN l) (aN m) (bN m) x k∧AT l m P k<0
  ·rw [if_pos g,if_pos g];omega
  rw [if_neg g,if_neg g];omega
theorem aIG (ho:a8 l m n=true)(hoff:EV l m P){c:Nat→Int}(hc:Cyc m c){x:Int}(hx:P.1=x∨P.1=x+1):wnd l m P c = -upn l m x P c:=by
 rcases hx with rfl|hx
 ·exact aMP ho hoff hc
 exact aNb ho hoff hc hx
theorem QS (l:List Pt)(m:List Ed)(x:Int)(P:Pt):(∃ q,q<(iB l m x).length∧AT l m P (cE l m x q)<0∧∀ r,r<q→¬ AT l m P (cE l m x r)<0)∨(∀ r,r<(iB l m x).length→¬ AT l m P (cE l m x r)<0):=by
 have key:∀ k,(∃ q,q<k∧AT l m P (cE l m x q)<0∧∀ r,r<q→¬ AT l m P (cE l m x r)<0)∨(∀ r,r<k→¬ AT l m P (cE l m x r)<0):=fun k=>by
  induction k with
  |zero=>exact .inr fun r h=>by omega
  |succ k ih =>
   rcases ih with ⟨q,h1,h2,h3⟩|ih
   ·exact .inl ⟨q,by omega,h2,h3⟩
   by_cases g:AT l m P (cE l m x k)<0
   ·exact .inl ⟨k,by omega,g,ih⟩
   exact .inr fun r hr=>by
    by_cases e:r=k
    ·rw [e];exact g
    exact ih r (by omega)
 exact key _
theorem aCZ (ho:a8 l m n=true)(hoff:EV l m P){x:Int}(hx:P.1=x∨P.1=x+1)(f:Int):(∀ q,q<(iB l m x).length→AT l m P (cE l m x q)<0→(∀ r,r<q→¬ AT l m P (cE l m x r)<0)→wnd l m P (cF l m f)=(if tQ l m (2*cE l m x q+1)=f then 1 else 0) - (if f=0 then 1 else 0))∧((∀ r,r<(iB l m x).length→¬ AT l m P (cE l m x r)<0)→wnd l m P (cF l m f)=0):=by
 have hc:=GQ ho f;constructor
 ·intro q h1 h2 h3;have hE:=BB ho h1;rw [aIG ho hoff hc hx,aGJ ho hoff hc hx h1 h2 h3,aKs ho f (by omega)]
 intro h;rw [aIG ho hoff hc hx,aDt ho h];rfl
end
end Go.Aw
end
