/-
  Parts of a proof. No condition.
-/
import Derived.Test.YtjahkcbdecgbhaaGreatQAi
import Derived.Test.YtjahkcbdecgbhaaGreatQAy
set_option linter.unusedSimpArgs false
set_option linter.unusedVariables false
noncomputable section
namespace Go.Aw
set_option maxRecDepth 100000
set_option maxHeartbeats 2000000
def pL (D:List Dt)(n:Nat):Nat→List Int→Nat→List Int × Nat
 |0,L,a=>(L,a)
 |k+1,L,a=>if a+20≤n then pL D n k (j8 D a L (a+20 - 1 - a)) (a+20) else (L,a)
def sQ (D:List Dt)(f n bs:Nat):Nat→List Int→Nat→List Int × Nat
 |0,L,a=>(L,a)
 |k+1,L,a=>if a+2*bs≤n then sQ D f n bs k (aZ D f L a (a+bs) (a+2*bs)) (a+2*bs) else (L,a)
def xV (D:List Dt)(f n bs:Nat)(r:List Int × Nat):List Int:=if r.2+bs<n then aZ D f r.1 r.2 (r.2+bs) n else r.1
def FC (D:List Dt)(f n:Nat):Nat→List Int→Nat→List Int
 |0,L,_=>L
 |k+1,L,bs=>if bs<n then FC D f n k (xV D f n bs (sQ D f n bs (n+1) L 0)) (bs*2) else L
def sP (D:List Dt)(f:Nat)(L:List Int):List Int :=
 FC D f L.length (L.length+1) (j8 D (pL D L.length (L.length+1) L 0).2 (pL D L.length (L.length+1) L 0).1 (L.length - 1 - (pL D L.length (L.length+1) L 0).2)) 20
theorem NQ (D:List Dt)(a:Nat)(L:List Int)(t:Nat)(h:a+t<L.length):Sw L (j8 D a L t):=by
 have key:∀ (j:Nat) (L:List Int),j<L.length→Sw L (wQ D a L j):=by
  intro j
  induction j with
  |zero=>exact fun L _=>.refl L
  |succ j ih =>
   intro L hj;unfold wQ;split
   ·exact (Sw.step (j+1) j (.refl L) hj (by omega)).trans (ih _ (by rw [iU];omega))
   exact .refl L
 induction t with
 |zero=>exact .refl L
 |succ t ih =>
  have h1:=ih (by omega);exact h1.trans (key _ _ (by rw [h1.len];omega))
theorem PV (D:List Dt)(a b:Nat)(L:List Int)(h:b≤L.length)(hab:a≤b):Sw L (j8 D a L (b - 1 - a)):=by
 by_cases h0:b - 1 - a=0
 ·rw [h0];exact .refl L
 exact NQ _ _ _ _ (by omega)
def aEZ (n:Nat)(D:List Dt)(l:List Int)(r:List Value)(c:Nat):Option (Bool × List Int):=match r with
 |[.int .i64 a]=>some (decide (a=l.length)&&decide (l.length≤n)&&decide (l.length≤1000000)&&fI D l&&fV D,sP D n l)
 |_=>none
theorem aBq {n:Nat}{D:List Dt}{l:List Int}{r:List Value}{c:Nat}{l':List Int}(h:aEZ n D l r c=some (true,l')):∃ a:Int,r=[iv a]∧a=l.length∧l.length≤n∧l.length≤1000000∧fI D l=true∧fV D=true∧l'=sP D n l:=by
 unfold aEZ at h;split at h
 ·rename_i a;injection h with h;injection h with h1 h2;simp only [Bool.and_eq_true,decide_eq_true_eq] at h1;exact⟨a,rfl,h1.1.1.1.1,h1.1.1.1.2,h1.1.1.2,h1.1.2,h1.2,h2.symm⟩
 ·cases h
def KK (N c:Nat)(n a b:Int)(p:Nat):List (Nat × Value):=[(0,.slice (some ⟨0,0,none⟩) N c),(2,mQ p),(1,iv n),(6,iv 20),(7,iv a),(8,iv b)]
def CJ (N c:Nat)(n s:Int)(p:Nat):List (Nat × Value):=[(0,.slice (some ⟨0,0,none⟩) N c),(2,mQ p),(1,iv n),(6,iv s)]
def KB (N c:Nat)(n s a b:Int)(p:Nat):List (Nat × Value):=[(0,.slice (some ⟨0,0,none⟩) N c),(2,mQ p),(1,iv n),(6,iv s),(7,iv a),(8,iv b)]
theorem aJO (n:Nat):cT Go.Proofs.Tryz.prog 244 (RP (aEZ n)):=u6 (aL (xl:=[(266,RP (aAV n)),aAu]) (.cons (aFU n) (.cons aKc .nil))) fun D l r c l' hs=>by
 obtain⟨w,rfl,hw,hn,hl,hin,hW,rfl⟩:=aBq hs;clear hs;refine⟨rfl,fun F nx p hF hC hD=>?_⟩;have hp:=AP hF hD;(conv=>whnf);refine⟨fun q e h nx'=>∃ (a k:Nat) (x y:Int) (L:List Int),x=a∧y=a+20∧(a≤l.length)∧l.length+1 - a≤k∧q=l.length+1 - a∧Sw l L∧pL D l.length (l.length+1) l 0=pL D l.length k L a∧e=KK l.length c w x y p∧h=(0,.cells true false 1 (flat aP.fl L))::F∧nx'=nx,⟨l.length+1 - 0,?_⟩,?_⟩
 ·refine bM (e0:=KK l.length c w 0 20 p) (o0:=.cells true false 1 (flat aP.fl l)) (n0:=nx) hF ⟨0,l.length+1,0,20,l,rfl,rfl,Nat.zero_le _,by omega,rfl,.refl l,rfl,rfl,rfl,rfl⟩ ?_ (aN (aH _ _)) (Nat.le_refl _);unfold KK;refine List.forall_mem_cons.2 ⟨cW hF.1 rfl,List.forall_mem_cons.2 ⟨dQ hp rfl,?_⟩⟩;((repeat' refine iE rfl rfl ?_);exact iN)
 rintro q e h nx' ⟨a,k,x,y,L,hx,hy,ha,hk,rfl,sw,hins,rfl,rfl,rfl⟩;unfold KK;((conv=>whnf);apply bm<;>intro h1)
 ·have h1:a+20≤l.length:=(by simp [aA,aC] at h1;omega);obtain⟨k',rfl⟩:∃ k',k=k'+1:=⟨k - 1,by omega⟩;rw [pL.eq_2 D l.length L a k',if_pos h1] at hins;(conv=>whnf);refine⟨0,c,[iv x,iv y],p,L,D,by rw [sw.len];rfl,rfl,aY hC,bC hF hD,?_⟩;((conv=>whnf);apply bm<;>intro t)
  ·((conv=>whnf);apply bm<;>intro t2)
   ·(conv=>whnf);refine⟨l.length+1 - (a+20),by omega,?_⟩;have hv:j8 D x.toNat L (y - 1 - x).toNat=j8 D a L (a+20 - 1 - a):=(by rw [show x.toNat=a by omega,show (y - 1 - x).toNat=a+20 - 1 - a by omega]);refine bM (e0:=KK l.length c w y (y+20) p) (o0:=.cells true false 1 (flat aP.fl (j8 D a L (a+20 - 1 - a)))) (n0:=nx') hF ⟨a+20,k',_,_,_,by omega,by omega,by omega,by omega,rfl,sw.trans (PV D a (a+20) L (by rw [sw.len];omega) (by omega)),hins,rfl,rfl,rfl⟩ ?_ (aU (aH _ _) (by rw [← hv])) (Nat.le_refl _);unfold KK;refine List.forall_mem_cons.2 ⟨cW hF.1 rfl,List.forall_mem_cons.2 ⟨dQ hp rfl,?_⟩⟩;((repeat' refine iE rfl rfl ?_);exact iN)
   exfalso;simp [aA,aC,aF] at t2;omega
  exfalso;have t:(decide (0≤x)&&decide (x≤y)&&decide (y≤L.length)&&decide (L.length≤1000000)&&fI D L&&fV D)=false:=t;rw [hW,sw.fI hin,sw.len] at t;simp at t;omega
 have h1:¬ a+20≤l.length:=(by simp [aA,aC] at h1;omega);obtain⟨k',rfl⟩:∃ k',k=k'+1:=⟨k - 1,by omega⟩;rw [pL.eq_2 D l.length L a k',if_neg h1] at hins;(conv=>whnf);refine⟨0,c,[iv x,iv w],p,L,D,by rw [sw.len];rfl,rfl,aY hC,bC hF hD,?_⟩;((conv=>whnf);apply bm<;>intro t);rotate_left
 ·exfalso;have t:(decide (0≤x)&&decide (x≤w)&&decide (w≤L.length)&&decide (L.length≤1000000)&&fI D L&&fV D)=false:=t;rw [hW,sw.fI hin,sw.len] at t;simp at t;omega
 have hv:j8 D x.toNat L (w - 1 - x).toNat=j8 D (pL D l.length (l.length+1) l 0).2 (pL D l.length (l.length+1) l 0).1 (l.length - 1 - (pL D l.length (l.length+1) l 0).2):=by
  rw [hins,show x.toNat=a by omega,show (w - 1 - x).toNat=l.length - 1 - a by omega]
 have sw1:Sw l (j8 D x.toNat L (w - 1 - x).toNat):=by
  rw [show x.toNat=a by omega,show (w - 1 - x).toNat=l.length - 1 - a by omega];exact sw.trans (PV D a l.length L (by rw [sw.len];omega) (by omega))
 clear hins;generalize IP:j8 D x.toNat L (w - 1 - x).toNat=L1 at hv sw1;(conv=>whnf);refine⟨fun q e h nx''=>∃ (s k:Nat) (z:Int) (M:List Int),z=s∧1≤s∧s≤2000000∧l.length+1 - s≤k∧q=l.length+1 - s∧Sw l M∧sP D n l=FC D n l.length k M s∧e=CJ l.length c w z p∧h=(0,.cells true false 1 (flat aP.fl M))::F∧nx''=nx',⟨l.length+1 - 20,?_⟩,?_⟩
 ·refine bM (e0:=CJ l.length c w 20 p) (o0:=.cells true false 1 (flat aP.fl L1)) (n0:=nx') hF ⟨20,l.length+1,20,L1,rfl,by omega,by omega,by omega,rfl,sw1,by rw [hv];rfl,rfl,rfl,rfl⟩ ?_ (aU (aH _ _) (by rw [← IP])) (Nat.le_refl _);unfold CJ;refine List.forall_mem_cons.2 ⟨cW hF.1 rfl,List.forall_mem_cons.2 ⟨dQ hp rfl,?_⟩⟩;((repeat' refine iE rfl rfl ?_);exact iN)
 rintro q e h nx'' ⟨s,k2,z,M,hz,hs1,hs2,hk2,rfl,swM,hst,rfl,rfl,rfl⟩;clear hv IP sw1 hk ha sw hy hx h1;unfold CJ;((conv=>whnf);apply bm<;>intro h2);rotate_left
 ·have h2:¬ s<l.length:=(by simp [aA,aC] at h2;omega);(conv=>whnf);refine⟨rfl,?_⟩;have hM:sP D n l=M:=by
   rw [hst];cases k2 with
   |zero=>rfl
   |succ k2=>rw [FC.eq_2,if_neg h2]
  rw [hM]
 have h2:s<l.length:=(by simp [aA,aC] at h2;omega);obtain⟨k3,rfl⟩:∃ k3,k2=k3+1:=⟨k2 - 1,by omega⟩;rw [FC.eq_2 D n l.length M s k3,if_pos h2] at hst;((conv=>whnf);apply bm<;>intro h3);rotate_left
 ·exfalso;simp [aA,aC,aF] at h3;omega
 (conv=>whnf);refine⟨fun q e h nx'''=>∃ (a k:Nat) (x y:Int) (L:List Int),x=a∧y=a+2*s∧(a≤l.length)∧l.length+1 - a≤k∧q=l.length+1 - a∧Sw l L∧sQ D n l.length s (l.length+1) M 0=sQ D n l.length s k L a∧e=KB l.length c w z x y p∧h=(0,.cells true false 1 (flat aP.fl L))::F∧nx'''=nx'',⟨l.length+1 - 0,?_⟩,?_⟩
 ·refine bM (e0:=KB l.length c w z 0 (2*z) p) (o0:=.cells true false 1 (flat aP.fl M)) (n0:=nx'') hF ⟨0,l.length+1,0,_,M,rfl,by omega,Nat.zero_le _,by omega,rfl,swM,rfl,rfl,rfl,rfl⟩ ?_ (aN (aH _ _)) (Nat.le_refl _);unfold KB;refine List.forall_mem_cons.2 ⟨cW hF.1 rfl,List.forall_mem_cons.2 ⟨dQ hp rfl,?_⟩⟩;((repeat' refine iE rfl rfl ?_);exact iN)
 rintro q e h nx''' ⟨a,k,x,y,L,hx,hy,ha,hk,rfl,sw,hmr,rfl,rfl,rfl⟩;unfold KB;obtain⟨k',rfl⟩:∃ k',k=k'+1:=⟨k - 1,by omega⟩;((conv=>whnf);apply bm<;>intro h4)
 ·have h4:a+2*s≤l.length:=(by simp [aA,aC] at h4;omega);rw [sQ.eq_2 D n l.length s L a k',if_pos h4] at hmr;((conv=>whnf);apply bm<;>intro h5)
  ·(conv=>whnf);refine⟨0,c,[iv x,iv (x+z),iv y],p,L,D,by rw [sw.len];rfl,rfl,aY hC,bC hF hD,?_⟩;((conv=>whnf);apply bm<;>intro t3)
   ·((conv=>whnf);apply bm<;>intro t4)
    ·((conv=>whnf);apply bm<;>intro t5)
     ·(conv=>whnf);refine⟨l.length+1 - (a+2*s),by omega,?_⟩;have hv:aZ D n L x.toNat (x+z).toNat y.toNat=aZ D n L a (a+s) (a+2*s):=(by rw [show x.toNat=a by omega,show (x+z).toNat=a+s by omega,show y.toNat=a+2*s by omega]);refine bM (e0:=KB l.length c w z y (y+2*z) p) (o0:=.cells true false 1 (flat aP.fl (aZ D n L a (a+s) (a+2*s)))) (n0:=nx''') hF ⟨a+2*s,k',_,_,_,by omega,by omega,by omega,by omega,rfl,sw.trans (mH D n _ _ _ _ (by omega) (by omega) (by rw [sw.len];omega)),hmr,rfl,rfl,rfl⟩ ?_ (aU (aH _ _) (by rw [← hv])) (Nat.le_refl _);unfold KB;refine List.forall_mem_cons.2 ⟨cW hF.1 rfl,List.forall_mem_cons.2 ⟨dQ hp rfl,?_⟩⟩;((repeat' refine iE rfl rfl ?_);exact iN)
     exfalso;simp [aA,aC,aF] at t5;omega
    exfalso;simp [aA,aC,aF] at t4;omega
   exfalso;have t3:(decide (0≤x)&&decide (x<x+z)&&decide (x+z<y)&&decide (y≤L.length)&&decide (y - x≤n)&&decide (L.length≤1000000)&&fI D L&&fV D)=false:=t3;rw [hW,sw.fI hin,sw.len] at t3;simp at t3;omega
  exfalso;simp [aA,aC,aF] at h5;omega
 have h4:¬ a+2*s≤l.length:=(by simp [aA,aC] at h4;omega);rw [sQ.eq_2 D n l.length s L a k',if_neg h4] at hmr;rw [hmr] at hst;((conv=>whnf);apply bm<;>intro h5);rotate_left
 ·exfalso;simp [aA,aC,aF] at h5;omega
 ((conv=>whnf);apply bm<;>intro h6);rotate_left
 ·have h6:¬ a+s<l.length:=(by simp [aA,aC] at h6;omega);((conv=>whnf);apply bm<;>intro t4)
  ·(conv=>whnf);refine⟨l.length+1 - s*2,by omega,?_⟩;have hv:xV D n l.length s (L,a)=L:=(by unfold xV;rw [if_neg h6]);rw [hv] at hst;refine bM (e0:=CJ l.length c w (z*2) p) (o0:=.cells true false 1 (flat aP.fl L)) (n0:=nx''') hF ⟨s*2,k3,_,_,by omega,by omega,by omega,by omega,rfl,sw,hst,rfl,rfl,rfl⟩ ?_ (aN (aH _ _)) (Nat.le_refl _);unfold CJ;refine List.forall_mem_cons.2 ⟨cW hF.1 rfl,List.forall_mem_cons.2 ⟨dQ hp rfl,?_⟩⟩;((repeat' refine iE rfl rfl ?_);exact iN)
  exfalso;simp [aA,aC,aF] at t4;omega
 have h6:a+s<l.length:=(by simp [aA,aC] at h6;omega);(conv=>whnf);refine⟨0,c,[iv x,iv (x+z),iv w],p,L,D,by rw [sw.len];rfl,rfl,aY hC,bC hF hD,?_⟩;((conv=>whnf);apply bm<;>intro t3)
 ·((conv=>whnf);apply bm<;>intro t4)
  ·(conv=>whnf);refine⟨l.length+1 - s*2,by omega,?_⟩;have hv:aZ D n L x.toNat (x+z).toNat w.toNat=xV D n l.length s (L,a):=by
    unfold xV;rw [if_pos h6,show x.toNat=a by omega,show (x+z).toNat=a+s by omega,show w.toNat=l.length by omega]
   have sw2:Sw l (xV D n l.length s (L,a)):=by
    unfold xV;rw [if_pos h6];exact sw.trans (mH D n _ _ _ _ (by show a<a+s;omega) h6 (by rw [sw.len];omega))
   refine bM (e0:=CJ l.length c w (z*2) p) (o0:=.cells true false 1 (flat aP.fl (xV D n l.length s (L,a)))) (n0:=nx''') hF ⟨s*2,k3,_,_,by omega,by omega,by omega,by omega,rfl,sw2,hst,rfl,rfl,rfl⟩ ?_ (aU (aH _ _) (by rw [← hv])) (Nat.le_refl _);unfold CJ;refine List.forall_mem_cons.2 ⟨cW hF.1 rfl,List.forall_mem_cons.2 ⟨dQ hp rfl,?_⟩⟩;((repeat' refine iE rfl rfl ?_);exact iN)
  exfalso;simp [aA,aC,aF] at t4;omega
 exfalso;have t3:(decide (0≤x)&&decide (x<x+z)&&decide (x+z<w)&&decide (w≤L.length)&&decide (w - x≤n)&&decide (L.length≤1000000)&&fI D L&&fV D)=false:=t3;rw [hW,sw.fI hin,sw.len] at t3;simp at t3;omega
end Go.Aw
end

noncomputable section
namespace Go.Aw
set_option maxRecDepth 100000
def I5 (n:Nat)(D:List Dt)(l:List Int)(r:List Value)(c:Nat):Option (Bool × List Int):=match r with
 |[]=>some (decide (l.length≤n)&&decide (l.length≤1000000)&&fI D l&&fV D,sP D n l)
 |_=>none
theorem OA {n:Nat}{D:List Dt}{l:List Int}{r:List Value}{c:Nat}{l':List Int}(h:I5 n D l r c=some (true,l')):r=[]∧l.length≤n∧l.length≤1000000∧fI D l=true∧fV D=true∧l'=sP D n l:=by
 unfold I5 at h;split at h
 ·injection h with h;injection h with h1 h2;simp only [Bool.and_eq_true,decide_eq_true_eq] at h1;exact⟨rfl,h1.1.1.1,h1.1.1.2,h1.1.2,h1.2,h2.symm⟩
 ·cases h
theorem aKk (n:Nat):cT Go.Proofs.Tryz.prog 214 (RP (I5 n)):=u6 (aL (xl:=[(244,RP (aEZ n))]) (.cons (aJO n) .nil)) fun D l r c l' hs=>by
 obtain⟨rfl,hn,hl,hin,hW,rfl⟩:=OA hs;clear hs;refine⟨rfl,fun F nx p hF hC hD=>?_⟩;(conv=>whnf);refine⟨0,c,[iv l.length],p,l,D,rfl,rfl,aY hC,bC hF hD,?_⟩;((conv=>whnf);apply bm<;>intro t)
 ·(conv=>whnf);exact⟨rfl,rfl⟩
 exfalso;have t:(decide ((l.length:Int)=l.length)&&decide (l.length≤n)&&decide (l.length≤1000000)&&fI D l&&fV D)=false:=t;rw [hW,hin] at t;simp at t;omega
theorem aGn (n:Nat):cT Go.Proofs.Tryz.prog 160 (RP (I5 n)):=u6 (aL (xl:=[(214,RP (I5 n))]) (.cons (aKk n) .nil)) fun D l r c l' hs=>by
 obtain⟨rfl,hn,hl,hin,hW,rfl⟩:=OA hs;clear hs;refine⟨rfl,fun F nx p hF hC hD=>?_⟩;(conv=>whnf);refine⟨0,c,[],p,l,D,rfl,rfl,aY hC,bC hF hD,?_⟩;((conv=>whnf);apply bm<;>intro t)
 ·(conv=>whnf);exact⟨rfl,rfl⟩
 exfalso;have t:(decide (l.length≤n)&&decide (l.length≤1000000)&&fI D l&&fV D)=false:=t;rw [hW,hin] at t;simp at t;omega
end Go.Aw
end

noncomputable section
namespace Go.Aw
open Go.RowKit
def aE7 (k:Nat)(v:Value):List (Nat × Value)→List (Nat × Value)
 |[]=>[(k,v)]
 |(j,u)::r=>match Nat.blt k j with
  |true=>(k,v)::(j,u)::r
  |false=>(match Nat.beq k j with|true=>(k,v)::r|false=>(j,u)::aE7 k v r)
def dJ:List (Nat × Value)→List (Nat × Value)
 |[]=>[]
 |(k,v)::r=>aE7 k v (dJ r)
theorem KF {k:Nat}{v:Value}{t:Nat}:∀ (l:List (Nat × Value)),look (aE7 k v l) t=look ((k,v)::l) t
 |[]=>rfl
 |(j,u)::r=>by
  unfold aE7;split
  ·rfl
  split
  ·rename_i h;have:=beq_true h;subst this;simp only [aE];split <;> rfl
  rename_i h;have hne:=beq_false h;rw [aE,KF r];simp only [aE];split
  ·rename_i h1;split
   ·rename_i h2;exact absurd ((beq_true h2).trans (beq_true h1).symm) hne
   rfl
  rfl
theorem A4 {t:Nat}:∀ (l:List (Nat × Value)),look (dJ l) t=look l t
 |[]=>rfl
 |(k,v)::r=>by
  unfold dJ;rw [KF,aE,aE,A4 r]
def uX (k:Nat):List Nat→List Nat
 |[]=>[k]
 |j::r=>match Nat.blt k j with|true=>k::j::r|false=>j::uX k r
theorem Q5 {k i:Nat}:∀ {l:List Nat},i∈uX k l↔i=k∨i∈l
 |[]=>by simp [uX]
 |j::r=>by
  unfold uX;split
  ·simp
  simp only [List.mem_cons,Q5];constructor
  ·rintro (h|h|h)
   ·exact .inr (.inl h)
   ·exact .inl h
   exact .inr (.inr h)
  rintro (h|h|h)
  ·exact .inr (.inl h)
  ·exact .inl h
  exact .inr (.inr h)
def mD (A:Ar)(T:cU)(C:VC)(Y:VY)(tn:Nat)(ops:List Oper)(K:KS):Nat→List Nat→KS
 |0,_=>K
 |n+1,done=>fun e h nx=>match fA ops done ops 0 with
  |[]=>K e h nx
  |i::r=>LP (fun j=>match fP ops j with|some o=>qT A T C Y tn ops o e h nx (fun e' h' nx'=>mD A T C Y tn ops K n (uX j done) (dJ e') h' nx')|none=>False) (i::r)
section
variable {A:Ar}{T:cU}{C:VC}{Y:VY}{tn:Nat}
theorem nH {e e':List (Nat × Value)}(h:∀ t,look e t=look e' t):dH e=dH e':=by
 funext x;cases x <;> simp [dH,h]
theorem w8 {e e':List (Nat × Value)}(h:∀ t,look e t=look e' t):kZ e=kZ e':=by
 funext l
 induction l with
 |nil=>rfl
 |cons x r ih=>obtain⟨i,x⟩:=x;simp only [kZ,nH h,ih]
theorem CQ {e e':List (Nat × Value)}(h:∀ t,look e t=look e' t):lE e=lE e':=by
 funext l
 induction l with
 |nil=>rfl
 |cons x r ih=>simp only [lE,nH h,ih]
theorem RD {e e':List (Nat × Value)}(h:∀ t,look e t=look e' t):lF e=lF e':=by
 funext x;cases x <;> simp only [lF,nH h]
theorem OB {e e':List (Nat × Value)}(h:∀ t,look e t=look e' t):AK e=AK e':=by
 funext l
 induction l with
 |nil=>rfl
 |cons x r ih=>simp only [AK,nH h,ih]
theorem QU {e e':List (Nat × Value)}(h:∀ t,look e t=look e' t){g:Heap}{op:Op}{K:Value→Prop}:jS A T e g op K=jS A T e' g op K:=by
 unfold jS;rw [nH h,w8 h,CQ h,OB h]
theorem YG {e e':List (Nat × Value)}(h:∀ t,look e t=look e' t){g:Heap}{nx:Nat}{op:Op}{K:KE}:qL A T C Y e g nx op K=qL A T C Y e' g nx op K:=by
 unfold qL;rw [nH h,w8 h,CQ h,RD h];simp only [QU h]
theorem BP {e e':List (Nat × Value)}(h:∀ t,look e t=look e' t){k:Nat}{v:Value}(t:Nat):look (put e k v) t=look (put e' k v) t:=by
 unfold put;rw [aE,aE,h]
theorem FA {e e':List (Nat × Value)}(h:∀ t,look e t=look e' t){d:Option Nat}{v:Value}{F G:List (Nat × Value)→Prop}(hK:∀ e e',(∀ t,look e t=look e' t)→F e→G e')(hl:eS tn e d v F):eS tn e' d v G:=by
 unfold eS at hl ⊢;split at hl
 ·exact hK _ _ h hl
 split at hl
 ·exact hK _ _ (BP h) hl
 exact hl.elim
theorem MP {ops:List Oper}{e e':List (Nat × Value)}(h:∀ t,look e t=look e' t){g:Option (Nat × Bool)}{Yk N Yk' N':List (Nat × Value)→Prop}(hY:∀ e e',(∀ t,look e t=look e' t)→Yk e→Yk' e')(hN:∀ e e',(∀ t,look e t=look e' t)→N e→N' e')
  (hl:gE A ops e g Yk N):gE A ops e' g Yk' N':=by
 unfold gE at hl ⊢;split at hl
 ·exact hY _ _ h hl
 rename_i j want;split at hl
 ·rename_i o ho;split at hl
  ·rename_i t ht;rw [← h t];split at hl
   ·rename_i b hb;rw [aHy] at hl ⊢;rcases hl with ⟨h1,h2⟩|⟨h1,h2⟩
    ·exact .inl ⟨h1,hY _ _ (BP h) h2⟩
    exact .inr ⟨h1,hN _ _ (BP h) h2⟩
   ·exact hN _ _ h hl
   exact hl.elim
  exact hl.elim
 exact hl.elim
theorem GC {d d':List Nat}(h:∀ i,i∈d↔i∈d')(i:Nat):pH i d=pH i d':=by
 cases h1:pH i d with
 |true=>exact (dP.2 ((h i).1 (dP.1 h1))).symm
 |false =>
  cases h2:pH i d' with
  |false=>rfl
  |true=>rw [dP.2 ((h i).2 (dP.1 h2))] at h1;cases h1
theorem allM_congr {d d':List Nat}(h:∀ i,i∈d↔i∈d')(m:List Nat):allM d m=allM d' m:=by
 induction m with
 |nil=>rfl
 |cons x r ih=>simp only [allM,GC h,ih]
theorem zM {all:List Oper}{d d':List Nat}(h:∀ i,i∈d↔i∈d'):∀ (l:List Oper) (i:Nat),fA all d l i=fA all d' l i
 |[],_=>rfl
 |o::r,i=>by simp only [fA,GC h,allM_congr h,zM h r]
theorem fM.mono {E:KE→Prop}(hE:fM E){K K':KE}(h:∀ v h nx,K v h nx→K' v h nx)(hl:E K):E K':=by
 obtain⟨v,g,nx,h1,h2⟩:=hE K hl;exact h2 K' (h _ _ _ h1)
theorem QY (hC:eO C)(hY:eO Y){ops:List Oper}{o:Oper}{e e':List (Nat × Value)}(h:∀ t,look e t=look e' t){g:Heap}{nx:Nat}{K K':KS}(hK:∀ e e' g nx,(∀ t,look e t=look e' t)→K e g nx→K' e' g nx)
  (hl:qT A T C Y tn ops o e g nx K):qT A T C Y tn ops o e' g nx K':=by
 unfold qT at hl ⊢;refine MP h (fun e1 e2 h12 h1=>?_) (fun e1 e2 h12 h1=>?_) hl
 ·rw [YG (e':=e2) h12] at h1;exact (DZ hC hY).mono (fun v g' nx' h2=>FA h12 (fun a b hab h3=>hK a b g' nx' hab h3) h2) h1
 exact FA h12 (fun a b hab h3=>hK a b g nx hab h3) h1
theorem KO (hC:eO C)(hY:eO Y){ops:List Oper}{K:KS}(hK:∀ e e' g nx,(∀ t,look e t=look e' t)→K e g nx→K e' g nx) :
  ∀ n (done done':List Nat) (e e':List (Nat × Value)) (g:Heap) (nx:Nat),(∀ i,i∈done↔i∈done')→(∀ t,look e t=look e' t)→mD A T C Y tn ops K n done e g nx→G4 A T C Y tn ops K n done' e' g nx
 |0,done,done',e,e',g,nx,hd,he,hl=>hK _ _ _ _ he hl
 |n+1,done,done',e,e',g,nx,hd,he,hl=>by
  unfold mD at hl;unfold G4;rw [← zM hd];split at hl
  ·rename_i hr;rw [hr];exact hK _ _ _ _ he hl
  rename_i hr;rw [hr];simp only;rw [AQ] at hl ⊢;intro i hi;have h1:=hl i hi;split at h1
  ·rename_i o ho;rw [ho];refine QY hC hY he (fun a b g' nx' hab h2=>?_) h1;refine KO hC hY hK n _ _ _ _ _ _ (fun k=>?_) (fun t=>?_) h2
   ·rw [Q5,List.mem_cons,hd k]
   rw [A4,hab]
  exact h1.elim
theorem SO {b:Nat}{I:KS}(e e':List (Nat × Value))(g:Heap)(nx:Nat)(h:∀ t,look e t=look e' t)(hi:rM b I e g nx):rM b I e' g nx:=by
 obtain⟨e0,h0,n0,ρ,hI,r⟩:=hi;exact⟨e0,h0,n0,ρ,hI,fun t v hv=>by rw [← h t];exact r.env t v hv,r.heap,r.inj,r.fix,r.le⟩
theorem aFj (hC:eO C)(hY:eO Y){ops:List Oper}{b:Nat}{I:KS}{n:Nat}{e:List (Nat × Value)}{g:Heap}{nx:Nat}(hl:mD A T C Y tn ops (rM b I) n [] (dJ e) g nx):G4 A T C Y tn ops (rM b I) n [] e g nx :=
 KO hC hY SO n [] [] _ _ _ _ (fun _=>Iff.rfl) (fun t=>A4 e) hl
end
end Go.Aw
end
