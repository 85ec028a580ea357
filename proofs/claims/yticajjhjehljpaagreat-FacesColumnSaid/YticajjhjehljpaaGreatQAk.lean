/-
  Parts of a proof. No condition.
-/
import Derived.Test.YticajjhjehljpaaGreatQAd
import Derived.Test.YticajjhjehljpaaGreatQAj
set_option linter.unusedSimpArgs false
set_option linter.unusedVariables false
noncomputable section
namespace Go.Aw
set_option maxRecDepth 100000
set_option maxHeartbeats 2000000
def pH (D:CW)(n:Nat):Nat→List Int→Nat→List Int × Nat
 |0,L,a=>(L,a)
 |k+1,L,a=>if a+20≤n then pH D n k (jO D a L (a+20 - 1 - a)) (a+20) else (L,a)
def rX (D:CW)(f n bs:Nat):Nat→List Int→Nat→List Int × Nat
 |0,L,a=>(L,a)
 |k+1,L,a=>if a+2*bs≤n then rX D f n bs k (eT D f L a (a+bs) (a+2*bs)) (a+2*bs) else (L,a)
def xM (D:CW)(f n bs:Nat)(r:List Int × Nat):List Int:=if r.2+bs<n then eT D f r.1 r.2 (r.2+bs) n else r.1
def ES (D:CW)(f n:Nat):Nat→List Int→Nat→List Int
 |0,L,_=>L
 |k+1,L,bs=>if bs<n then ES D f n k (xM D f n bs (rX D f n bs (n+1) L 0)) (bs*2) else L
def oQ (D:CW)(f:Nat)(L:List Int):List Int :=
 ES D f L.length (L.length+1) (jO D (pH D L.length (L.length+1) L 0).2 (pH D L.length (L.length+1) L 0).1 (L.length - 1 - (pH D L.length (L.length+1) L 0).2)) 20
theorem LS (D:CW)(a:Nat)(L:List Int)(t:Nat)(h:a+t<L.length):Sw L (jO D a L t):=by
 have key:∀ (j:Nat) (L:List Int),j<L.length→Sw L (vM D a L j):=by
  intro j
  induction j with
  |zero=>exact fun L _=>.refl L
  |succ j ih =>
   intro L hj;unfold vM;split
   ·exact (Sw.step (j+1) j (.refl L) hj (by omega)).trans (ih _ (by rw [iI];omega))
   exact .refl L
 induction t with
 |zero=>exact .refl L
 |succ t ih =>
  have h1:=ih (by omega);exact h1.trans (key _ _ (by rw [h1.len];omega))
theorem O7 (D:CW)(a b:Nat)(L:List Int)(h:b≤L.length)(hab:a≤b):Sw L (jO D a L (b - 1 - a)):=by
 by_cases h0:b - 1 - a=0
 ·rw [h0];exact .refl L
 exact LS _ _ _ _ (by omega)
def aFl (n:Nat)(D:CW)(l:List Int)(r:List Value)(c:Nat):Option (Bool × List Int):=match r with
 |[.int .i64 a]=>some (decide (a=l.length)&&decide (l.length≤n)&&decide (l.length≤1000000)&&pT D l&&oS D,oQ D n l)
 |_=>none
theorem aBB {n:Nat}{D:CW}{l:List Int}{r:List Value}{c:Nat}{l':List Int}(h:aFl n D l r c=some (true,l')):∃ a:Int,r=[iv a]∧a=l.length∧l.length≤n∧l.length≤1000000∧pT D l=true∧oS D=true∧l'=oQ D n l:=by
 unfold aFl at h;split at h
 ·rename_i a;injection h with h;injection h with h1 h2;simp only [Bool.and_eq_true,decide_eq_true_eq] at h1;exact⟨a,rfl,h1.1.1.1.1,h1.1.1.1.2,h1.1.1.2,h1.1.2,h1.2,h2.symm⟩
 ·cases h
def JR (N c:Nat)(n a b:Int)(D:CW)(p:Nat × Nat):List (Nat × Value):=[(0,.slice (some ⟨0,0,none⟩) N c),(2,kK D p),(1,iv n),(6,iv 20),(7,iv a),(8,iv b)]
def C1 (N c:Nat)(n s:Int)(D:CW)(p:Nat × Nat):List (Nat × Value):=[(0,.slice (some ⟨0,0,none⟩) N c),(2,kK D p),(1,iv n),(6,iv s)]
def KT (N c:Nat)(n s a b:Int)(D:CW)(p:Nat × Nat):List (Nat × Value):=[(0,.slice (some ⟨0,0,none⟩) N c),(2,kK D p),(1,iv n),(6,iv s),(7,iv a),(8,iv b)]
theorem aLf (n:Nat):dJ Go.Proofs.Tryz.prog 173 (RQ (aFl n)):=tP (aK (xl:=[(187,RQ (aC5 n)),aCi]) (.cons (aHj n) (.cons aLV .nil))) fun D l r c l' hs=>by
 obtain⟨w,rfl,hw,hn,hl,hin,hW,rfl⟩:=aBB hs;clear hs;refine⟨rfl,fun F nx p hF hC hD=>?_⟩;have hp:=MG hF hD;(conv=>whnf);refine⟨fun q e h nx'=>∃ (a k:Nat) (x y:Int) (L:List Int),x=a∧y=a+20∧(a≤l.length)∧l.length+1 - a≤k∧q=l.length+1 - a∧Sw l L∧pH D l.length (l.length+1) l 0=pH D l.length k L a∧e=JR l.length c w x y D p∧h=(0,.cells true false 1 (flat aR.fl L))::F∧nx'=nx,⟨l.length+1 - 0,?_⟩,?_⟩
 ·refine bM (e0:=JR l.length c w 0 20 D p) (o0:=.cells true false 1 (flat aR.fl l)) (n0:=nx) hF ⟨0,l.length+1,0,20,l,rfl,rfl,Nat.zero_le _,by omega,rfl,.refl l,rfl,rfl,rfl,rfl⟩ ?_ (aG (aC _ _)) (Nat.le_refl _);unfold JR;refine List.forall_mem_cons.2 ⟨cW hF.1 rfl,List.forall_mem_cons.2 ⟨dQ hp rfl,?_⟩⟩;((repeat' refine iE rfl rfl ?_);exact iN)
 rintro q e h nx' ⟨a,k,x,y,L,hx,hy,ha,hk,rfl,sw,hins,rfl,rfl,rfl⟩;unfold JR;((conv=>whnf);apply bm<;>intro h1)
 ·have h1:a+20≤l.length:=(by simp [aA,aF] at h1;omega);obtain⟨k',rfl⟩:∃ k',k=k'+1:=⟨k - 1,by omega⟩;rw [pH.eq_2 D l.length L a k',if_pos h1] at hins;(conv=>whnf);refine⟨0,c,[iv x,iv y],p,L,D,by rw [sw.len];rfl,rfl,bQ hC,fY hF hD,?_⟩;((conv=>whnf);apply bm<;>intro t)
  ·((conv=>whnf);apply bm<;>intro t2)
   ·(conv=>whnf);refine⟨l.length+1 - (a+20),by omega,?_⟩;have hv:jO D x.toNat L (y - 1 - x).toNat=jO D a L (a+20 - 1 - a):=(by rw [show x.toNat=a by omega,show (y - 1 - x).toNat=a+20 - 1 - a by omega]);refine bM (e0:=JR l.length c w y (y+20) D p) (o0:=.cells true false 1 (flat aR.fl (jO D a L (a+20 - 1 - a)))) (n0:=nx') hF ⟨a+20,k',_,_,_,by omega,by omega,by omega,by omega,rfl,sw.trans (O7 D a (a+20) L (by rw [sw.len];omega) (by omega)),hins,rfl,rfl,rfl⟩ ?_ (bW (aC _ _) (by rw [← hv])) (Nat.le_refl _);unfold JR;refine List.forall_mem_cons.2 ⟨cW hF.1 rfl,List.forall_mem_cons.2 ⟨dQ hp rfl,?_⟩⟩;((repeat' refine iE rfl rfl ?_);exact iN)
   exfalso;simp [aA,aF,aH] at t2;omega
  exfalso;have t:(decide (0≤x)&&decide (x≤y)&&decide (y≤L.length)&&decide (L.length≤1000000)&&pT D L&&oS D)=false:=t;rw [hW,sw.pT hin,sw.len] at t;simp at t;omega
 have h1:¬ a+20≤l.length:=(by simp [aA,aF] at h1;omega);obtain⟨k',rfl⟩:∃ k',k=k'+1:=⟨k - 1,by omega⟩;rw [pH.eq_2 D l.length L a k',if_neg h1] at hins;(conv=>whnf);refine⟨0,c,[iv x,iv w],p,L,D,by rw [sw.len];rfl,rfl,bQ hC,fY hF hD,?_⟩;((conv=>whnf);apply bm<;>intro t);rotate_left
 ·exfalso;have t:(decide (0≤x)&&decide (x≤w)&&decide (w≤L.length)&&decide (L.length≤1000000)&&pT D L&&oS D)=false:=t;rw [hW,sw.pT hin,sw.len] at t;simp at t;omega
 have hv:jO D x.toNat L (w - 1 - x).toNat=jO D (pH D l.length (l.length+1) l 0).2 (pH D l.length (l.length+1) l 0).1 (l.length - 1 - (pH D l.length (l.length+1) l 0).2):=by
  rw [hins,show x.toNat=a by omega,show (w - 1 - x).toNat=l.length - 1 - a by omega]
 have sw1:Sw l (jO D x.toNat L (w - 1 - x).toNat):=by
  rw [show x.toNat=a by omega,show (w - 1 - x).toNat=l.length - 1 - a by omega];exact sw.trans (O7 D a l.length L (by rw [sw.len];omega) (by omega))
 clear hins;generalize hL1:jO D x.toNat L (w - 1 - x).toNat=L1 at hv sw1;(conv=>whnf);refine⟨fun q e h nx''=>∃ (s k:Nat) (z:Int) (M:List Int),z=s∧1≤s∧s≤2000000∧l.length+1 - s≤k∧q=l.length+1 - s∧Sw l M∧oQ D n l=ES D n l.length k M s∧e=C1 l.length c w z D p∧h=(0,.cells true false 1 (flat aR.fl M))::F∧nx''=nx',⟨l.length+1 - 20,?_⟩,?_⟩
 ·refine bM (e0:=C1 l.length c w 20 D p) (o0:=.cells true false 1 (flat aR.fl L1)) (n0:=nx') hF ⟨20,l.length+1,20,L1,rfl,by omega,by omega,by omega,rfl,sw1,by rw [hv];rfl,rfl,rfl,rfl⟩ ?_ (bW (aC _ _) (by rw [← hL1])) (Nat.le_refl _);unfold C1;refine List.forall_mem_cons.2 ⟨cW hF.1 rfl,List.forall_mem_cons.2 ⟨dQ hp rfl,?_⟩⟩;((repeat' refine iE rfl rfl ?_);exact iN)
 rintro q e h nx'' ⟨s,k2,z,M,hz,hs1,hs2,hk2,rfl,swM,hst,rfl,rfl,rfl⟩;clear hv hL1 sw1 hk ha sw hy hx h1;unfold C1;((conv=>whnf);apply bm<;>intro h2);rotate_left
 ·have h2:¬ s<l.length:=(by simp [aA,aF] at h2;omega);(conv=>whnf);refine⟨rfl,?_⟩;have hM:oQ D n l=M:=by
   rw [hst];cases k2 with
   |zero=>rfl
   |succ k2=>rw [ES.eq_2,if_neg h2]
  rw [hM]
 have h2:s<l.length:=(by simp [aA,aF] at h2;omega);obtain⟨k3,rfl⟩:∃ k3,k2=k3+1:=⟨k2 - 1,by omega⟩;rw [ES.eq_2 D n l.length M s k3,if_pos h2] at hst;((conv=>whnf);apply bm<;>intro h3);rotate_left
 ·exfalso;simp [aA,aF,aH] at h3;omega
 (conv=>whnf);refine⟨fun q e h nx'''=>∃ (a k:Nat) (x y:Int) (L:List Int),x=a∧y=a+2*s∧(a≤l.length)∧l.length+1 - a≤k∧q=l.length+1 - a∧Sw l L∧rX D n l.length s (l.length+1) M 0=rX D n l.length s k L a∧e=KT l.length c w z x y D p∧h=(0,.cells true false 1 (flat aR.fl L))::F∧nx'''=nx'',⟨l.length+1 - 0,?_⟩,?_⟩
 ·refine bM (e0:=KT l.length c w z 0 (2*z) D p) (o0:=.cells true false 1 (flat aR.fl M)) (n0:=nx'') hF ⟨0,l.length+1,0,_,M,rfl,by omega,Nat.zero_le _,by omega,rfl,swM,rfl,rfl,rfl,rfl⟩ ?_ (aG (aC _ _)) (Nat.le_refl _);unfold KT;refine List.forall_mem_cons.2 ⟨cW hF.1 rfl,List.forall_mem_cons.2 ⟨dQ hp rfl,?_⟩⟩;((repeat' refine iE rfl rfl ?_);exact iN)
 rintro q e h nx''' ⟨a,k,x,y,L,hx,hy,ha,hk,rfl,sw,hmr,rfl,rfl,rfl⟩;unfold KT;obtain⟨k',rfl⟩:∃ k',k=k'+1:=⟨k - 1,by omega⟩;((conv=>whnf);apply bm<;>intro h4)
 ·have h4:a+2*s≤l.length:=(by simp [aA,aF] at h4;omega);rw [rX.eq_2 D n l.length s L a k',if_pos h4] at hmr;((conv=>whnf);apply bm<;>intro h5)
  ·(conv=>whnf);refine⟨0,c,[iv x,iv (x+z),iv y],p,L,D,by rw [sw.len];rfl,rfl,bQ hC,fY hF hD,?_⟩;((conv=>whnf);apply bm<;>intro t3)
   ·((conv=>whnf);apply bm<;>intro t4)
    ·((conv=>whnf);apply bm<;>intro t5)
     ·(conv=>whnf);refine⟨l.length+1 - (a+2*s),by omega,?_⟩;have hv:eT D n L x.toNat (x+z).toNat y.toNat=eT D n L a (a+s) (a+2*s):=(by rw [show x.toNat=a by omega,show (x+z).toNat=a+s by omega,show y.toNat=a+2*s by omega]);refine bM (e0:=KT l.length c w z y (y+2*z) D p) (o0:=.cells true false 1 (flat aR.fl (eT D n L a (a+s) (a+2*s)))) (n0:=nx''') hF ⟨a+2*s,k',_,_,_,by omega,by omega,by omega,by omega,rfl,sw.trans (uK D n _ _ _ _ (by omega) (by omega) (by rw [sw.len];omega)),hmr,rfl,rfl,rfl⟩ ?_ (bW (aC _ _) (by rw [← hv])) (Nat.le_refl _);unfold KT;refine List.forall_mem_cons.2 ⟨cW hF.1 rfl,List.forall_mem_cons.2 ⟨dQ hp rfl,?_⟩⟩;((repeat' refine iE rfl rfl ?_);exact iN)
     exfalso;simp [aA,aF,aH] at t5;omega
    exfalso;simp [aA,aF,aH] at t4;omega
   exfalso;have t3:(decide (0≤x)&&decide (x<x+z)&&decide (x+z<y)&&decide (y≤L.length)&&decide (y - x≤n)&&decide (L.length≤1000000)&&pT D L&&oS D)=false:=t3;rw [hW,sw.pT hin,sw.len] at t3;simp at t3;omega
  exfalso;simp [aA,aF,aH] at h5;omega
 have h4:¬ a+2*s≤l.length:=(by simp [aA,aF] at h4;omega);rw [rX.eq_2 D n l.length s L a k',if_neg h4] at hmr;rw [hmr] at hst;((conv=>whnf);apply bm<;>intro h5);rotate_left
 ·exfalso;simp [aA,aF,aH] at h5;omega
 ((conv=>whnf);apply bm<;>intro h6);rotate_left
 ·have h6:¬ a+s<l.length:=(by simp [aA,aF] at h6;omega);((conv=>whnf);apply bm<;>intro t4)
  ·(conv=>whnf);refine⟨l.length+1 - s*2,by omega,?_⟩;have hv:xM D n l.length s (L,a)=L:=(by unfold xM;rw [if_neg h6]);rw [hv] at hst;refine bM (e0:=C1 l.length c w (z*2) D p) (o0:=.cells true false 1 (flat aR.fl L)) (n0:=nx''') hF ⟨s*2,k3,_,_,by omega,by omega,by omega,by omega,rfl,sw,hst,rfl,rfl,rfl⟩ ?_ (aG (aC _ _)) (Nat.le_refl _);unfold C1;refine List.forall_mem_cons.2 ⟨cW hF.1 rfl,List.forall_mem_cons.2 ⟨dQ hp rfl,?_⟩⟩;((repeat' refine iE rfl rfl ?_);exact iN)
  exfalso;simp [aA,aF,aH] at t4;omega
 have h6:a+s<l.length:=(by simp [aA,aF] at h6;omega);(conv=>whnf);refine⟨0,c,[iv x,iv (x+z),iv w],p,L,D,by rw [sw.len];rfl,rfl,bQ hC,fY hF hD,?_⟩;((conv=>whnf);apply bm<;>intro t3)
 ·((conv=>whnf);apply bm<;>intro t4)
  ·(conv=>whnf);refine⟨l.length+1 - s*2,by omega,?_⟩;have hv:eT D n L x.toNat (x+z).toNat w.toNat=xM D n l.length s (L,a):=by
    unfold xM;rw [if_pos h6,show x.toNat=a by omega,show (x+z).toNat=a+s by omega,show w.toNat=l.length by omega]
   have sw2:Sw l (xM D n l.length s (L,a)):=by
    unfold xM;rw [if_pos h6];exact sw.trans (uK D n _ _ _ _ (by show a<a+s;omega) h6 (by rw [sw.len];omega))
   refine bM (e0:=C1 l.length c w (z*2) D p) (o0:=.cells true false 1 (flat aR.fl (xM D n l.length s (L,a)))) (n0:=nx''') hF ⟨s*2,k3,_,_,by omega,by omega,by omega,by omega,rfl,sw2,hst,rfl,rfl,rfl⟩ ?_ (bW (aC _ _) (by rw [← hv])) (Nat.le_refl _);unfold C1;refine List.forall_mem_cons.2 ⟨cW hF.1 rfl,List.forall_mem_cons.2 ⟨dQ hp rfl,?_⟩⟩;((repeat' refine iE rfl rfl ?_);exact iN)
  exfalso;simp [aA,aF,aH] at t4;omega
 exfalso;have t3:(decide (0≤x)&&decide (x<x+z)&&decide (x+z<w)&&decide (w≤L.length)&&decide (w - x≤n)&&decide (L.length≤1000000)&&pT D L&&oS D)=false:=t3;rw [hW,sw.pT hin,sw.len] at t3;simp at t3;omega
def HX (n:Nat)(D:CW)(l:List Int)(r:List Value)(c:Nat):Option (Bool × List Int):=match r with
 |[]=>some (decide (l.length≤n)&&decide (l.length≤1000000)&&pT D l&&oS D,oQ D n l)
 |_=>none
theorem QC {n:Nat}{D:CW}{l:List Int}{r:List Value}{c:Nat}{l':List Int}(h:HX n D l r c=some (true,l')):r=[]∧l.length≤n∧l.length≤1000000∧pT D l=true∧oS D=true∧l'=oQ D n l:=by
 unfold HX at h;split at h
 ·injection h with h;injection h with h1 h2;simp only [Bool.and_eq_true,decide_eq_true_eq] at h1;exact⟨rfl,h1.1.1.1,h1.1.1.2,h1.1.2,h1.2,h2.symm⟩
 ·cases h
theorem aLv (n:Nat):dJ Go.Proofs.Tryz.prog 155 (RQ (HX n)):=tP (aK (xl:=[(173,RQ (aFl n))]) (.cons (aLf n) .nil)) fun D l r c l' hs=>by
 obtain⟨rfl,hn,hl,hin,hW,rfl⟩:=QC hs;clear hs;refine⟨rfl,fun F nx p hF hC hD=>?_⟩;(conv=>whnf);refine⟨0,c,[iv l.length],p,l,D,rfl,rfl,bQ hC,fY hF hD,?_⟩;((conv=>whnf);apply bm<;>intro t)
 ·(conv=>whnf);exact⟨rfl,rfl⟩
 exfalso;have t:(decide ((l.length:Int)=l.length)&&decide (l.length≤n)&&decide (l.length≤1000000)&&pT D l&&oS D)=false:=t;rw [hW,hin] at t;simp at t;omega
theorem aDq (n:Nat):dJ Go.Proofs.Tryz.prog 104 (RQ (HX n)):=tP (aK (xl:=[(155,RQ (HX n))]) (.cons (aLv n) .nil)) fun D l r c l' hs=>by
 obtain⟨rfl,hn,hl,hin,hW,rfl⟩:=QC hs;clear hs;refine⟨rfl,fun F nx p hF hC hD=>?_⟩;(conv=>whnf);refine⟨0,c,[],p,l,D,rfl,rfl,bQ hC,fY hF hD,?_⟩;((conv=>whnf);apply bm<;>intro t)
 ·(conv=>whnf);exact⟨rfl,rfl⟩
 exfalso;have t:(decide (l.length≤n)&&decide (l.length≤1000000)&&pT D l&&oS D)=false:=t;rw [hW,hin] at t;simp at t;omega
def inR (D:List Dt)(L:List Int):Bool:=L.all fun x=>decide (0≤x)&&decide (x<D.length)
theorem sO {D:List Dt}{L:List Int}(h:inR D L=true){i:Nat}(hi:i<L.length):0≤aE L i∧aE L i<D.length:=tK (D:=.dirs D) h hi
end Go.Aw
end

noncomputable section
namespace Go.Aw
open Go.RowKit
def aGo (k:Nat)(v:Value):List (Nat × Value)→List (Nat × Value)
 |[]=>[(k,v)]
 |(j,u)::r=>match Nat.blt k j with
  |true=>(k,v)::(j,u)::r
  |false=>(match Nat.beq k j with|true=>(k,v)::r|false=>(j,u)::aGo k v r)
def dG:List (Nat × Value)→List (Nat × Value)
 |[]=>[]
 |(k,v)::r=>aGo k v (dG r)
theorem JX {k:Nat}{v:Value}{t:Nat}:∀ (l:List (Nat × Value)),look (aGo k v l) t=look ((k,v)::l) t
 |[]=>rfl
 |(j,u)::r=>by
  unfold aGo;split
  ·rfl
  split
  ·rename_i h;have:=beq_true h;subst this;simp only [aB];split <;> rfl
  rename_i h;have hne:=beq_false h;rw [aB,JX r];simp only [aB];split
  ·rename_i h1;split
   ·rename_i h2;exact absurd ((beq_true h2).trans (beq_true h1).symm) hne
   rfl
  rfl
theorem BB {t:Nat}:∀ (l:List (Nat × Value)),look (dG l) t=look l t
 |[]=>rfl
 |(k,v)::r=>by
  unfold dG;rw [JX,aB,aB,BB r]
def uF (k:Nat):List Nat→List Nat
 |[]=>[k]
 |j::r=>match Nat.blt k j with|true=>k::j::r|false=>j::uF k r
theorem P5 {k i:Nat}:∀ {l:List Nat},i∈uF k l↔i=k∨i∈l
 |[]=>by simp [uF]
 |j::r=>by
  unfold uF;split
  ·simp
  simp only [List.mem_cons,P5];constructor
  ·rintro (h|h|h)
   ·exact .inr (.inl h)
   ·exact .inl h
   exact .inr (.inr h)
  rintro (h|h|h)
  ·exact .inr (.inl h)
  ·exact .inl h
  exact .inr (.inr h)
def mA (A:Ar)(T:cQ)(C:VC)(Y:VY)(tn:Nat)(ops:List Oper)(K:KS):Nat→List Nat→KS
 |0,_=>K
 |n+1,done=>fun e h nx=>match eG ops done ops 0 with
  |[]=>K e h nx
  |i::r=>ME (fun j=>match eL ops j with|some o=>lZ A T C Y tn ops o e h nx (fun e' h' nx'=>mA A T C Y tn ops K n (uF j done) (dG e') h' nx')|none=>False) (i::r)
section
variable {A:Ar}{T:cQ}{C:VC}{Y:VY}{tn:Nat}
theorem nG {e e':List (Nat × Value)}(h:∀ t,look e t=look e' t):cK e=cK e':=by
 funext x;cases x <;> simp [cK,h]
theorem wJ {e e':List (Nat × Value)}(h:∀ t,look e t=look e' t):kM e=kM e':=by
 funext l
 induction l with
 |nil=>rfl
 |cons x r ih=>obtain⟨i,x⟩:=x;simp only [kM,nG h,ih]
theorem CU {e e':List (Nat × Value)}(h:∀ t,look e t=look e' t):jL e=jL e':=by
 funext l
 induction l with
 |nil=>rfl
 |cons x r ih=>simp only [jL,nG h,ih]
theorem O6 {e e':List (Nat × Value)}(h:∀ t,look e t=look e' t):kY e=kY e':=by
 funext x;cases x <;> simp only [kY,nG h]
theorem QX {e e':List (Nat × Value)}(h:∀ t,look e t=look e' t):AO e=AO e':=by
 funext l
 induction l with
 |nil=>rfl
 |cons x r ih=>simp only [AO,nG h,ih]
theorem OU {e e':List (Nat × Value)}(h:∀ t,look e t=look e' t){g:Heap}{op:Op}{K:Value→Prop}:jC A T e g op K=jC A T e' g op K:=by
 unfold jC;rw [nG h,wJ h,CU h,QX h]
theorem ZK {e e':List (Nat × Value)}(h:∀ t,look e t=look e' t){g:Heap}{nx:Nat}{op:Op}{K:KE}:pD A T C Y e g nx op K=pD A T C Y e' g nx op K:=by
 unfold pD;rw [nG h,wJ h,CU h,O6 h];simp only [OU h]
theorem A5 {e e':List (Nat × Value)}(h:∀ t,look e t=look e' t){k:Nat}{v:Value}(t:Nat):look (put e k v) t=look (put e' k v) t:=by
 unfold put;rw [aB,aB,h]
theorem E8 {e e':List (Nat × Value)}(h:∀ t,look e t=look e' t){d:Option Nat}{v:Value}{F G:List (Nat × Value)→Prop}(hK:∀ e e',(∀ t,look e t=look e' t)→F e→G e')(hl:dZ tn e d v F):dZ tn e' d v G:=by
 unfold dZ at hl ⊢;split at hl
 ·exact hK _ _ h hl
 split at hl
 ·exact hK _ _ (A5 h) hl
 exact hl.elim
theorem NH {ops:List Oper}{e e':List (Nat × Value)}(h:∀ t,look e t=look e' t){g:Option (Nat × Bool)}{Yk N Yk' N':List (Nat × Value)→Prop}(hY:∀ e e',(∀ t,look e t=look e' t)→Yk e→Yk' e')(hN:∀ e e',(∀ t,look e t=look e' t)→N e→N' e')
  (hl:fC A ops e g Yk N):fC A ops e' g Yk' N':=by
 unfold fC at hl ⊢;split at hl
 ·exact hY _ _ h hl
 rename_i j want;split at hl
 ·rename_i o ho;split at hl
  ·rename_i t ht;rw [← h t];split at hl
   ·rename_i b hb;rw [aIe] at hl ⊢;rcases hl with ⟨h1,h2⟩|⟨h1,h2⟩
    ·exact .inl ⟨h1,hY _ _ (A5 h) h2⟩
    exact .inr ⟨h1,hN _ _ (A5 h) h2⟩
   ·exact hN _ _ h hl
   exact hl.elim
  exact hl.elim
 exact hl.elim
theorem E7 {d d':List Nat}(h:∀ i,i∈d↔i∈d')(i:Nat):memB i d=memB i d':=by
 cases h1:memB i d with
 |true=>exact (dI.2 ((h i).1 (dI.1 h1))).symm
 |false =>
  cases h2:memB i d' with
  |false=>rfl
  |true=>rw [dI.2 ((h i).2 (dI.1 h2))] at h1;cases h1
theorem allM_congr {d d':List Nat}(h:∀ i,i∈d↔i∈d')(m:List Nat):allM d m=allM d' m:=by
 induction m with
 |nil=>rfl
 |cons x r ih=>simp only [allM,E7 h,ih]
theorem zZ {all:List Oper}{d d':List Nat}(h:∀ i,i∈d↔i∈d'):∀ (l:List Oper) (i:Nat),eG all d l i=eG all d' l i
 |[],_=>rfl
 |o::r,i=>by simp only [eG,E7 h,allM_congr h,zZ h r]
theorem fE.mono {E:KE→Prop}(hE:fE E){K K':KE}(h:∀ v h nx,K v h nx→K' v h nx)(hl:E K):E K':=by
 obtain⟨v,g,nx,h1,h2⟩:=hE K hl;exact h2 K' (h _ _ _ h1)
theorem Q2 (hC:dS C)(hY:dS Y){ops:List Oper}{o:Oper}{e e':List (Nat × Value)}(h:∀ t,look e t=look e' t){g:Heap}{nx:Nat}{K K':KS}(hK:∀ e e' g nx,(∀ t,look e t=look e' t)→K e g nx→K' e' g nx)
  (hl:lZ A T C Y tn ops o e g nx K):lZ A T C Y tn ops o e' g nx K':=by
 unfold lZ at hl ⊢;refine NH h (fun e1 e2 h12 h1=>?_) (fun e1 e2 h12 h1=>?_) hl
 ·rw [ZK (e':=e2) h12] at h1;exact (DT hC hY).mono (fun v g' nx' h2=>E8 h12 (fun a b hab h3=>hK a b g' nx' hab h3) h2) h1
 exact E8 h12 (fun a b hab h3=>hK a b g nx hab h3) h1
theorem KK (hC:dS C)(hY:dS Y){ops:List Oper}{K:KS}(hK:∀ e e' g nx,(∀ t,look e t=look e' t)→K e g nx→K e' g nx) :
  ∀ n (done done':List Nat) (e e':List (Nat × Value)) (g:Heap) (nx:Nat),(∀ i,i∈done↔i∈done')→(∀ t,look e t=look e' t)→mA A T C Y tn ops K n done e g nx→vany A T C Y tn ops K n done' e' g nx
 |0,done,done',e,e',g,nx,hd,he,hl=>hK _ _ _ _ he hl
 |n+1,done,done',e,e',g,nx,hd,he,hl=>by
  unfold mA at hl;unfold vany;rw [← zZ hd];split at hl
  ·rename_i hr;rw [hr];exact hK _ _ _ _ he hl
  rename_i hr;rw [hr];simp only;rw [uE] at hl ⊢;intro i hi;have h1:=hl i hi;split at h1
  ·rename_i o ho;rw [ho];refine Q2 hC hY he (fun a b g' nx' hab h2=>?_) h1;refine KK hC hY hK n _ _ _ _ _ _ (fun k=>?_) (fun t=>?_) h2
   ·rw [P5,List.mem_cons,hd k]
   rw [BB,hab]
  exact h1.elim
theorem UH {b:Nat}{I:KS}(e e':List (Nat × Value))(g:Heap)(nx:Nat)(h:∀ t,look e t=look e' t)(hi:r5 b I e g nx):r5 b I e' g nx:=by
 obtain⟨e0,h0,n0,ρ,hI,r⟩:=hi;exact⟨e0,h0,n0,ρ,hI,fun t v hv=>by rw [← h t];exact r.env t v hv,r.heap,r.inj,r.fix,r.le⟩
theorem aGr (hC:dS C)(hY:dS Y){ops:List Oper}{b:Nat}{I:KS}{n:Nat}{e:List (Nat × Value)}{g:Heap}{nx:Nat}(hl:mA A T C Y tn ops (r5 b I) n [] (dG e) g nx):vany A T C Y tn ops (r5 b I) n [] e g nx :=
 KK hC hY UH n [] [] _ _ _ _ (fun _=>Iff.rfl) (fun t=>BB e) hl
end
set_option maxRecDepth 100000
def rn (L:List (Nat × Nat))(k:Nat):Nat:=match look L k with|some q=>q|none=>k
theorem yI {b n0 nx:Nat}{I:KS}{e0 e:List (Nat × Value)}{h0 h:Heap}(L:List (Nat × Nat))(hI:I e0 h0 n0)(he:∀ p∈e0,look e p.1=some (fL (rn L) p.2)∧x6 n0 p.2)
  (hh:∀ p∈h0,p.1<n0∧∃ o',look h (rn L p.1)=some o'∧bT (rn L) n0 p.2 o') (hi:∀ k∈h0.map Prod.fst,∀ k'∈h0.map Prod.fst,rn L k=rn L k'→k=k') (hL:∀ p∈L,b≤p.1) (hb:b≤n0):r5 b I e h nx:=by
 refine⟨e0,h0,n0,rn L,hI,fun t v hv=>he (t,v) (aW hv),fun k o hk=>hh (k,o) (aW hk),fun k k' o o' hk hk' e=>hi _ (List.mem_map.2 ⟨_,aW hk,rfl⟩) _ (List.mem_map.2 ⟨_,aW hk',rfl⟩) e,fun k hk=>?_,hb⟩;unfold rn;split
 ·rename_i q hq;have:=hL _ (aW hq);simp only at this;omega
 rfl
def qB (nP nE:Nat)(c1 c2:Nat)(F:Int)(all out face:Value):List Value:=[.slice (some ⟨0,0,none⟩) nP c1,.slice (some ⟨1,0,none⟩) nE c2,iv F,all,out,face]
def aM:Value:=.slice none 0 0
def rV (l:List Pt)(m:List Ed)(c1 c2:Nat)(n:Int):Heap :=
 (5,.cells true false 1 (rep l.length [aM]))::(3,.cells true false 1 [.pointer (some ⟨4,0,none⟩)])::(4,.cells true false 1 (qB l.length m.length c1 c2 n aM (.slice (some ⟨5,0,none⟩) l.length l.length) aM)) ::
 (2,mY l.length m.length c1 c2 n)::bR dC dP l m
theorem SD (n:Nat):dL (rep n [.slice none 0 0])=true:=by
 induction n with
 |zero=>rfl
 |succ n ih=>exact ih
def O8:List (Nat × Value):=[(1,.pointer (some ⟨2,0,none⟩)),(3,.pointer (some ⟨3,0,none⟩))]
def AK (nP nE:Nat)(c1 c2:Nat)(F:Int)(all out face:Value):Value:=.agg #[.slice (some ⟨0,0,none⟩) nP c1,.slice (some ⟨1,0,none⟩) nE c2,iv F,all,out,face]
def aJQ (id:Nat)(c:Code):Option (Array Oper) :=
 @Code.rec (fun _=>Option (Array Oper)) none (fun i ops _=>match Nat.beq i id with|true=>some ops|false=>none) (fun _ _ a b=>match a with|some x=>some x|none=>b)
  (fun _ _ _ a b=>match a with|some x=>some x|none=>b) (fun _ _ a=>a) (fun _ a=>a) (fun _ _ _ _ a b=>match a with|some x=>some x|none=>b) (fun _=>none) (fun _ a=>a) (fun _=>none) (fun _=>none) none (fun _=>none) c
def uJ:Array Oper:=match Go.Proofs.Tryz.f81.body with|some c=>(match aJQ 1 c with|some o=>o|none=>#[])|none=>#[]
def aIz:VC:=CX (look [(104,RQ (HX 1000))])
def aL1 (l:List Pt)(m:List Ed)(n:Int)(c1 c2:Nat):KS:=fun e h nx=>e=O8∧h=rV l m c1 c2 n∧nx=6
def vst (A:Ar)(T:cQ)(C:VC)(Y:VY)(tn:Nat)(ops:List Oper)(j:Nat)(e:List (Nat × Value))(h:Heap)(nx:Nat)(K:KS):Prop:=match eL ops j with|some o=>lZ A T C Y tn ops o e h nx K|none=>False
section
variable {A:Ar}{T:cQ}{C:VC}{Y:VY}{tn:Nat}{ops:List Oper}{K:KS}{n:Nat}{done:List Nat}{e:List (Nat × Value)}{h:Heap}{nx:Nat}
theorem aF9 {i:Nat}(hr:eG ops done ops 0=[i])(h1:vst A T C Y tn ops i e h nx (fun e' h' nx'=>mA A T C Y tn ops K n (uF i done) (dG e') h' nx')):mA A T C Y tn ops K (n+1) done e h nx:=by
 unfold mA;rw [hr];exact h1
theorem aFy {i j:Nat}(hr:eG ops done ops 0=[i,j])(h1:vst A T C Y tn ops i e h nx (fun e' h' nx'=>mA A T C Y tn ops K n (uF i done) (dG e') h' nx'))(h2:vst A T C Y tn ops j e h nx (fun e' h' nx'=>mA A T C Y tn ops K n (uF j done) (dG e') h' nx')):mA A T C Y tn ops K (n+1) done e h nx:=by
 unfold mA;rw [hr];exact⟨h1,h2⟩
theorem aE7 {i j k:Nat}(hr:eG ops done ops 0=[i,j,k])(h1:vst A T C Y tn ops i e h nx (fun e' h' nx'=>mA A T C Y tn ops K n (uF i done) (dG e') h' nx'))(h2:vst A T C Y tn ops j e h nx (fun e' h' nx'=>mA A T C Y tn ops K n (uF j done) (dG e') h' nx'))
  (h3:vst A T C Y tn ops k e h nx (fun e' h' nx'=>mA A T C Y tn ops K n (uF k done) (dG e') h' nx')):mA A T C Y tn ops K (n+1) done e h nx:=by
 unfold mA;rw [hr];exact⟨h1,h2,h3⟩
end
abbrev eF (j:Nat)(e:List (Nat × Value))(h:Heap)(nx:Nat)(K:KS):Prop:=vst aA.A aA.T aIz noY Go.Proofs.Tryz.f81.ntmps uJ.toList j e h nx K
structure fO (l:List Pt) (m:List Ed) (n:Int) (c1 c2:Nat) (k:Nat) (done:List Nat) (e:List (Nat × Value)) (h:Heap) (nx:Nat):Prop where
 h:mA aA.A aA.T aIz noY Go.Proofs.Tryz.f81.ntmps uJ.toList (r5 2 (aL1 l m n c1 c2)) k done e h nx
section
variable {l:List Pt}{m:List Ed}{n:Int}{c1 c2 k:Nat}{done:List Nat}{e e1 e2 e3:List (Nat × Value)}{h h1 h2 h3:Heap}{nx nx1 nx2 nx3 i i2 i3:Nat}
abbrev KI (i:Nat)(e:List (Nat × Value))(h:Heap)(nx:Nat)(e1:List (Nat × Value))(h1:Heap)(nx1:Nat):Prop:=∀ K:KS,K e1 h1 nx1→eF i e h nx (fun e' h' nx'=>K (dG e') h' nx')
theorem kH (hr:eG uJ.toList done uJ.toList 0=[i])(s1:KI i e h nx e1 h1 nx1)(d1:fO l m n c1 c2 k (uF i done) e1 h1 nx1):fO l m n c1 c2 (k+1) done e h nx:=⟨aF9 hr (s1 _ d1.h)⟩
theorem oB (hr:eG uJ.toList done uJ.toList 0=[i,i2])(s1:KI i e h nx e1 h1 nx1)(d1:fO l m n c1 c2 k (uF i done) e1 h1 nx1)(s2:KI i2 e h nx e2 h2 nx2)(d2:fO l m n c1 c2 k (uF i2 done) e2 h2 nx2):fO l m n c1 c2 (k+1) done e h nx:=⟨aFy hr (s1 _ d1.h) (s2 _ d2.h)⟩
theorem MF (hr:eG uJ.toList done uJ.toList 0=[i,i2,i3])(s1:KI i e h nx e1 h1 nx1)(d1:fO l m n c1 c2 k (uF i done) e1 h1 nx1)(s2:KI i2 e h nx e2 h2 nx2)(d2:fO l m n c1 c2 k (uF i2 done) e2 h2 nx2)(s3:KI i3 e h nx e3 h3 nx3)(d3:fO l m n c1 c2 k (uF i3 done) e3 h3 nx3):fO l m n c1 c2 (k+1) done e h nx:=⟨aE7 hr (s1 _ d1.h) (s2 _ d2.h) (s3 _ d3.h)⟩
end
abbrev pQ (k:Nat):Value:=.pointer (some ⟨k,0,none⟩)
abbrev sQ (k N c:Nat):Value:=.slice (some ⟨k,0,none⟩) N c
abbrev mQ (l:List Pt)(m:List Ed)(n:Int)(c1 c2:Nat):Value:=l8 l.length m.length c1 c2 n
abbrev hQ (l:List Pt)(m:List Ed)(n:Int)(c1 c2:Nat):Heap:=(2,mY l.length m.length c1 c2 n)::bR dC dP l m
theorem wY (l:List Pt)(m:List Ed)(n:Int)(c1 c2:Nat)(hl:l.length≤400):fO l m n c1 c2 0 [0,1,2,3,4,5,6,7,8] [(0,mQ l m n c1 c2),(1,pQ 2),(2,.pointer none),(3,pQ 5),(12,mQ l m n c1 c2),(13,pQ 2),(14,sQ 0 l.length c1),(15,iv l.length),(16,sQ 3 l.length l.length),(17,AK l.length m.length c1 c2 n aM (sQ 3 l.length l.length) aM),(18,pQ 4)] ((5,.cells true false 1 [pQ 4])::(4,.cells true false 1 (qB l.length m.length c1 c2 n aM (sQ 3 l.length l.length) aM))::(3,.cells true false 1 (rep l.length [aM]))::hQ l m n c1 c2) 6 :=
 ⟨yI (e0:=O8) (h0:=rV l m c1 c2 n) (n0:=6) [(3,5),(4,4),(5,3)] ⟨rfl,rfl,rfl⟩ (List.forall_mem_cons.2 ⟨⟨rfl,⟨by decide,rfl⟩⟩,List.forall_mem_cons.2 ⟨⟨rfl,⟨by decide,rfl⟩⟩,fun _ h=>(by cases h)⟩⟩)
  (by
   unfold rV mY bR qB aM;refine List.forall_mem_cons.2 ⟨⟨Nat.le_of_ble_eq_true rfl,_,rfl,aG (SD _)⟩,?_⟩;((repeat'(first|refine iF rfl rfl ?_|refine iC rfl rfl rfl ?_|refine iJ rfl rfl rfl rfl ?_));exact iN))
  (by show ∀ k∈[5,3,4,2,0,1],∀ k'∈[5,3,4,2,0,1],_;decide) (by decide) (by decide)⟩
theorem tG (l:List Pt)(m:List Ed)(n:Int)(c1 c2:Nat)(hl:l.length≤400)(K:KS)(hk:K [(0,mQ l m n c1 c2),(1,pQ 2),(2,.pointer none),(3,pQ 5),(12,mQ l m n c1 c2),(13,pQ 2),(14,sQ 0 l.length c1),(15,iv l.length),(16,sQ 3 l.length l.length),(17,AK l.length m.length c1 c2 n aM (sQ 3 l.length l.length) aM),(18,pQ 4)] ((5,.cells true false 1 [pQ 4])::(4,.cells true false 1 (qB l.length m.length c1 c2 n aM (sQ 3 l.length l.length) aM))::(3,.cells true false 1 (rep l.length [aM]))::hQ l m n c1 c2) 6):eF 8 [(0,mQ l m n c1 c2),(1,pQ 2),(2,.pointer none),(3,pQ 5),(12,mQ l m n c1 c2),(13,pQ 2),(14,sQ 0 l.length c1),(15,iv l.length),(16,sQ 3 l.length l.length),(17,AK l.length m.length c1 c2 n aM (sQ 3 l.length l.length) aM),(18,pQ 4)] ((5,.cells true false 1 [.pointer none])::(4,.cells true false 1 (qB l.length m.length c1 c2 n aM (sQ 3 l.length l.length) aM))::(3,.cells true false 1 (rep l.length [aM]))::hQ l m n c1 c2) 6 (fun e' h' nx'=>K (dG e') h' nx'):=by
 conv=>whnf
 exact hk
theorem zV (l:List Pt)(m:List Ed)(n:Int)(c1 c2:Nat)(hl:l.length≤400):fO l m n c1 c2 1 [0,1,2,3,4,5,6,7] [(0,mQ l m n c1 c2),(1,pQ 2),(2,.pointer none),(3,pQ 5),(12,mQ l m n c1 c2),(13,pQ 2),(14,sQ 0 l.length c1),(15,iv l.length),(16,sQ 3 l.length l.length),(17,AK l.length m.length c1 c2 n aM (sQ 3 l.length l.length) aM),(18,pQ 4)] ((5,.cells true false 1 [.pointer none])::(4,.cells true false 1 (qB l.length m.length c1 c2 n aM (sQ 3 l.length l.length) aM))::(3,.cells true false 1 (rep l.length [aM]))::hQ l m n c1 c2) 6 :=
 kH (k:=0) (done:=[0,1,2,3,4,5,6,7]) rfl (tG l m n c1 c2 hl) (wY l m n c1 c2 hl)
theorem vN (l:List Pt)(m:List Ed)(n:Int)(c1 c2:Nat)(hl:l.length≤400)(K:KS)(hk:K [(0,mQ l m n c1 c2),(1,pQ 2),(2,.pointer none),(3,pQ 5),(12,mQ l m n c1 c2),(13,pQ 2),(14,sQ 0 l.length c1),(15,iv l.length),(16,sQ 3 l.length l.length),(17,AK l.length m.length c1 c2 n aM (sQ 3 l.length l.length) aM),(18,pQ 4)] ((5,.cells true false 1 [.pointer none])::(4,.cells true false 1 (qB l.length m.length c1 c2 n aM (sQ 3 l.length l.length) aM))::(3,.cells true false 1 (rep l.length [aM]))::hQ l m n c1 c2) 6):eF 7 [(0,mQ l m n c1 c2),(1,pQ 2),(2,.pointer none),(12,mQ l m n c1 c2),(13,pQ 2),(14,sQ 0 l.length c1),(15,iv l.length),(16,sQ 3 l.length l.length),(17,AK l.length m.length c1 c2 n aM (sQ 3 l.length l.length) aM),(18,pQ 4)] ((4,.cells true false 1 (qB l.length m.length c1 c2 n aM (sQ 3 l.length l.length) aM))::(3,.cells true false 1 (rep l.length [aM]))::hQ l m n c1 c2) 5 (fun e' h' nx'=>K (dG e') h' nx'):=by
 conv=>whnf
 exact hk
theorem BZ (l:List Pt)(m:List Ed)(n:Int)(c1 c2:Nat)(hl:l.length≤400):fO l m n c1 c2 2 [0,1,2,3,4,5,6] [(0,mQ l m n c1 c2),(1,pQ 2),(2,.pointer none),(12,mQ l m n c1 c2),(13,pQ 2),(14,sQ 0 l.length c1),(15,iv l.length),(16,sQ 3 l.length l.length),(17,AK l.length m.length c1 c2 n aM (sQ 3 l.length l.length) aM),(18,pQ 4)] ((4,.cells true false 1 (qB l.length m.length c1 c2 n aM (sQ 3 l.length l.length) aM))::(3,.cells true false 1 (rep l.length [aM]))::hQ l m n c1 c2) 5 :=
 kH (k:=1) (done:=[0,1,2,3,4,5,6]) rfl (vN l m n c1 c2 hl) (zV l m n c1 c2 hl)
theorem xS (l:List Pt)(m:List Ed)(n:Int)(c1 c2:Nat)(hl:l.length≤400):fO l m n c1 c2 0 [0,1,2,3,4,5,6,7,8] [(0,mQ l m n c1 c2),(1,pQ 2),(2,.pointer none),(3,pQ 4),(12,mQ l m n c1 c2),(13,pQ 2),(14,sQ 0 l.length c1),(15,iv l.length),(16,sQ 3 l.length l.length),(17,AK l.length m.length c1 c2 n aM (sQ 3 l.length l.length) aM),(18,pQ 5)] ((5,.cells true false 1 (qB l.length m.length c1 c2 n aM (sQ 3 l.length l.length) aM))::(4,.cells true false 1 [pQ 5])::(3,.cells true false 1 (rep l.length [aM]))::hQ l m n c1 c2) 6 :=
 ⟨yI (e0:=O8) (h0:=rV l m c1 c2 n) (n0:=6) [(3,4),(4,5),(5,3)] ⟨rfl,rfl,rfl⟩ (List.forall_mem_cons.2 ⟨⟨rfl,⟨by decide,rfl⟩⟩,List.forall_mem_cons.2 ⟨⟨rfl,⟨by decide,rfl⟩⟩,fun _ h=>(by cases h)⟩⟩)
  (by
   unfold rV mY bR qB aM;refine List.forall_mem_cons.2 ⟨⟨Nat.le_of_ble_eq_true rfl,_,rfl,aG (SD _)⟩,?_⟩;((repeat'(first|refine iF rfl rfl ?_|refine iC rfl rfl rfl ?_|refine iJ rfl rfl rfl rfl ?_));exact iN))
  (by show ∀ k∈[5,3,4,2,0,1],∀ k'∈[5,3,4,2,0,1],_;decide) (by decide) (by decide)⟩
theorem tF (l:List Pt)(m:List Ed)(n:Int)(c1 c2:Nat)(hl:l.length≤400)(K:KS)(hk:K [(0,mQ l m n c1 c2),(1,pQ 2),(2,.pointer none),(3,pQ 4),(12,mQ l m n c1 c2),(13,pQ 2),(14,sQ 0 l.length c1),(15,iv l.length),(16,sQ 3 l.length l.length),(17,AK l.length m.length c1 c2 n aM (sQ 3 l.length l.length) aM),(18,pQ 5)] ((5,.cells true false 1 (qB l.length m.length c1 c2 n aM (sQ 3 l.length l.length) aM))::(4,.cells true false 1 [pQ 5])::(3,.cells true false 1 (rep l.length [aM]))::hQ l m n c1 c2) 6):eF 8 [(0,mQ l m n c1 c2),(1,pQ 2),(2,.pointer none),(3,pQ 4),(12,mQ l m n c1 c2),(13,pQ 2),(14,sQ 0 l.length c1),(15,iv l.length),(16,sQ 3 l.length l.length),(17,AK l.length m.length c1 c2 n aM (sQ 3 l.length l.length) aM),(18,pQ 5)] ((5,.cells true false 1 (qB l.length m.length c1 c2 n aM (sQ 3 l.length l.length) aM))::(4,.cells true false 1 [.pointer none])::(3,.cells true false 1 (rep l.length [aM]))::hQ l m n c1 c2) 6 (fun e' h' nx'=>K (dG e') h' nx'):=by
 conv=>whnf
 exact hk
theorem yZ (l:List Pt)(m:List Ed)(n:Int)(c1 c2:Nat)(hl:l.length≤400):fO l m n c1 c2 1 [0,1,2,3,4,5,6,7] [(0,mQ l m n c1 c2),(1,pQ 2),(2,.pointer none),(3,pQ 4),(12,mQ l m n c1 c2),(13,pQ 2),(14,sQ 0 l.length c1),(15,iv l.length),(16,sQ 3 l.length l.length),(17,AK l.length m.length c1 c2 n aM (sQ 3 l.length l.length) aM),(18,pQ 5)] ((5,.cells true false 1 (qB l.length m.length c1 c2 n aM (sQ 3 l.length l.length) aM))::(4,.cells true false 1 [.pointer none])::(3,.cells true false 1 (rep l.length [aM]))::hQ l m n c1 c2) 6 :=
 kH (k:=0) (done:=[0,1,2,3,4,5,6,7]) rfl (tF l m n c1 c2 hl) (xS l m n c1 c2 hl)
theorem vS (l:List Pt)(m:List Ed)(n:Int)(c1 c2:Nat)(hl:l.length≤400)(K:KS)(hk:K [(0,mQ l m n c1 c2),(1,pQ 2),(2,.pointer none),(3,pQ 4),(12,mQ l m n c1 c2),(13,pQ 2),(14,sQ 0 l.length c1),(15,iv l.length),(16,sQ 3 l.length l.length),(17,AK l.length m.length c1 c2 n aM (sQ 3 l.length l.length) aM),(18,pQ 5)] ((5,.cells true false 1 (qB l.length m.length c1 c2 n aM (sQ 3 l.length l.length) aM))::(4,.cells true false 1 [.pointer none])::(3,.cells true false 1 (rep l.length [aM]))::hQ l m n c1 c2) 6):eF 6 [(0,mQ l m n c1 c2),(1,pQ 2),(2,.pointer none),(3,pQ 4),(12,mQ l m n c1 c2),(13,pQ 2),(14,sQ 0 l.length c1),(15,iv l.length),(16,sQ 3 l.length l.length),(17,AK l.length m.length c1 c2 n aM (sQ 3 l.length l.length) aM)] ((4,.cells true false 1 [.pointer none])::(3,.cells true false 1 (rep l.length [aM]))::hQ l m n c1 c2) 5 (fun e' h' nx'=>K (dG e') h' nx'):=by
 conv=>whnf
 exact hk
theorem qC (l:List Pt)(m:List Ed)(n:Int)(c1 c2:Nat)(hl:l.length≤400):fO l m n c1 c2 2 [0,1,2,3,4,5,7] [(0,mQ l m n c1 c2),(1,pQ 2),(2,.pointer none),(3,pQ 4),(12,mQ l m n c1 c2),(13,pQ 2),(14,sQ 0 l.length c1),(15,iv l.length),(16,sQ 3 l.length l.length),(17,AK l.length m.length c1 c2 n aM (sQ 3 l.length l.length) aM)] ((4,.cells true false 1 [.pointer none])::(3,.cells true false 1 (rep l.length [aM]))::hQ l m n c1 c2) 5 :=
 kH (k:=1) (done:=[0,1,2,3,4,5,7]) rfl (vS l m n c1 c2 hl) (yZ l m n c1 c2 hl)
theorem wZ (l:List Pt)(m:List Ed)(n:Int)(c1 c2:Nat)(hl:l.length≤400)(K:KS)(hk:K [(0,mQ l m n c1 c2),(1,pQ 2),(2,.pointer none),(12,mQ l m n c1 c2),(13,pQ 2),(14,sQ 0 l.length c1),(15,iv l.length),(16,sQ 3 l.length l.length),(17,AK l.length m.length c1 c2 n aM (sQ 3 l.length l.length) aM),(18,pQ 4)] ((4,.cells true false 1 (qB l.length m.length c1 c2 n aM (sQ 3 l.length l.length) aM))::(3,.cells true false 1 (rep l.length [aM]))::hQ l m n c1 c2) 5):eF 6 [(0,mQ l m n c1 c2),(1,pQ 2),(2,.pointer none),(12,mQ l m n c1 c2),(13,pQ 2),(14,sQ 0 l.length c1),(15,iv l.length),(16,sQ 3 l.length l.length),(17,AK l.length m.length c1 c2 n aM (sQ 3 l.length l.length) aM)] ((3,.cells true false 1 (rep l.length [aM]))::hQ l m n c1 c2) 4 (fun e' h' nx'=>K (dG e') h' nx'):=by
 conv=>whnf
 exact hk
theorem xW (l:List Pt)(m:List Ed)(n:Int)(c1 c2:Nat)(hl:l.length≤400)(K:KS)(hk:K [(0,mQ l m n c1 c2),(1,pQ 2),(2,.pointer none),(3,pQ 4),(12,mQ l m n c1 c2),(13,pQ 2),(14,sQ 0 l.length c1),(15,iv l.length),(16,sQ 3 l.length l.length),(17,AK l.length m.length c1 c2 n aM (sQ 3 l.length l.length) aM)] ((4,.cells true false 1 [.pointer none])::(3,.cells true false 1 (rep l.length [aM]))::hQ l m n c1 c2) 5):eF 7 [(0,mQ l m n c1 c2),(1,pQ 2),(2,.pointer none),(12,mQ l m n c1 c2),(13,pQ 2),(14,sQ 0 l.length c1),(15,iv l.length),(16,sQ 3 l.length l.length),(17,AK l.length m.length c1 c2 n aM (sQ 3 l.length l.length) aM)] ((3,.cells true false 1 (rep l.length [aM]))::hQ l m n c1 c2) 4 (fun e' h' nx'=>K (dG e') h' nx'):=by
 conv=>whnf
 exact hk
theorem DG (l:List Pt)(m:List Ed)(n:Int)(c1 c2:Nat)(hl:l.length≤400):fO l m n c1 c2 3 [0,1,2,3,4,5] [(0,mQ l m n c1 c2),(1,pQ 2),(2,.pointer none),(12,mQ l m n c1 c2),(13,pQ 2),(14,sQ 0 l.length c1),(15,iv l.length),(16,sQ 3 l.length l.length),(17,AK l.length m.length c1 c2 n aM (sQ 3 l.length l.length) aM)] ((3,.cells true false 1 (rep l.length [aM]))::hQ l m n c1 c2) 4 :=
 oB (k:=2) (done:=[0,1,2,3,4,5]) rfl (wZ l m n c1 c2 hl) (BZ l m n c1 c2 hl) (xW l m n c1 c2 hl) (qC l m n c1 c2 hl)
theorem wV (l:List Pt)(m:List Ed)(n:Int)(c1 c2:Nat)(hl:l.length≤400)(K:KS)(hk:K [(0,mQ l m n c1 c2),(1,pQ 2),(2,.pointer none),(3,pQ 4),(12,mQ l m n c1 c2),(13,pQ 2),(14,sQ 0 l.length c1),(15,iv l.length),(16,sQ 3 l.length l.length),(17,AK l.length m.length c1 c2 n aM (sQ 3 l.length l.length) aM)] ((4,.cells true false 1 [.pointer none])::(3,.cells true false 1 (rep l.length [aM]))::hQ l m n c1 c2) 5):eF 5 [(0,mQ l m n c1 c2),(1,pQ 2),(2,.pointer none),(3,pQ 4),(12,mQ l m n c1 c2),(13,pQ 2),(14,sQ 0 l.length c1),(15,iv l.length),(16,sQ 3 l.length l.length)] ((4,.cells true false 1 [.pointer none])::(3,.cells true false 1 (rep l.length [aM]))::hQ l m n c1 c2) 5 (fun e' h' nx'=>K (dG e') h' nx'):=by
 conv=>whnf
 exact hk
theorem rT (l:List Pt)(m:List Ed)(n:Int)(c1 c2:Nat)(hl:l.length≤400):fO l m n c1 c2 3 [0,1,2,3,4,7] [(0,mQ l m n c1 c2),(1,pQ 2),(2,.pointer none),(3,pQ 4),(12,mQ l m n c1 c2),(13,pQ 2),(14,sQ 0 l.length c1),(15,iv l.length),(16,sQ 3 l.length l.length)] ((4,.cells true false 1 [.pointer none])::(3,.cells true false 1 (rep l.length [aM]))::hQ l m n c1 c2) 5 :=
 kH (k:=2) (done:=[0,1,2,3,4,7]) rfl (wV l m n c1 c2 hl) (qC l m n c1 c2 hl)
theorem yW (l:List Pt)(m:List Ed)(n:Int)(c1 c2:Nat)(hl:l.length≤400)(K:KS)(hk:K [(0,mQ l m n c1 c2),(1,pQ 2),(2,.pointer none),(12,mQ l m n c1 c2),(13,pQ 2),(14,sQ 0 l.length c1),(15,iv l.length),(16,sQ 3 l.length l.length),(17,AK l.length m.length c1 c2 n aM (sQ 3 l.length l.length) aM)] ((3,.cells true false 1 (rep l.length [aM]))::hQ l m n c1 c2) 4):eF 5 [(0,mQ l m n c1 c2),(1,pQ 2),(2,.pointer none),(12,mQ l m n c1 c2),(13,pQ 2),(14,sQ 0 l.length c1),(15,iv l.length),(16,sQ 3 l.length l.length)] ((3,.cells true false 1 (rep l.length [aM]))::hQ l m n c1 c2) 4 (fun e' h' nx'=>K (dG e') h' nx'):=by
 conv=>whnf
 exact hk
theorem AH (l:List Pt)(m:List Ed)(n:Int)(c1 c2:Nat)(hl:l.length≤400)(K:KS)(hk:K [(0,mQ l m n c1 c2),(1,pQ 2),(2,.pointer none),(3,pQ 4),(12,mQ l m n c1 c2),(13,pQ 2),(14,sQ 0 l.length c1),(15,iv l.length),(16,sQ 3 l.length l.length)] ((4,.cells true false 1 [.pointer none])::(3,.cells true false 1 (rep l.length [aM]))::hQ l m n c1 c2) 5):eF 7 [(0,mQ l m n c1 c2),(1,pQ 2),(2,.pointer none),(12,mQ l m n c1 c2),(13,pQ 2),(14,sQ 0 l.length c1),(15,iv l.length),(16,sQ 3 l.length l.length)] ((3,.cells true false 1 (rep l.length [aM]))::hQ l m n c1 c2) 4 (fun e' h' nx'=>K (dG e') h' nx'):=by
 conv=>whnf
 exact hk
theorem sE (l:List Pt)(m:List Ed)(n:Int)(c1 c2:Nat)(hl:l.length≤400):fO l m n c1 c2 4 [0,1,2,3,4] [(0,mQ l m n c1 c2),(1,pQ 2),(2,.pointer none),(12,mQ l m n c1 c2),(13,pQ 2),(14,sQ 0 l.length c1),(15,iv l.length),(16,sQ 3 l.length l.length)] ((3,.cells true false 1 (rep l.length [aM]))::hQ l m n c1 c2) 4 :=
 oB (k:=3) (done:=[0,1,2,3,4]) rfl (yW l m n c1 c2 hl) (DG l m n c1 c2 hl) (AH l m n c1 c2 hl) (rT l m n c1 c2 hl)
theorem xG (l:List Pt)(m:List Ed)(n:Int)(c1 c2:Nat)(hl:l.length≤400):fO l m n c1 c2 0 [0,1,2,3,4,5,6,7,8] [(0,mQ l m n c1 c2),(1,pQ 2),(2,.pointer none),(3,pQ 3),(12,mQ l m n c1 c2),(13,pQ 2),(14,sQ 0 l.length c1),(15,iv l.length),(16,sQ 4 l.length l.length),(17,AK l.length m.length c1 c2 n aM (sQ 4 l.length l.length) aM),(18,pQ 5)] ((5,.cells true false 1 (qB l.length m.length c1 c2 n aM (sQ 4 l.length l.length) aM))::(4,.cells true false 1 (rep l.length [aM]))::(3,.cells true false 1 [pQ 5])::hQ l m n c1 c2) 6 :=
 ⟨yI (e0:=O8) (h0:=rV l m c1 c2 n) (n0:=6) [(3,3),(4,5),(5,4)] ⟨rfl,rfl,rfl⟩ (List.forall_mem_cons.2 ⟨⟨rfl,⟨by decide,rfl⟩⟩,List.forall_mem_cons.2 ⟨⟨rfl,⟨by decide,rfl⟩⟩,fun _ h=>(by cases h)⟩⟩)
  (by
   unfold rV mY bR qB aM;refine List.forall_mem_cons.2 ⟨⟨Nat.le_of_ble_eq_true rfl,_,rfl,aG (SD _)⟩,?_⟩;((repeat'(first|refine iF rfl rfl ?_|refine iC rfl rfl rfl ?_|refine iJ rfl rfl rfl rfl ?_));exact iN))
  (by show ∀ k∈[5,3,4,2,0,1],∀ k'∈[5,3,4,2,0,1],_;decide) (by decide) (by decide)⟩
theorem tI (l:List Pt)(m:List Ed)(n:Int)(c1 c2:Nat)(hl:l.length≤400)(K:KS)(hk:K [(0,mQ l m n c1 c2),(1,pQ 2),(2,.pointer none),(3,pQ 3),(12,mQ l m n c1 c2),(13,pQ 2),(14,sQ 0 l.length c1),(15,iv l.length),(16,sQ 4 l.length l.length),(17,AK l.length m.length c1 c2 n aM (sQ 4 l.length l.length) aM),(18,pQ 5)] ((5,.cells true false 1 (qB l.length m.length c1 c2 n aM (sQ 4 l.length l.length) aM))::(4,.cells true false 1 (rep l.length [aM]))::(3,.cells true false 1 [pQ 5])::hQ l m n c1 c2) 6):eF 8 [(0,mQ l m n c1 c2),(1,pQ 2),(2,.pointer none),(3,pQ 3),(12,mQ l m n c1 c2),(13,pQ 2),(14,sQ 0 l.length c1),(15,iv l.length),(16,sQ 4 l.length l.length),(17,AK l.length m.length c1 c2 n aM (sQ 4 l.length l.length) aM),(18,pQ 5)] ((5,.cells true false 1 (qB l.length m.length c1 c2 n aM (sQ 4 l.length l.length) aM))::(4,.cells true false 1 (rep l.length [aM]))::(3,.cells true false 1 [.pointer none])::hQ l m n c1 c2) 6 (fun e' h' nx'=>K (dG e') h' nx'):=by
 conv=>whnf
 exact hk
theorem yN (l:List Pt)(m:List Ed)(n:Int)(c1 c2:Nat)(hl:l.length≤400):fO l m n c1 c2 1 [0,1,2,3,4,5,6,7] [(0,mQ l m n c1 c2),(1,pQ 2),(2,.pointer none),(3,pQ 3),(12,mQ l m n c1 c2),(13,pQ 2),(14,sQ 0 l.length c1),(15,iv l.length),(16,sQ 4 l.length l.length),(17,AK l.length m.length c1 c2 n aM (sQ 4 l.length l.length) aM),(18,pQ 5)] ((5,.cells true false 1 (qB l.length m.length c1 c2 n aM (sQ 4 l.length l.length) aM))::(4,.cells true false 1 (rep l.length [aM]))::(3,.cells true false 1 [.pointer none])::hQ l m n c1 c2) 6 :=
 kH (k:=0) (done:=[0,1,2,3,4,5,6,7]) rfl (tI l m n c1 c2 hl) (xG l m n c1 c2 hl)
theorem vR (l:List Pt)(m:List Ed)(n:Int)(c1 c2:Nat)(hl:l.length≤400)(K:KS)(hk:K [(0,mQ l m n c1 c2),(1,pQ 2),(2,.pointer none),(3,pQ 3),(12,mQ l m n c1 c2),(13,pQ 2),(14,sQ 0 l.length c1),(15,iv l.length),(16,sQ 4 l.length l.length),(17,AK l.length m.length c1 c2 n aM (sQ 4 l.length l.length) aM),(18,pQ 5)] ((5,.cells true false 1 (qB l.length m.length c1 c2 n aM (sQ 4 l.length l.length) aM))::(4,.cells true false 1 (rep l.length [aM]))::(3,.cells true false 1 [.pointer none])::hQ l m n c1 c2) 6):eF 6 [(0,mQ l m n c1 c2),(1,pQ 2),(2,.pointer none),(3,pQ 3),(12,mQ l m n c1 c2),(13,pQ 2),(14,sQ 0 l.length c1),(15,iv l.length),(16,sQ 4 l.length l.length),(17,AK l.length m.length c1 c2 n aM (sQ 4 l.length l.length) aM)] ((4,.cells true false 1 (rep l.length [aM]))::(3,.cells true false 1 [.pointer none])::hQ l m n c1 c2) 5 (fun e' h' nx'=>K (dG e') h' nx'):=by
 conv=>whnf
 exact hk
theorem A6 (l:List Pt)(m:List Ed)(n:Int)(c1 c2:Nat)(hl:l.length≤400):fO l m n c1 c2 2 [0,1,2,3,4,5,7] [(0,mQ l m n c1 c2),(1,pQ 2),(2,.pointer none),(3,pQ 3),(12,mQ l m n c1 c2),(13,pQ 2),(14,sQ 0 l.length c1),(15,iv l.length),(16,sQ 4 l.length l.length),(17,AK l.length m.length c1 c2 n aM (sQ 4 l.length l.length) aM)] ((4,.cells true false 1 (rep l.length [aM]))::(3,.cells true false 1 [.pointer none])::hQ l m n c1 c2) 5 :=
 kH (k:=1) (done:=[0,1,2,3,4,5,7]) rfl (vR l m n c1 c2 hl) (yN l m n c1 c2 hl)
theorem xP (l:List Pt)(m:List Ed)(n:Int)(c1 c2:Nat)(hl:l.length≤400)(K:KS)(hk:K [(0,mQ l m n c1 c2),(1,pQ 2),(2,.pointer none),(3,pQ 3),(12,mQ l m n c1 c2),(13,pQ 2),(14,sQ 0 l.length c1),(15,iv l.length),(16,sQ 4 l.length l.length),(17,AK l.length m.length c1 c2 n aM (sQ 4 l.length l.length) aM)] ((4,.cells true false 1 (rep l.length [aM]))::(3,.cells true false 1 [.pointer none])::hQ l m n c1 c2) 5):eF 5 [(0,mQ l m n c1 c2),(1,pQ 2),(2,.pointer none),(3,pQ 3),(12,mQ l m n c1 c2),(13,pQ 2),(14,sQ 0 l.length c1),(15,iv l.length),(16,sQ 4 l.length l.length)] ((4,.cells true false 1 (rep l.length [aM]))::(3,.cells true false 1 [.pointer none])::hQ l m n c1 c2) 5 (fun e' h' nx'=>K (dG e') h' nx'):=by
 conv=>whnf
 exact hk
theorem rR (l:List Pt)(m:List Ed)(n:Int)(c1 c2:Nat)(hl:l.length≤400):fO l m n c1 c2 3 [0,1,2,3,4,7] [(0,mQ l m n c1 c2),(1,pQ 2),(2,.pointer none),(3,pQ 3),(12,mQ l m n c1 c2),(13,pQ 2),(14,sQ 0 l.length c1),(15,iv l.length),(16,sQ 4 l.length l.length)] ((4,.cells true false 1 (rep l.length [aM]))::(3,.cells true false 1 [.pointer none])::hQ l m n c1 c2) 5 :=
 kH (k:=2) (done:=[0,1,2,3,4,7]) rfl (xP l m n c1 c2 hl) (A6 l m n c1 c2 hl)
theorem AJ (l:List Pt)(m:List Ed)(n:Int)(c1 c2:Nat)(hl:l.length≤400)(K:KS)(hk:K [(0,mQ l m n c1 c2),(1,pQ 2),(2,.pointer none),(3,pQ 3),(12,mQ l m n c1 c2),(13,pQ 2),(14,sQ 0 l.length c1),(15,iv l.length),(16,sQ 4 l.length l.length)] ((4,.cells true false 1 (rep l.length [aM]))::(3,.cells true false 1 [.pointer none])::hQ l m n c1 c2) 5):eF 4 [(0,mQ l m n c1 c2),(1,pQ 2),(2,.pointer none),(3,pQ 3),(12,mQ l m n c1 c2),(13,pQ 2),(14,sQ 0 l.length c1),(15,iv l.length)] ((3,.cells true false 1 [.pointer none])::hQ l m n c1 c2) 4 (fun e' h' nx'=>K (dG e') h' nx'):=by
 conv=>whnf
 exact bm (fun _=>hk) (fun g=>by exfalso;simp [aA,aF] at g;omega)
theorem nO (l:List Pt)(m:List Ed)(n:Int)(c1 c2:Nat)(hl:l.length≤400):fO l m n c1 c2 4 [0,1,2,3,7] [(0,mQ l m n c1 c2),(1,pQ 2),(2,.pointer none),(3,pQ 3),(12,mQ l m n c1 c2),(13,pQ 2),(14,sQ 0 l.length c1),(15,iv l.length)] ((3,.cells true false 1 [.pointer none])::hQ l m n c1 c2) 4 :=
 kH (k:=3) (done:=[0,1,2,3,7]) rfl (AJ l m n c1 c2 hl) (rR l m n c1 c2 hl)
theorem BN (l:List Pt)(m:List Ed)(n:Int)(c1 c2:Nat)(hl:l.length≤400)(K:KS)(hk:K [(0,mQ l m n c1 c2),(1,pQ 2),(2,.pointer none),(12,mQ l m n c1 c2),(13,pQ 2),(14,sQ 0 l.length c1),(15,iv l.length),(16,sQ 3 l.length l.length)] ((3,.cells true false 1 (rep l.length [aM]))::hQ l m n c1 c2) 4):eF 4 [(0,mQ l m n c1 c2),(1,pQ 2),(2,.pointer none),(12,mQ l m n c1 c2),(13,pQ 2),(14,sQ 0 l.length c1),(15,iv l.length)] (hQ l m n c1 c2) 3 (fun e' h' nx'=>K (dG e') h' nx'):=by
 conv=>whnf
 exact bm (fun _=>hk) (fun g=>by exfalso;simp [aA,aF] at g;omega)
theorem AX (l:List Pt)(m:List Ed)(n:Int)(c1 c2:Nat)(hl:l.length≤400)(K:KS)(hk:K [(0,mQ l m n c1 c2),(1,pQ 2),(2,.pointer none),(3,pQ 3),(12,mQ l m n c1 c2),(13,pQ 2),(14,sQ 0 l.length c1),(15,iv l.length)] ((3,.cells true false 1 [.pointer none])::hQ l m n c1 c2) 4):eF 7 [(0,mQ l m n c1 c2),(1,pQ 2),(2,.pointer none),(12,mQ l m n c1 c2),(13,pQ 2),(14,sQ 0 l.length c1),(15,iv l.length)] (hQ l m n c1 c2) 3 (fun e' h' nx'=>K (dG e') h' nx'):=by
 conv=>whnf
 exact hk
theorem wE (l:List Pt)(m:List Ed)(n:Int)(c1 c2:Nat)(hl:l.length≤400):fO l m n c1 c2 5 [0,1,2,3] [(0,mQ l m n c1 c2),(1,pQ 2),(2,.pointer none),(12,mQ l m n c1 c2),(13,pQ 2),(14,sQ 0 l.length c1),(15,iv l.length)] (hQ l m n c1 c2) 3 :=
 oB (k:=4) (done:=[0,1,2,3]) rfl (BN l m n c1 c2 hl) (sE l m n c1 c2 hl) (AX l m n c1 c2 hl) (nO l m n c1 c2 hl)
theorem AT (l:List Pt)(m:List Ed)(n:Int)(c1 c2:Nat)(hl:l.length≤400)(K:KS)(hk:K [(0,mQ l m n c1 c2),(1,pQ 2),(2,.pointer none),(3,pQ 3),(12,mQ l m n c1 c2),(13,pQ 2),(14,sQ 0 l.length c1),(15,iv l.length)] ((3,.cells true false 1 [.pointer none])::hQ l m n c1 c2) 4):eF 3 [(0,mQ l m n c1 c2),(1,pQ 2),(2,.pointer none),(3,pQ 3),(12,mQ l m n c1 c2),(13,pQ 2),(14,sQ 0 l.length c1)] ((3,.cells true false 1 [.pointer none])::hQ l m n c1 c2) 4 (fun e' h' nx'=>K (dG e') h' nx'):=by
 conv=>whnf
 exact hk
theorem pB (l:List Pt)(m:List Ed)(n:Int)(c1 c2:Nat)(hl:l.length≤400):fO l m n c1 c2 5 [0,1,2,7] [(0,mQ l m n c1 c2),(1,pQ 2),(2,.pointer none),(3,pQ 3),(12,mQ l m n c1 c2),(13,pQ 2),(14,sQ 0 l.length c1)] ((3,.cells true false 1 [.pointer none])::hQ l m n c1 c2) 4 :=
 kH (k:=4) (done:=[0,1,2,7]) rfl (AT l m n c1 c2 hl) (nO l m n c1 c2 hl)
theorem C6 (l:List Pt)(m:List Ed)(n:Int)(c1 c2:Nat)(hl:l.length≤400)(K:KS)(hk:K [(0,mQ l m n c1 c2),(1,pQ 2),(2,.pointer none),(12,mQ l m n c1 c2),(13,pQ 2),(14,sQ 0 l.length c1),(15,iv l.length)] (hQ l m n c1 c2) 3):eF 3 [(0,mQ l m n c1 c2),(1,pQ 2),(2,.pointer none),(12,mQ l m n c1 c2),(13,pQ 2),(14,sQ 0 l.length c1)] (hQ l m n c1 c2) 3 (fun e' h' nx'=>K (dG e') h' nx'):=by
 conv=>whnf
 exact hk
theorem C9 (l:List Pt)(m:List Ed)(n:Int)(c1 c2:Nat)(hl:l.length≤400)(K:KS)(hk:K [(0,mQ l m n c1 c2),(1,pQ 2),(2,.pointer none),(3,pQ 3),(12,mQ l m n c1 c2),(13,pQ 2),(14,sQ 0 l.length c1)] ((3,.cells true false 1 [.pointer none])::hQ l m n c1 c2) 4):eF 7 [(0,mQ l m n c1 c2),(1,pQ 2),(2,.pointer none),(12,mQ l m n c1 c2),(13,pQ 2),(14,sQ 0 l.length c1)] (hQ l m n c1 c2) 3 (fun e' h' nx'=>K (dG e') h' nx'):=by
 conv=>whnf
 exact hk
theorem yD (l:List Pt)(m:List Ed)(n:Int)(c1 c2:Nat)(hl:l.length≤400):fO l m n c1 c2 6 [0,1,2] [(0,mQ l m n c1 c2),(1,pQ 2),(2,.pointer none),(12,mQ l m n c1 c2),(13,pQ 2),(14,sQ 0 l.length c1)] (hQ l m n c1 c2) 3 :=
 oB (k:=5) (done:=[0,1,2]) rfl (C6 l m n c1 c2 hl) (wE l m n c1 c2 hl) (C9 l m n c1 c2 hl) (pB l m n c1 c2 hl)
theorem DL (l:List Pt)(m:List Ed)(n:Int)(c1 c2:Nat)(hl:l.length≤400)(K:KS)(hk:K [(0,mQ l m n c1 c2),(1,pQ 2),(2,.pointer none),(3,pQ 3),(12,mQ l m n c1 c2),(13,pQ 2),(14,sQ 0 l.length c1)] ((3,.cells true false 1 [.pointer none])::hQ l m n c1 c2) 4):eF 2 [(0,mQ l m n c1 c2),(1,pQ 2),(2,.pointer none),(3,pQ 3),(12,mQ l m n c1 c2),(13,pQ 2)] ((3,.cells true false 1 [.pointer none])::hQ l m n c1 c2) 4 (fun e' h' nx'=>K (dG e') h' nx'):=by
 conv=>whnf
 exact hk
theorem qT (l:List Pt)(m:List Ed)(n:Int)(c1 c2:Nat)(hl:l.length≤400):fO l m n c1 c2 6 [0,1,7] [(0,mQ l m n c1 c2),(1,pQ 2),(2,.pointer none),(3,pQ 3),(12,mQ l m n c1 c2),(13,pQ 2)] ((3,.cells true false 1 [.pointer none])::hQ l m n c1 c2) 4 :=
 kH (k:=5) (done:=[0,1,7]) rfl (DL l m n c1 c2 hl) (pB l m n c1 c2 hl)
theorem HC (l:List Pt)(m:List Ed)(n:Int)(c1 c2:Nat)(hl:l.length≤400)(K:KS)(hk:K [(0,mQ l m n c1 c2),(1,pQ 2),(2,.pointer none),(12,mQ l m n c1 c2),(13,pQ 2),(14,sQ 0 l.length c1)] (hQ l m n c1 c2) 3):eF 2 [(0,mQ l m n c1 c2),(1,pQ 2),(2,.pointer none),(12,mQ l m n c1 c2),(13,pQ 2)] (hQ l m n c1 c2) 3 (fun e' h' nx'=>K (dG e') h' nx'):=by
 conv=>whnf
 exact hk
theorem HK (l:List Pt)(m:List Ed)(n:Int)(c1 c2:Nat)(hl:l.length≤400)(K:KS)(hk:K [(0,mQ l m n c1 c2),(1,pQ 2),(2,.pointer none),(3,pQ 3),(12,mQ l m n c1 c2),(13,pQ 2)] ((3,.cells true false 1 [.pointer none])::hQ l m n c1 c2) 4):eF 7 [(0,mQ l m n c1 c2),(1,pQ 2),(2,.pointer none),(12,mQ l m n c1 c2),(13,pQ 2)] (hQ l m n c1 c2) 3 (fun e' h' nx'=>K (dG e') h' nx'):=by
 conv=>whnf
 exact hk
theorem CM (l:List Pt)(m:List Ed)(n:Int)(c1 c2:Nat)(hl:l.length≤400):fO l m n c1 c2 7 [0,1] [(0,mQ l m n c1 c2),(1,pQ 2),(2,.pointer none),(12,mQ l m n c1 c2),(13,pQ 2)] (hQ l m n c1 c2) 3 :=
 oB (k:=6) (done:=[0,1]) rfl (HC l m n c1 c2 hl) (yD l m n c1 c2 hl) (HK l m n c1 c2 hl) (qT l m n c1 c2 hl)
theorem FH (l:List Pt)(m:List Ed)(n:Int)(c1 c2:Nat)(hl:l.length≤400)(K:KS)(hk:K [(0,mQ l m n c1 c2),(1,pQ 2),(2,.pointer none),(3,pQ 3),(12,mQ l m n c1 c2),(13,pQ 2)] ((3,.cells true false 1 [.pointer none])::hQ l m n c1 c2) 4):eF 1 [(0,mQ l m n c1 c2),(1,pQ 2),(2,.pointer none),(3,pQ 3),(12,mQ l m n c1 c2)] ((3,.cells true false 1 [.pointer none])::hQ l m n c1 c2) 4 (fun e' h' nx'=>K (dG e') h' nx'):=by
 conv=>whnf
 exact hk
theorem CJ (l:List Pt)(m:List Ed)(n:Int)(c1 c2:Nat)(hl:l.length≤400):fO l m n c1 c2 7 [0,7] [(0,mQ l m n c1 c2),(1,pQ 2),(2,.pointer none),(3,pQ 3),(12,mQ l m n c1 c2)] ((3,.cells true false 1 [.pointer none])::hQ l m n c1 c2) 4 :=
 kH (k:=6) (done:=[0,7]) rfl (FH l m n c1 c2 hl) (qT l m n c1 c2 hl)
theorem JE (l:List Pt)(m:List Ed)(n:Int)(c1 c2:Nat)(hl:l.length≤400)(K:KS)(hk:K [(0,mQ l m n c1 c2),(1,pQ 2),(2,.pointer none),(12,mQ l m n c1 c2),(13,pQ 2)] (hQ l m n c1 c2) 3):eF 1 [(0,mQ l m n c1 c2),(1,pQ 2),(2,.pointer none),(12,mQ l m n c1 c2)] (hQ l m n c1 c2) 3 (fun e' h' nx'=>K (dG e') h' nx'):=by
 conv=>whnf
 exact hk
theorem I4 (l:List Pt)(m:List Ed)(n:Int)(c1 c2:Nat)(hl:l.length≤400)(K:KS)(hk:K [(0,mQ l m n c1 c2),(1,pQ 2),(2,.pointer none),(3,pQ 3),(12,mQ l m n c1 c2)] ((3,.cells true false 1 [.pointer none])::hQ l m n c1 c2) 4):eF 7 [(0,mQ l m n c1 c2),(1,pQ 2),(2,.pointer none),(12,mQ l m n c1 c2)] (hQ l m n c1 c2) 3 (fun e' h' nx'=>K (dG e') h' nx'):=by
 conv=>whnf
 exact hk
theorem TD (l:List Pt)(m:List Ed)(n:Int)(c1 c2:Nat)(hl:l.length≤400):fO l m n c1 c2 8 [0] [(0,mQ l m n c1 c2),(1,pQ 2),(2,.pointer none),(12,mQ l m n c1 c2)] (hQ l m n c1 c2) 3 :=
 oB (k:=7) (done:=[0]) rfl (JE l m n c1 c2 hl) (CM l m n c1 c2 hl) (I4 l m n c1 c2 hl) (CJ l m n c1 c2 hl)
theorem yS (l:List Pt)(m:List Ed)(n:Int)(c1 c2:Nat)(hl:l.length≤400)(K:KS)(hk:K [(0,mQ l m n c1 c2),(1,pQ 2),(2,.pointer none),(3,pQ 4),(12,mQ l m n c1 c2),(13,pQ 2),(14,sQ 0 l.length c1),(15,iv l.length),(16,sQ 3 l.length l.length)] ((4,.cells true false 1 [.pointer none])::(3,.cells true false 1 (rep l.length [aM]))::hQ l m n c1 c2) 5):eF 0 [(0,mQ l m n c1 c2),(1,pQ 2),(2,.pointer none),(3,pQ 4),(13,pQ 2),(14,sQ 0 l.length c1),(15,iv l.length),(16,sQ 3 l.length l.length)] ((4,.cells true false 1 [.pointer none])::(3,.cells true false 1 (rep l.length [aM]))::hQ l m n c1 c2) 5 (fun e' h' nx'=>K (dG e') h' nx'):=by
 conv=>whnf
 exact hk
theorem HV (l:List Pt)(m:List Ed)(n:Int)(c1 c2:Nat)(hl:l.length≤400):fO l m n c1 c2 4 [1,2,3,4,7] [(0,mQ l m n c1 c2),(1,pQ 2),(2,.pointer none),(3,pQ 4),(13,pQ 2),(14,sQ 0 l.length c1),(15,iv l.length),(16,sQ 3 l.length l.length)] ((4,.cells true false 1 [.pointer none])::(3,.cells true false 1 (rep l.length [aM]))::hQ l m n c1 c2) 5 :=
 kH (k:=3) (done:=[1,2,3,4,7]) rfl (yS l m n c1 c2 hl) (rT l m n c1 c2 hl)
theorem BA (l:List Pt)(m:List Ed)(n:Int)(c1 c2:Nat)(hl:l.length≤400)(K:KS)(hk:K [(0,mQ l m n c1 c2),(1,pQ 2),(2,.pointer none),(12,mQ l m n c1 c2),(13,pQ 2),(14,sQ 0 l.length c1),(15,iv l.length),(16,sQ 3 l.length l.length)] ((3,.cells true false 1 (rep l.length [aM]))::hQ l m n c1 c2) 4):eF 0 [(0,mQ l m n c1 c2),(1,pQ 2),(2,.pointer none),(13,pQ 2),(14,sQ 0 l.length c1),(15,iv l.length),(16,sQ 3 l.length l.length)] ((3,.cells true false 1 (rep l.length [aM]))::hQ l m n c1 c2) 4 (fun e' h' nx'=>K (dG e') h' nx'):=by
 conv=>whnf
 exact hk
theorem BQ (l:List Pt)(m:List Ed)(n:Int)(c1 c2:Nat)(hl:l.length≤400)(K:KS)(hk:K [(0,mQ l m n c1 c2),(1,pQ 2),(2,.pointer none),(3,pQ 4),(13,pQ 2),(14,sQ 0 l.length c1),(15,iv l.length),(16,sQ 3 l.length l.length)] ((4,.cells true false 1 [.pointer none])::(3,.cells true false 1 (rep l.length [aM]))::hQ l m n c1 c2) 5):eF 7 [(0,mQ l m n c1 c2),(1,pQ 2),(2,.pointer none),(13,pQ 2),(14,sQ 0 l.length c1),(15,iv l.length),(16,sQ 3 l.length l.length)] ((3,.cells true false 1 (rep l.length [aM]))::hQ l m n c1 c2) 4 (fun e' h' nx'=>K (dG e') h' nx'):=by
 conv=>whnf
 exact hk
theorem IP (l:List Pt)(m:List Ed)(n:Int)(c1 c2:Nat)(hl:l.length≤400):fO l m n c1 c2 5 [1,2,3,4] [(0,mQ l m n c1 c2),(1,pQ 2),(2,.pointer none),(13,pQ 2),(14,sQ 0 l.length c1),(15,iv l.length),(16,sQ 3 l.length l.length)] ((3,.cells true false 1 (rep l.length [aM]))::hQ l m n c1 c2) 4 :=
 oB (k:=4) (done:=[1,2,3,4]) rfl (BA l m n c1 c2 hl) (sE l m n c1 c2 hl) (BQ l m n c1 c2 hl) (HV l m n c1 c2 hl)
theorem yC (l:List Pt)(m:List Ed)(n:Int)(c1 c2:Nat)(hl:l.length≤400)(K:KS)(hk:K [(0,mQ l m n c1 c2),(1,pQ 2),(2,.pointer none),(3,pQ 3),(12,mQ l m n c1 c2),(13,pQ 2),(14,sQ 0 l.length c1),(15,iv l.length),(16,sQ 4 l.length l.length)] ((4,.cells true false 1 (rep l.length [aM]))::(3,.cells true false 1 [.pointer none])::hQ l m n c1 c2) 5):eF 0 [(0,mQ l m n c1 c2),(1,pQ 2),(2,.pointer none),(3,pQ 3),(13,pQ 2),(14,sQ 0 l.length c1),(15,iv l.length),(16,sQ 4 l.length l.length)] ((4,.cells true false 1 (rep l.length [aM]))::(3,.cells true false 1 [.pointer none])::hQ l m n c1 c2) 5 (fun e' h' nx'=>K (dG e') h' nx'):=by
 conv=>whnf
 exact hk
theorem IB (l:List Pt)(m:List Ed)(n:Int)(c1 c2:Nat)(hl:l.length≤400):fO l m n c1 c2 4 [1,2,3,4,7] [(0,mQ l m n c1 c2),(1,pQ 2),(2,.pointer none),(3,pQ 3),(13,pQ 2),(14,sQ 0 l.length c1),(15,iv l.length),(16,sQ 4 l.length l.length)] ((4,.cells true false 1 (rep l.length [aM]))::(3,.cells true false 1 [.pointer none])::hQ l m n c1 c2) 5 :=
 kH (k:=3) (done:=[1,2,3,4,7]) rfl (yC l m n c1 c2 hl) (rR l m n c1 c2 hl)
theorem BV (l:List Pt)(m:List Ed)(n:Int)(c1 c2:Nat)(hl:l.length≤400)(K:KS)(hk:K [(0,mQ l m n c1 c2),(1,pQ 2),(2,.pointer none),(3,pQ 3),(12,mQ l m n c1 c2),(13,pQ 2),(14,sQ 0 l.length c1),(15,iv l.length)] ((3,.cells true false 1 [.pointer none])::hQ l m n c1 c2) 4):eF 0 [(0,mQ l m n c1 c2),(1,pQ 2),(2,.pointer none),(3,pQ 3),(13,pQ 2),(14,sQ 0 l.length c1),(15,iv l.length)] ((3,.cells true false 1 [.pointer none])::hQ l m n c1 c2) 4 (fun e' h' nx'=>K (dG e') h' nx'):=by
 conv=>whnf
 exact hk
theorem A2 (l:List Pt)(m:List Ed)(n:Int)(c1 c2:Nat)(hl:l.length≤400)(K:KS)(hk:K [(0,mQ l m n c1 c2),(1,pQ 2),(2,.pointer none),(3,pQ 3),(13,pQ 2),(14,sQ 0 l.length c1),(15,iv l.length),(16,sQ 4 l.length l.length)] ((4,.cells true false 1 (rep l.length [aM]))::(3,.cells true false 1 [.pointer none])::hQ l m n c1 c2) 5):eF 4 [(0,mQ l m n c1 c2),(1,pQ 2),(2,.pointer none),(3,pQ 3),(13,pQ 2),(14,sQ 0 l.length c1),(15,iv l.length)] ((3,.cells true false 1 [.pointer none])::hQ l m n c1 c2) 4 (fun e' h' nx'=>K (dG e') h' nx'):=by
 conv=>whnf
 exact bm (fun _=>hk) (fun g=>by exfalso;simp [aA,aF] at g;omega)
theorem vZ (l:List Pt)(m:List Ed)(n:Int)(c1 c2:Nat)(hl:l.length≤400):fO l m n c1 c2 5 [1,2,3,7] [(0,mQ l m n c1 c2),(1,pQ 2),(2,.pointer none),(3,pQ 3),(13,pQ 2),(14,sQ 0 l.length c1),(15,iv l.length)] ((3,.cells true false 1 [.pointer none])::hQ l m n c1 c2) 4 :=
 oB (k:=4) (done:=[1,2,3,7]) rfl (BV l m n c1 c2 hl) (nO l m n c1 c2 hl) (A2 l m n c1 c2 hl) (IB l m n c1 c2 hl)
theorem DB (l:List Pt)(m:List Ed)(n:Int)(c1 c2:Nat)(hl:l.length≤400)(K:KS)(hk:K [(0,mQ l m n c1 c2),(1,pQ 2),(2,.pointer none),(12,mQ l m n c1 c2),(13,pQ 2),(14,sQ 0 l.length c1),(15,iv l.length)] (hQ l m n c1 c2) 3):eF 0 [(0,mQ l m n c1 c2),(1,pQ 2),(2,.pointer none),(13,pQ 2),(14,sQ 0 l.length c1),(15,iv l.length)] (hQ l m n c1 c2) 3 (fun e' h' nx'=>K (dG e') h' nx'):=by
 conv=>whnf
 exact hk
theorem DI (l:List Pt)(m:List Ed)(n:Int)(c1 c2:Nat)(hl:l.length≤400)(K:KS)(hk:K [(0,mQ l m n c1 c2),(1,pQ 2),(2,.pointer none),(13,pQ 2),(14,sQ 0 l.length c1),(15,iv l.length),(16,sQ 3 l.length l.length)] ((3,.cells true false 1 (rep l.length [aM]))::hQ l m n c1 c2) 4):eF 4 [(0,mQ l m n c1 c2),(1,pQ 2),(2,.pointer none),(13,pQ 2),(14,sQ 0 l.length c1),(15,iv l.length)] (hQ l m n c1 c2) 3 (fun e' h' nx'=>K (dG e') h' nx'):=by
 conv=>whnf
 exact bm (fun _=>hk) (fun g=>by exfalso;simp [aA,aF] at g;omega)
theorem DE (l:List Pt)(m:List Ed)(n:Int)(c1 c2:Nat)(hl:l.length≤400)(K:KS)(hk:K [(0,mQ l m n c1 c2),(1,pQ 2),(2,.pointer none),(3,pQ 3),(13,pQ 2),(14,sQ 0 l.length c1),(15,iv l.length)] ((3,.cells true false 1 [.pointer none])::hQ l m n c1 c2) 4):eF 7 [(0,mQ l m n c1 c2),(1,pQ 2),(2,.pointer none),(13,pQ 2),(14,sQ 0 l.length c1),(15,iv l.length)] (hQ l m n c1 c2) 3 (fun e' h' nx'=>K (dG e') h' nx'):=by
 conv=>whnf
 exact hk
theorem NY (l:List Pt)(m:List Ed)(n:Int)(c1 c2:Nat)(hl:l.length≤400):fO l m n c1 c2 6 [1,2,3] [(0,mQ l m n c1 c2),(1,pQ 2),(2,.pointer none),(13,pQ 2),(14,sQ 0 l.length c1),(15,iv l.length)] (hQ l m n c1 c2) 3 :=
 MF (k:=5) (done:=[1,2,3]) rfl (DB l m n c1 c2 hl) (wE l m n c1 c2 hl) (DI l m n c1 c2 hl) (IP l m n c1 c2 hl) (DE l m n c1 c2 hl) (vZ l m n c1 c2 hl)
theorem DH (l:List Pt)(m:List Ed)(n:Int)(c1 c2:Nat)(hl:l.length≤400)(K:KS)(hk:K [(0,mQ l m n c1 c2),(1,pQ 2),(2,.pointer none),(3,pQ 3),(12,mQ l m n c1 c2),(13,pQ 2),(14,sQ 0 l.length c1)] ((3,.cells true false 1 [.pointer none])::hQ l m n c1 c2) 4):eF 0 [(0,mQ l m n c1 c2),(1,pQ 2),(2,.pointer none),(3,pQ 3),(13,pQ 2),(14,sQ 0 l.length c1)] ((3,.cells true false 1 [.pointer none])::hQ l m n c1 c2) 4 (fun e' h' nx'=>K (dG e') h' nx'):=by
 conv=>whnf
 exact hk
theorem C7 (l:List Pt)(m:List Ed)(n:Int)(c1 c2:Nat)(hl:l.length≤400)(K:KS)(hk:K [(0,mQ l m n c1 c2),(1,pQ 2),(2,.pointer none),(3,pQ 3),(13,pQ 2),(14,sQ 0 l.length c1),(15,iv l.length)] ((3,.cells true false 1 [.pointer none])::hQ l m n c1 c2) 4):eF 3 [(0,mQ l m n c1 c2),(1,pQ 2),(2,.pointer none),(3,pQ 3),(13,pQ 2),(14,sQ 0 l.length c1)] ((3,.cells true false 1 [.pointer none])::hQ l m n c1 c2) 4 (fun e' h' nx'=>K (dG e') h' nx'):=by
 conv=>whnf
 exact hk
theorem AL (l:List Pt)(m:List Ed)(n:Int)(c1 c2:Nat)(hl:l.length≤400):fO l m n c1 c2 6 [1,2,7] [(0,mQ l m n c1 c2),(1,pQ 2),(2,.pointer none),(3,pQ 3),(13,pQ 2),(14,sQ 0 l.length c1)] ((3,.cells true false 1 [.pointer none])::hQ l m n c1 c2) 4 :=
 oB (k:=5) (done:=[1,2,7]) rfl (DH l m n c1 c2 hl) (pB l m n c1 c2 hl) (C7 l m n c1 c2 hl) (vZ l m n c1 c2 hl)
theorem HZ (l:List Pt)(m:List Ed)(n:Int)(c1 c2:Nat)(hl:l.length≤400)(K:KS)(hk:K [(0,mQ l m n c1 c2),(1,pQ 2),(2,.pointer none),(12,mQ l m n c1 c2),(13,pQ 2),(14,sQ 0 l.length c1)] (hQ l m n c1 c2) 3):eF 0 [(0,mQ l m n c1 c2),(1,pQ 2),(2,.pointer none),(13,pQ 2),(14,sQ 0 l.length c1)] (hQ l m n c1 c2) 3 (fun e' h' nx'=>K (dG e') h' nx'):=by
 conv=>whnf
 exact hk
theorem IE (l:List Pt)(m:List Ed)(n:Int)(c1 c2:Nat)(hl:l.length≤400)(K:KS)(hk:K [(0,mQ l m n c1 c2),(1,pQ 2),(2,.pointer none),(13,pQ 2),(14,sQ 0 l.length c1),(15,iv l.length)] (hQ l m n c1 c2) 3):eF 3 [(0,mQ l m n c1 c2),(1,pQ 2),(2,.pointer none),(13,pQ 2),(14,sQ 0 l.length c1)] (hQ l m n c1 c2) 3 (fun e' h' nx'=>K (dG e') h' nx'):=by
 conv=>whnf
 exact hk
theorem FE (l:List Pt)(m:List Ed)(n:Int)(c1 c2:Nat)(hl:l.length≤400)(K:KS)(hk:K [(0,mQ l m n c1 c2),(1,pQ 2),(2,.pointer none),(3,pQ 3),(13,pQ 2),(14,sQ 0 l.length c1)] ((3,.cells true false 1 [.pointer none])::hQ l m n c1 c2) 4):eF 7 [(0,mQ l m n c1 c2),(1,pQ 2),(2,.pointer none),(13,pQ 2),(14,sQ 0 l.length c1)] (hQ l m n c1 c2) 3 (fun e' h' nx'=>K (dG e') h' nx'):=by
 conv=>whnf
 exact hk
theorem OC (l:List Pt)(m:List Ed)(n:Int)(c1 c2:Nat)(hl:l.length≤400):fO l m n c1 c2 7 [1,2] [(0,mQ l m n c1 c2),(1,pQ 2),(2,.pointer none),(13,pQ 2),(14,sQ 0 l.length c1)] (hQ l m n c1 c2) 3 :=
 MF (k:=6) (done:=[1,2]) rfl (HZ l m n c1 c2 hl) (yD l m n c1 c2 hl) (IE l m n c1 c2 hl) (NY l m n c1 c2 hl) (FE l m n c1 c2 hl) (AL l m n c1 c2 hl)
theorem F3 (l:List Pt)(m:List Ed)(n:Int)(c1 c2:Nat)(hl:l.length≤400)(K:KS)(hk:K [(0,mQ l m n c1 c2),(1,pQ 2),(2,.pointer none),(3,pQ 3),(12,mQ l m n c1 c2),(13,pQ 2)] ((3,.cells true false 1 [.pointer none])::hQ l m n c1 c2) 4):eF 0 [(0,mQ l m n c1 c2),(1,pQ 2),(2,.pointer none),(3,pQ 3),(13,pQ 2)] ((3,.cells true false 1 [.pointer none])::hQ l m n c1 c2) 4 (fun e' h' nx'=>K (dG e') h' nx'):=by
 conv=>whnf
 exact hk
theorem G0 (l:List Pt)(m:List Ed)(n:Int)(c1 c2:Nat)(hl:l.length≤400)(K:KS)(hk:K [(0,mQ l m n c1 c2),(1,pQ 2),(2,.pointer none),(3,pQ 3),(13,pQ 2),(14,sQ 0 l.length c1)] ((3,.cells true false 1 [.pointer none])::hQ l m n c1 c2) 4):eF 2 [(0,mQ l m n c1 c2),(1,pQ 2),(2,.pointer none),(3,pQ 3),(13,pQ 2)] ((3,.cells true false 1 [.pointer none])::hQ l m n c1 c2) 4 (fun e' h' nx'=>K (dG e') h' nx'):=by
 conv=>whnf
 exact hk
theorem B8 (l:List Pt)(m:List Ed)(n:Int)(c1 c2:Nat)(hl:l.length≤400):fO l m n c1 c2 7 [1,7] [(0,mQ l m n c1 c2),(1,pQ 2),(2,.pointer none),(3,pQ 3),(13,pQ 2)] ((3,.cells true false 1 [.pointer none])::hQ l m n c1 c2) 4 :=
 oB (k:=6) (done:=[1,7]) rfl (F3 l m n c1 c2 hl) (qT l m n c1 c2 hl) (G0 l m n c1 c2 hl) (AL l m n c1 c2 hl)
theorem JF (l:List Pt)(m:List Ed)(n:Int)(c1 c2:Nat)(hl:l.length≤400)(K:KS)(hk:K [(0,mQ l m n c1 c2),(1,pQ 2),(2,.pointer none),(12,mQ l m n c1 c2),(13,pQ 2)] (hQ l m n c1 c2) 3):eF 0 [(0,mQ l m n c1 c2),(1,pQ 2),(2,.pointer none),(13,pQ 2)] (hQ l m n c1 c2) 3 (fun e' h' nx'=>K (dG e') h' nx'):=by
 conv=>whnf
 exact hk
theorem JD (l:List Pt)(m:List Ed)(n:Int)(c1 c2:Nat)(hl:l.length≤400)(K:KS)(hk:K [(0,mQ l m n c1 c2),(1,pQ 2),(2,.pointer none),(13,pQ 2),(14,sQ 0 l.length c1)] (hQ l m n c1 c2) 3):eF 2 [(0,mQ l m n c1 c2),(1,pQ 2),(2,.pointer none),(13,pQ 2)] (hQ l m n c1 c2) 3 (fun e' h' nx'=>K (dG e') h' nx'):=by
 conv=>whnf
 exact hk
theorem IU (l:List Pt)(m:List Ed)(n:Int)(c1 c2:Nat)(hl:l.length≤400)(K:KS)(hk:K [(0,mQ l m n c1 c2),(1,pQ 2),(2,.pointer none),(3,pQ 3),(13,pQ 2)] ((3,.cells true false 1 [.pointer none])::hQ l m n c1 c2) 4):eF 7 [(0,mQ l m n c1 c2),(1,pQ 2),(2,.pointer none),(13,pQ 2)] (hQ l m n c1 c2) 3 (fun e' h' nx'=>K (dG e') h' nx'):=by
 conv=>whnf
 exact hk
theorem RY (l:List Pt)(m:List Ed)(n:Int)(c1 c2:Nat)(hl:l.length≤400):fO l m n c1 c2 8 [1] [(0,mQ l m n c1 c2),(1,pQ 2),(2,.pointer none),(13,pQ 2)] (hQ l m n c1 c2) 3 :=
 MF (k:=7) (done:=[1]) rfl (JF l m n c1 c2 hl) (CM l m n c1 c2 hl) (JD l m n c1 c2 hl) (OC l m n c1 c2 hl) (IU l m n c1 c2 hl) (B8 l m n c1 c2 hl)
theorem IK (l:List Pt)(m:List Ed)(n:Int)(c1 c2:Nat)(hl:l.length≤400)(K:KS)(hk:K [(0,mQ l m n c1 c2),(1,pQ 2),(2,.pointer none),(3,pQ 3),(12,mQ l m n c1 c2)] ((3,.cells true false 1 [.pointer none])::hQ l m n c1 c2) 4):eF 0 [(0,mQ l m n c1 c2),(1,pQ 2),(2,.pointer none),(3,pQ 3)] ((3,.cells true false 1 [.pointer none])::hQ l m n c1 c2) 4 (fun e' h' nx'=>K (dG e') h' nx'):=by
 conv=>whnf
 exact hk
theorem JC (l:List Pt)(m:List Ed)(n:Int)(c1 c2:Nat)(hl:l.length≤400)(K:KS)(hk:K [(0,mQ l m n c1 c2),(1,pQ 2),(2,.pointer none),(3,pQ 3),(13,pQ 2)] ((3,.cells true false 1 [.pointer none])::hQ l m n c1 c2) 4):eF 1 [(0,mQ l m n c1 c2),(1,pQ 2),(2,.pointer none),(3,pQ 3)] ((3,.cells true false 1 [.pointer none])::hQ l m n c1 c2) 4 (fun e' h' nx'=>K (dG e') h' nx'):=by
 conv=>whnf
 exact hk
theorem T4 (l:List Pt)(m:List Ed)(n:Int)(c1 c2:Nat)(hl:l.length≤400):fO l m n c1 c2 8 [7] [(0,mQ l m n c1 c2),(1,pQ 2),(2,.pointer none),(3,pQ 3)] ((3,.cells true false 1 [.pointer none])::hQ l m n c1 c2) 4 :=
 oB (k:=7) (done:=[7]) rfl (IK l m n c1 c2 hl) (CJ l m n c1 c2 hl) (JC l m n c1 c2 hl) (B8 l m n c1 c2 hl)
theorem NR (l:List Pt)(m:List Ed)(n:Int)(c1 c2:Nat)(hl:l.length≤400)(K:KS)(hk:K [(0,mQ l m n c1 c2),(1,pQ 2),(2,.pointer none),(12,mQ l m n c1 c2)] (hQ l m n c1 c2) 3):eF 0 [(0,mQ l m n c1 c2),(1,pQ 2),(2,.pointer none)] (hQ l m n c1 c2) 3 (fun e' h' nx'=>K (dG e') h' nx'):=by
 conv=>whnf
 exact hk
theorem MM (l:List Pt)(m:List Ed)(n:Int)(c1 c2:Nat)(hl:l.length≤400)(K:KS)(hk:K [(0,mQ l m n c1 c2),(1,pQ 2),(2,.pointer none),(13,pQ 2)] (hQ l m n c1 c2) 3):eF 1 [(0,mQ l m n c1 c2),(1,pQ 2),(2,.pointer none)] (hQ l m n c1 c2) 3 (fun e' h' nx'=>K (dG e') h' nx'):=by
 conv=>whnf
 exact hk
theorem MX (l:List Pt)(m:List Ed)(n:Int)(c1 c2:Nat)(hl:l.length≤400)(K:KS)(hk:K [(0,mQ l m n c1 c2),(1,pQ 2),(2,.pointer none),(3,pQ 3)] ((3,.cells true false 1 [.pointer none])::hQ l m n c1 c2) 4):eF 7 [(0,mQ l m n c1 c2),(1,pQ 2),(2,.pointer none)] (hQ l m n c1 c2) 3 (fun e' h' nx'=>K (dG e') h' nx'):=by
 conv=>whnf
 exact hk
theorem aAh (l:List Pt)(m:List Ed)(n:Int)(c1 c2:Nat)(hl:l.length≤400):fO l m n c1 c2 9 [] [(0,mQ l m n c1 c2),(1,pQ 2),(2,.pointer none)] (hQ l m n c1 c2) 3 :=
 MF (k:=8) (done:=[]) rfl (NR l m n c1 c2 hl) (TD l m n c1 c2 hl) (MM l m n c1 c2 hl) (RY l m n c1 c2 hl) (MX l m n c1 c2 hl) (T4 l m n c1 c2 hl)
set_option maxHeartbeats 4000000
def dA (l:List Pt)(m:List Ed)(i:Nat):Dt:=⟨(kA l (cN m i).b).1 - (kA l (cN m i).a).1,(kA l (cN m i).b).2 - (kA l (cN m i).a).2,2*i,(cN m i).a,(cN m i).b⟩
def dB (l:List Pt)(m:List Ed)(i:Nat):Dt:=⟨(kA l (cN m i).a).1 - (kA l (cN m i).b).1,(kA l (cN m i).a).2 - (kA l (cN m i).b).2,2*i+1,(cN m i).b,(cN m i).a⟩
def aO (l:List Pt)(m:List Ed):Nat→List Dt
 |0=>[]
 |i+1=>aO l m i++[dA l m i,dB l m i]
theorem a9 (l:List Pt)(m:List Ed):∀ i,(aO l m i).length=2*i
 |0=>rfl
 |i+1=>by rw [aO,List.length_append,a9];rfl
def zI (m:List Ed)(c2:Nat)(j:Int):List (Nat × Value):=[(1,.pointer (some ⟨2,0,none⟩)),(3,.pointer (some ⟨3,0,none⟩)),(20,.slice (some ⟨1,0,none⟩) m.length c2),(21,iv m.length),(22,iv j)]
def y8 (l:List Pt)(m:List Ed)(c1 c2:Nat)(n:Int)(k:Nat)(D:List Dt):Heap :=
 (6,.cells true false 5 (flat rP.fl D))::(5,.cells true false 1 (rep l.length [aM]))::(3,.cells true false 1 [.pointer (some ⟨4,0,none⟩)])::(4,.cells true false 1 (qB l.length m.length c1 c2 n (.slice (some ⟨6,0,none⟩) k k) (.slice (some ⟨5,0,none⟩) l.length l.length) aM)) ::
 (2,mY l.length m.length c1 c2 n)::bR dC dP l m
theorem bm2 {k:Nat}{X Y:Prop}(h:Y):(match (generalizing:=false) Nat.ble (k+2) k with|true=>X|false=>Y):=by
 cases hb:Nat.ble (k+2) k with
 |false=>exact h
 |true=>have:=Nat.le_of_ble_eq_true hb;omega
theorem aF8 {i N s:Nat}{p:Prop}(hN:N=i*s)(hi:i+2≤1000000000)
  (h:aA.A.andB (aA.A.andB ((i+2).ble 1000000000) ((0+i*s).ble N)) (aA.A.andB ((0+i*s).beq N) (Nat.beq s s))=false):p:=by
 exfalso;have h1:(i+2).ble 1000000000=true:=Nat.ble_eq_true_of_le hi;have h2:(0+i*s).ble N=true:=Nat.ble_eq_true_of_le (by omega);have h3:(0+i*s).beq N=true:=(by rw [hN,Nat.zero_add];exact Nat.beq_refl _);rw [h1,h2,h3,Nat.beq_refl] at h;cases h
theorem TY {α:Type}(E:El α)(o:List α)(x y:α){n:Nat}(hn:n=o.length):((flat E.fl o).drop 0).take (n*E.sz)++(E.fl x++E.fl y)=flat E.fl (o++[x,y]):=by
 subst hn;rw [List.drop_zero,← cJ E o,List.take_length,CO];simp [flat]
theorem mI {l:List Pt}{m:List Ed}{n:Int}(h:cM l m n=true){i:Nat}(hi:i<l.length):0≤(mL l i).1∧(mL l i).1≤10000∧0≤(mL l i).2∧(mL l i).2≤10000:=by
 simp only [cM,Bool.and_eq_true] at h;have h1:=dU h.2.1 hi;simp only [SM,aI,Bool.and_eq_true,decide_eq_true_eq] at h1;omega
theorem aKg:dS aIz:=A3 (kG.cons (aDq 1000) .nil).look
end Go.Aw
end
