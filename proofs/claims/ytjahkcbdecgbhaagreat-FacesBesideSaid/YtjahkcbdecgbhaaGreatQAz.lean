/-
  Parts of a proof. No condition.
-/
import Derived.Test.YtjahkcbdecgbhaaGreatQAi
import Derived.Test.YtjahkcbdecgbhaaGreatQAy
set_option linter.unusedSimpArgs false
set_option linter.unusedVariables false
noncomputable section
namespace Go.Aw
set_option maxRecDepth 100000
set_option maxHeartbeats 2000000
def pF (D:List Dt)(n:Nat):Nat→List Int→Nat→List Int × Nat
 |0,L,a=>(L,a)
 |k+1,L,a=>if a+20≤n then pF D n k (j0 D a L (a+20 - 1 - a)) (a+20) else (L,a)
def sL (D:List Dt)(f n bs:Nat):Nat→List Int→Nat→List Int × Nat
 |0,L,a=>(L,a)
 |k+1,L,a=>if a+2*bs≤n then sL D f n bs k (aU D f L a (a+bs) (a+2*bs)) (a+2*bs) else (L,a)
def xQ (D:List Dt)(f n bs:Nat)(r:List Int × Nat):List Int:=if r.2+bs<n then aU D f r.1 r.2 (r.2+bs) n else r.1
def HD (D:List Dt)(f n:Nat):Nat→List Int→Nat→List Int
 |0,L,_=>L
 |k+1,L,bs=>if bs<n then HD D f n k (xQ D f n bs (sL D f n bs (n+1) L 0)) (bs*2) else L
def sN (D:List Dt)(f:Nat)(L:List Int):List Int :=
 HD D f L.length (L.length+1) (j0 D (pF D L.length (L.length+1) L 0).2 (pF D L.length (L.length+1) L 0).1 (L.length - 1 - (pF D L.length (L.length+1) L 0).2)) 20
theorem L5 (D:List Dt)(a:Nat)(L:List Int)(t:Nat)(h:a+t<L.length):Sw L (j0 D a L t):=by
 have key:∀ (j:Nat) (L:List Int),j<L.length→Sw L (vV D a L j):=by
  intro j
  induction j with
  |zero=>exact fun L _=>.refl L
  |succ j ih =>
   intro L hj;unfold vV;split
   ·exact (Sw.step (j+1) j (.refl L) hj (by omega)).trans (ih _ (by rw [jA];omega))
   ·exact .refl L
 induction t with
 |zero=>exact .refl L
 |succ t ih =>
  have h1:=ih (by omega);exact h1.trans (key _ _ (by rw [h1.len];omega))
theorem P6 (D:List Dt)(a b:Nat)(L:List Int)(h:b≤L.length)(hab:a≤b):Sw L (j0 D a L (b - 1 - a)):=by
 by_cases h0:b - 1 - a=0
 ·rw [h0];exact .refl L
 ·exact L5 _ _ _ _ (by omega)
def aDL (n:Nat)(D:List Dt)(l:List Int)(r:List Value)(c:Nat):Option (Bool × List Int):=match r with
 |[.int .i64 a]=>some (decide (a=l.length)&&decide (l.length≤n)&&decide (l.length≤1000000)&&fH D l&&fW D,sN D n l)
 |_=>none
theorem aBO {n:Nat}{D:List Dt}{l:List Int}{r:List Value}{c:Nat}{l':List Int}(h:aDL n D l r c=some (true,l')):∃ a:Int,r=[iv a]∧a=l.length∧l.length≤n∧l.length≤1000000∧fH D l=true∧fW D=true∧l'=sN D n l:=by
 unfold aDL at h;split at h
 ·rename_i a;injection h with h;injection h with h1 h2;simp only [Bool.and_eq_true,decide_eq_true_eq] at h1;exact⟨a,rfl,h1.1.1.1.1,h1.1.1.1.2,h1.1.1.2,h1.1.2,h1.2,h2.symm⟩
 ·cases h
def KI (N c:Nat)(n a b:Int)(p:Nat):List (Nat × Value):=[(0,.slice (some ⟨0,0,none⟩) N c),(2,mJ p),(1,iv n),(6,iv 20),(7,iv a),(8,iv b)]
def CE (N c:Nat)(n s:Int)(p:Nat):List (Nat × Value):=[(0,.slice (some ⟨0,0,none⟩) N c),(2,mJ p),(1,iv n),(6,iv s)]
def JF (N c:Nat)(n s a b:Int)(p:Nat):List (Nat × Value):=[(0,.slice (some ⟨0,0,none⟩) N c),(2,mJ p),(1,iv n),(6,iv s),(7,iv a),(8,iv b)]
theorem aJD (n:Nat):cH Go.Proofs.Tryz.prog 244 (RH (aDL n)):=sT (aL (xl:=[(266,RH (aCQ n)),aAw]) (.cons (aG8 n) (.cons aK5 .nil))) fun D l r c l' hs=>by
 obtain⟨w,rfl,hw,hn,hl,hin,hW,rfl⟩:=aBO hs;clear hs;refine⟨rfl,fun F nx p hF hC hD=>?_⟩;have hp:=yV hF hD;(conv=>whnf);refine⟨fun q e h nx'=>∃ (a k:Nat) (x y:Int) (L:List Int),x=a∧y=a+20∧(a≤l.length)∧l.length+1 - a≤k∧q=l.length+1 - a∧Sw l L∧pF D l.length (l.length+1) l 0=pF D l.length k L a∧e=KI l.length c w x y p∧h=(0,.cells true false 1 (flat aN.fl L))::F∧nx'=nx,⟨l.length+1 - 0,?_⟩,?_⟩
 ·refine bL (e0:=KI l.length c w 0 20 p) (o0:=.cells true false 1 (flat aN.fl l)) (n0:=nx) hF ⟨0,l.length+1,0,20,l,rfl,rfl,Nat.zero_le _,by omega,rfl,.refl l,rfl,rfl,rfl,rfl⟩ ?_ (aO (aG _ _)) (Nat.le_refl _);unfold KI;refine List.forall_mem_cons.2 ⟨cV hF.1 rfl,List.forall_mem_cons.2 ⟨dP hp rfl,?_⟩⟩;((repeat' refine iE rfl rfl ?_);exact iN)
 ·rintro q e h nx' ⟨a,k,x,y,L,hx,hy,ha,hk,rfl,sw,hins,rfl,rfl,rfl⟩;unfold KI;((conv=>whnf);refine bm (fun h1=>?_) (fun h1=>?_))
  ·have h1:a+20≤l.length:=(by simp [aA,aB] at h1;omega);obtain⟨k',rfl⟩:∃ k',k=k'+1:=⟨k - 1,by omega⟩;rw [pF.eq_2 D l.length L a k',if_pos h1] at hins;(conv=>whnf);refine⟨0,c,[iv x,iv y],p,L,D,by rw [sw.len];rfl,rfl,aV hC,a8 hF hD,?_⟩;((conv=>whnf);refine bm (fun t=>?_) (fun t=>?_))
   ·((conv=>whnf);refine bm (fun t2=>?_) (fun t2=>?_))
    ·(conv=>whnf);refine⟨l.length+1 - (a+20),by omega,?_⟩;have hv:j0 D x.toNat L (y - 1 - x).toNat=j0 D a L (a+20 - 1 - a):=(by rw [show x.toNat=a by omega,show (y - 1 - x).toNat=a+20 - 1 - a by omega]);refine bL (e0:=KI l.length c w y (y+20) p) (o0:=.cells true false 1 (flat aN.fl (j0 D a L (a+20 - 1 - a)))) (n0:=nx') hF ⟨a+20,k',_,_,_,by omega,by omega,by omega,by omega,rfl,sw.trans (P6 D a (a+20) L (by rw [sw.len];omega) (by omega)),hins,rfl,rfl,rfl⟩ ?_ (aZ (aG _ _) (by rw [← hv])) (Nat.le_refl _);unfold KI;refine List.forall_mem_cons.2 ⟨cV hF.1 rfl,List.forall_mem_cons.2 ⟨dP hp rfl,?_⟩⟩;((repeat' refine iE rfl rfl ?_);exact iN)
    ·exfalso;simp [aA,aB,aI] at t2;omega
   ·exfalso;have t:(decide (0≤x)&&decide (x≤y)&&decide (y≤L.length)&&decide (L.length≤1000000)&&fH D L&&fW D)=false:=t;rw [hW,sw.fH hin,sw.len] at t;simp at t;omega
  ·have h1:¬ a+20≤l.length:=(by simp [aA,aB] at h1;omega);obtain⟨k',rfl⟩:∃ k',k=k'+1:=⟨k - 1,by omega⟩;rw [pF.eq_2 D l.length L a k',if_neg h1] at hins;(conv=>whnf);refine⟨0,c,[iv x,iv w],p,L,D,by rw [sw.len];rfl,rfl,aV hC,a8 hF hD,?_⟩;((conv=>whnf);refine bm (fun t=>?_) (fun t=>?_))
   ·have hv:j0 D x.toNat L (w - 1 - x).toNat=j0 D (pF D l.length (l.length+1) l 0).2 (pF D l.length (l.length+1) l 0).1 (l.length - 1 - (pF D l.length (l.length+1) l 0).2):=by
     rw [hins,show x.toNat=a by omega,show (w - 1 - x).toNat=l.length - 1 - a by omega]
    have sw1:Sw l (j0 D x.toNat L (w - 1 - x).toNat):=by
     rw [show x.toNat=a by omega,show (w - 1 - x).toNat=l.length - 1 - a by omega];exact sw.trans (P6 D a l.length L (by rw [sw.len];omega) (by omega))
    clear hins;generalize hL1:j0 D x.toNat L (w - 1 - x).toNat=L1 at hv sw1;(conv=>whnf);refine⟨fun q e h nx''=>∃ (s k:Nat) (z:Int) (M:List Int),z=s∧1≤s∧s≤2000000∧l.length+1 - s≤k∧q=l.length+1 - s∧Sw l M∧sN D n l=HD D n l.length k M s∧e=CE l.length c w z p∧h=(0,.cells true false 1 (flat aN.fl M))::F∧nx''=nx',⟨l.length+1 - 20,?_⟩,?_⟩
    ·refine bL (e0:=CE l.length c w 20 p) (o0:=.cells true false 1 (flat aN.fl L1)) (n0:=nx') hF ⟨20,l.length+1,20,L1,rfl,by omega,by omega,by omega,rfl,sw1,by rw [hv];rfl,rfl,rfl,rfl⟩ ?_ (aZ (aG _ _) (by rw [← hL1])) (Nat.le_refl _);unfold CE;refine List.forall_mem_cons.2 ⟨cV hF.1 rfl,List.forall_mem_cons.2 ⟨dP hp rfl,?_⟩⟩;((repeat' refine iE rfl rfl ?_);exact iN)
    ·rintro q e h nx'' ⟨s,k2,z,M,hz,hs1,hs2,hk2,rfl,swM,hst,rfl,rfl,rfl⟩;clear hv hL1 sw1 hk ha sw hy hx h1;unfold CE;((conv=>whnf);refine bm (fun h2=>?_) (fun h2=>?_))
     ·have h2:s<l.length:=(by simp [aA,aB] at h2;omega);obtain⟨k3,rfl⟩:∃ k3,k2=k3+1:=⟨k2 - 1,by omega⟩;rw [HD.eq_2 D n l.length M s k3,if_pos h2] at hst;((conv=>whnf);refine bm (fun h3=>?_) (fun h3=>?_))
      ·(conv=>whnf);refine⟨fun q e h nx'''=>∃ (a k:Nat) (x y:Int) (L:List Int),x=a∧y=a+2*s∧(a≤l.length)∧l.length+1 - a≤k∧q=l.length+1 - a∧Sw l L∧sL D n l.length s (l.length+1) M 0=sL D n l.length s k L a∧e=JF l.length c w z x y p∧h=(0,.cells true false 1 (flat aN.fl L))::F∧nx'''=nx'',⟨l.length+1 - 0,?_⟩,?_⟩
       ·refine bL (e0:=JF l.length c w z 0 (2*z) p) (o0:=.cells true false 1 (flat aN.fl M)) (n0:=nx'') hF ⟨0,l.length+1,0,_,M,rfl,by omega,Nat.zero_le _,by omega,rfl,swM,rfl,rfl,rfl,rfl⟩ ?_ (aO (aG _ _)) (Nat.le_refl _);unfold JF;refine List.forall_mem_cons.2 ⟨cV hF.1 rfl,List.forall_mem_cons.2 ⟨dP hp rfl,?_⟩⟩;((repeat' refine iE rfl rfl ?_);exact iN)
       ·rintro q e h nx''' ⟨a,k,x,y,L,hx,hy,ha,hk,rfl,sw,hmr,rfl,rfl,rfl⟩;unfold JF;obtain⟨k',rfl⟩:∃ k',k=k'+1:=⟨k - 1,by omega⟩;((conv=>whnf);refine bm (fun h4=>?_) (fun h4=>?_))
        ·have h4:a+2*s≤l.length:=(by simp [aA,aB] at h4;omega);rw [sL.eq_2 D n l.length s L a k',if_pos h4] at hmr;((conv=>whnf);refine bm (fun h5=>?_) (fun h5=>?_))
         ·(conv=>whnf);refine⟨0,c,[iv x,iv (x+z),iv y],p,L,D,by rw [sw.len];rfl,rfl,aV hC,a8 hF hD,?_⟩;((conv=>whnf);refine bm (fun t3=>?_) (fun t3=>?_))
          ·((conv=>whnf);refine bm (fun t4=>?_) (fun t4=>?_))
           ·((conv=>whnf);refine bm (fun t5=>?_) (fun t5=>?_))
            ·(conv=>whnf);refine⟨l.length+1 - (a+2*s),by omega,?_⟩;have hv:aU D n L x.toNat (x+z).toNat y.toNat=aU D n L a (a+s) (a+2*s):=(by rw [show x.toNat=a by omega,show (x+z).toNat=a+s by omega,show y.toNat=a+2*s by omega]);refine bL (e0:=JF l.length c w z y (y+2*z) p) (o0:=.cells true false 1 (flat aN.fl (aU D n L a (a+s) (a+2*s)))) (n0:=nx''') hF ⟨a+2*s,k',_,_,_,by omega,by omega,by omega,by omega,rfl,sw.trans (mK D n _ _ _ _ (by omega) (by omega) (by rw [sw.len];omega)),hmr,rfl,rfl,rfl⟩ ?_ (aZ (aG _ _) (by rw [← hv])) (Nat.le_refl _);unfold JF;refine List.forall_mem_cons.2 ⟨cV hF.1 rfl,List.forall_mem_cons.2 ⟨dP hp rfl,?_⟩⟩;((repeat' refine iE rfl rfl ?_);exact iN)
            ·exfalso;simp [aA,aB,aI] at t5;omega
           ·exfalso;simp [aA,aB,aI] at t4;omega
          ·exfalso;have t3:(decide (0≤x)&&decide (x<x+z)&&decide (x+z<y)&&decide (y≤L.length)&&decide (y - x≤n)&&decide (L.length≤1000000)&&fH D L&&fW D)=false:=t3;rw [hW,sw.fH hin,sw.len] at t3;simp at t3;omega
         ·exfalso;simp [aA,aB,aI] at h5;omega
        ·have h4:¬ a+2*s≤l.length:=(by simp [aA,aB] at h4;omega);rw [sL.eq_2 D n l.length s L a k',if_neg h4] at hmr;rw [hmr] at hst;((conv=>whnf);refine bm (fun h5=>?_) (fun h5=>?_))
         ·((conv=>whnf);refine bm (fun h6=>?_) (fun h6=>?_))
          ·have h6:a+s<l.length:=(by simp [aA,aB] at h6;omega);(conv=>whnf);refine⟨0,c,[iv x,iv (x+z),iv w],p,L,D,by rw [sw.len];rfl,rfl,aV hC,a8 hF hD,?_⟩;((conv=>whnf);refine bm (fun t3=>?_) (fun t3=>?_))
           ·((conv=>whnf);refine bm (fun t4=>?_) (fun t4=>?_))
            ·(conv=>whnf);refine⟨l.length+1 - s*2,by omega,?_⟩;have hv:aU D n L x.toNat (x+z).toNat w.toNat=xQ D n l.length s (L,a):=by
              unfold xQ;rw [if_pos h6,show x.toNat=a by omega,show (x+z).toNat=a+s by omega,show w.toNat=l.length by omega]
             have sw2:Sw l (xQ D n l.length s (L,a)):=by
              unfold xQ;rw [if_pos h6];exact sw.trans (mK D n _ _ _ _ (by show a<a+s;omega) h6 (by rw [sw.len];omega))
             refine bL (e0:=CE l.length c w (z*2) p) (o0:=.cells true false 1 (flat aN.fl (xQ D n l.length s (L,a)))) (n0:=nx''') hF ⟨s*2,k3,_,_,by omega,by omega,by omega,by omega,rfl,sw2,hst,rfl,rfl,rfl⟩ ?_ (aZ (aG _ _) (by rw [← hv])) (Nat.le_refl _);unfold CE;refine List.forall_mem_cons.2 ⟨cV hF.1 rfl,List.forall_mem_cons.2 ⟨dP hp rfl,?_⟩⟩;((repeat' refine iE rfl rfl ?_);exact iN)
            ·exfalso;simp [aA,aB,aI] at t4;omega
           ·exfalso;have t3:(decide (0≤x)&&decide (x<x+z)&&decide (x+z<w)&&decide (w≤L.length)&&decide (w - x≤n)&&decide (L.length≤1000000)&&fH D L&&fW D)=false:=t3;rw [hW,sw.fH hin,sw.len] at t3;simp at t3;omega
          ·have h6:¬ a+s<l.length:=(by simp [aA,aB] at h6;omega);((conv=>whnf);refine bm (fun t4=>?_) (fun t4=>?_))
           ·(conv=>whnf);refine⟨l.length+1 - s*2,by omega,?_⟩;have hv:xQ D n l.length s (L,a)=L:=(by unfold xQ;rw [if_neg h6]);rw [hv] at hst;refine bL (e0:=CE l.length c w (z*2) p) (o0:=.cells true false 1 (flat aN.fl L)) (n0:=nx''') hF ⟨s*2,k3,_,_,by omega,by omega,by omega,by omega,rfl,sw,hst,rfl,rfl,rfl⟩ ?_ (aO (aG _ _)) (Nat.le_refl _);unfold CE;refine List.forall_mem_cons.2 ⟨cV hF.1 rfl,List.forall_mem_cons.2 ⟨dP hp rfl,?_⟩⟩;((repeat' refine iE rfl rfl ?_);exact iN)
           ·exfalso;simp [aA,aB,aI] at t4;omega
         ·exfalso;simp [aA,aB,aI] at h5;omega
      ·exfalso;simp [aA,aB,aI] at h3;omega
     ·have h2:¬ s<l.length:=(by simp [aA,aB] at h2;omega);(conv=>whnf);refine⟨rfl,?_⟩;have hM:sN D n l=M:=by
       rw [hst];cases k2 with
       |zero=>rfl
       |succ k2=>rw [HD.eq_2,if_neg h2]
      rw [hM]
   ·exfalso;have t:(decide (0≤x)&&decide (x≤w)&&decide (w≤L.length)&&decide (L.length≤1000000)&&fH D L&&fW D)=false:=t;rw [hW,sw.fH hin,sw.len] at t;simp at t;omega
end Go.Aw
end

noncomputable section
namespace Go.Aw
set_option maxRecDepth 100000
def H3 (n:Nat)(D:List Dt)(l:List Int)(r:List Value)(c:Nat):Option (Bool × List Int):=match r with
 |[]=>some (decide (l.length≤n)&&decide (l.length≤1000000)&&fH D l&&fW D,sN D n l)
 |_=>none
theorem QG {n:Nat}{D:List Dt}{l:List Int}{r:List Value}{c:Nat}{l':List Int}(h:H3 n D l r c=some (true,l')):r=[]∧l.length≤n∧l.length≤1000000∧fH D l=true∧fW D=true∧l'=sN D n l:=by
 unfold H3 at h;split at h
 ·injection h with h;injection h with h1 h2;simp only [Bool.and_eq_true,decide_eq_true_eq] at h1;exact⟨rfl,h1.1.1.1,h1.1.1.2,h1.1.2,h1.2,h2.symm⟩
 ·cases h
theorem aKM (n:Nat):cH Go.Proofs.Tryz.prog 214 (RH (H3 n)):=sT (aL (xl:=[(244,RH (aDL n))]) (.cons (aJD n) .nil)) fun D l r c l' hs=>by
 obtain⟨rfl,hn,hl,hin,hW,rfl⟩:=QG hs;clear hs;refine⟨rfl,fun F nx p hF hC hD=>?_⟩;(conv=>whnf);refine⟨0,c,[iv l.length],p,l,D,rfl,rfl,aV hC,a8 hF hD,?_⟩;((conv=>whnf);refine bm (fun t=>?_) (fun t=>?_))
 ·(conv=>whnf);exact⟨rfl,rfl⟩
 ·exfalso;have t:(decide ((l.length:Int)=l.length)&&decide (l.length≤n)&&decide (l.length≤1000000)&&fH D l&&fW D)=false:=t;rw [hW,hin] at t;simp at t;omega
theorem aGJ (n:Nat):cH Go.Proofs.Tryz.prog 160 (RH (H3 n)):=sT (aL (xl:=[(214,RH (H3 n))]) (.cons (aKM n) .nil)) fun D l r c l' hs=>by
 obtain⟨rfl,hn,hl,hin,hW,rfl⟩:=QG hs;clear hs;refine⟨rfl,fun F nx p hF hC hD=>?_⟩;(conv=>whnf);refine⟨0,c,[],p,l,D,rfl,rfl,aV hC,a8 hF hD,?_⟩;((conv=>whnf);refine bm (fun t=>?_) (fun t=>?_))
 ·(conv=>whnf);exact⟨rfl,rfl⟩
 ·exfalso;have t:(decide (l.length≤n)&&decide (l.length≤1000000)&&fH D l&&fW D)=false:=t;rw [hW,hin] at t;simp at t;omega
end Go.Aw
end

noncomputable section
namespace Go.Aw
open Go.RowKit
def aF1 (k:Nat)(v:Value):List (Nat × Value)→List (Nat × Value)
 |[]=>[(k,v)]
 |(j,u)::r=>match Nat.blt k j with
  |true=>(k,v)::(j,u)::r
  |false=>(match Nat.beq k j with|true=>(k,v)::r|false=>(j,u)::aF1 k v r)
def dF:List (Nat × Value)→List (Nat × Value)
 |[]=>[]
 |(k,v)::r=>aF1 k v (dF r)
theorem KC {k:Nat}{v:Value}{t:Nat}:∀ (l:List (Nat × Value)),look (aF1 k v l) t=look ((k,v)::l) t
 |[]=>rfl
 |(j,u)::r=>by
  unfold aF1;split
  ·rfl
  ·split
   ·rename_i h;have:=beq_true h;subst this;simp only [aE];split <;> rfl
   ·rename_i h;have hne:=beq_false h;rw [aE,KC r];simp only [aE];split
    ·rename_i h1;split
     ·rename_i h2;exact absurd ((beq_true h2).trans (beq_true h1).symm) hne
     ·rfl
    ·rfl
theorem AZ {t:Nat}:∀ (l:List (Nat × Value)),look (dF l) t=look l t
 |[]=>rfl
 |(k,v)::r=>by
  unfold dF;rw [KC,aE,aE,AZ r]
def tF (k:Nat):List Nat→List Nat
 |[]=>[k]
 |j::r=>match Nat.blt k j with|true=>k::j::r|false=>j::tF k r
theorem N9 {k i:Nat}:∀ {l:List Nat},i∈tF k l↔i=k∨i∈l
 |[]=>by simp [tF]
 |j::r=>by
  unfold tF;split
  ·simp
  ·simp only [List.mem_cons,N9];constructor
   ·rintro (h|h|h)
    ·exact .inr (.inl h)
    ·exact .inl h
    ·exact .inr (.inr h)
   ·rintro (h|h|h)
    ·exact .inr (.inl h)
    ·exact .inl h
    ·exact .inr (.inr h)
def lZ (A:Ar)(T:cU)(C:VC)(Y:VY)(tn:Nat)(ops:List Oper)(K:KS):Nat→List Nat→KS
 |0,_=>K
 |n+1,done=>fun e h nx=>match eY ops done ops 0 with
  |[]=>K e h nx
  |i::r=>LI (fun j=>match fM ops j with|some o=>pZ A T C Y tn ops o e h nx (fun e' h' nx'=>lZ A T C Y tn ops K n (tF j done) (dF e') h' nx')|none=>False) (i::r)
section
variable {A:Ar}{T:cU}{C:VC}{Y:VY}{tn:Nat}
theorem nG {e e':List (Nat × Value)}(h:∀ t,look e t=look e' t):dD e=dD e':=by
 funext x;cases x <;> simp [dD,h]
theorem wG {e e':List (Nat × Value)}(h:∀ t,look e t=look e' t):kS e=kS e':=by
 funext l
 induction l with
 |nil=>rfl
 |cons x r ih=>obtain⟨i,x⟩:=x;simp only [kS,nG h,ih]
theorem CG {e e':List (Nat × Value)}(h:∀ t,look e t=look e' t):lH e=lH e':=by
 funext l
 induction l with
 |nil=>rfl
 |cons x r ih=>simp only [lH,nG h,ih]
theorem PC {e e':List (Nat × Value)}(h:∀ t,look e t=look e' t):lE e=lE e':=by
 funext x;cases x <;> simp only [lE,nG h]
theorem OB {e e':List (Nat × Value)}(h:∀ t,look e t=look e' t):AO e=AO e':=by
 funext l
 induction l with
 |nil=>rfl
 |cons x r ih=>simp only [AO,nG h,ih]
theorem QK {e e':List (Nat × Value)}(h:∀ t,look e t=look e' t){g:Heap}{op:Op}{K:Value→Prop}:jP A T e g op K=jP A T e' g op K:=by
 unfold jP;rw [nG h,wG h,CG h,OB h]
theorem YT {e e':List (Nat × Value)}(h:∀ t,look e t=look e' t){g:Heap}{nx:Nat}{op:Op}{K:KE}:qJ A T C Y e g nx op K=qJ A T C Y e' g nx op K:=by
 unfold qJ;rw [nG h,wG h,CG h,PC h];simp only [QK h]
theorem BX {e e':List (Nat × Value)}(h:∀ t,look e t=look e' t){k:Nat}{v:Value}(t:Nat):look (put e k v) t=look (put e' k v) t:=by
 unfold put;rw [aE,aE,h]
theorem G7 {e e':List (Nat × Value)}(h:∀ t,look e t=look e' t){d:Option Nat}{v:Value}{F G:List (Nat × Value)→Prop}(hK:∀ e e',(∀ t,look e t=look e' t)→F e→G e')(hl:eP tn e d v F):eP tn e' d v G:=by
 unfold eP at hl ⊢;split at hl
 ·exact hK _ _ h hl
 ·split at hl
  ·exact hK _ _ (BX h) hl
  ·exact hl.elim
theorem MT {ops:List Oper}{e e':List (Nat × Value)}(h:∀ t,look e t=look e' t){g:Option (Nat × Bool)}{Yk N Yk' N':List (Nat × Value)→Prop}(hY:∀ e e',(∀ t,look e t=look e' t)→Yk e→Yk' e')(hN:∀ e e',(∀ t,look e t=look e' t)→N e→N' e')
  (hl:gD A ops e g Yk N):gD A ops e' g Yk' N':=by
 unfold gD at hl ⊢;split at hl
 ·exact hY _ _ h hl
 ·rename_i j want;split at hl
  ·rename_i o ho;split at hl
   ·rename_i t ht;rw [← h t];split at hl
    ·rename_i b hb;rw [aHP] at hl ⊢;rcases hl with ⟨h1,h2⟩|⟨h1,h2⟩
     ·exact .inl ⟨h1,hY _ _ (BX h) h2⟩
     ·exact .inr ⟨h1,hN _ _ (BX h) h2⟩
    ·exact hN _ _ h hl
    ·exact hl.elim
   ·exact hl.elim
  ·exact hl.elim
theorem GP {d d':List Nat}(h:∀ i,i∈d↔i∈d')(i:Nat):pM i d=pM i d':=by
 cases h1:pM i d with
 |true=>exact (dM.2 ((h i).1 (dM.1 h1))).symm
 |false =>
  cases h2:pM i d' with
  |false=>rfl
  |true=>rw [dM.2 ((h i).2 (dM.1 h2))] at h1;cases h1
theorem allM_congr {d d':List Nat}(h:∀ i,i∈d↔i∈d')(m:List Nat):allM d m=allM d' m:=by
 induction m with
 |nil=>rfl
 |cons x r ih=>simp only [allM,GP h,ih]
theorem zS {all:List Oper}{d d':List Nat}(h:∀ i,i∈d↔i∈d'):∀ (l:List Oper) (i:Nat),eY all d l i=eY all d' l i
 |[],_=>rfl
 |o::r,i=>by simp only [eY,GP h,allM_congr h,zS h r]
theorem fU.mono {E:KE→Prop}(hE:fU E){K K':KE}(h:∀ v h nx,K v h nx→K' v h nx)(hl:E K):E K':=by
 obtain⟨v,g,nx,h1,h2⟩:=hE K hl;exact h2 K' (h _ _ _ h1)
theorem PX (hC:eJ C)(hY:eJ Y){ops:List Oper}{o:Oper}{e e':List (Nat × Value)}(h:∀ t,look e t=look e' t){g:Heap}{nx:Nat}{K K':KS}(hK:∀ e e' g nx,(∀ t,look e t=look e' t)→K e g nx→K' e' g nx)
  (hl:pZ A T C Y tn ops o e g nx K):pZ A T C Y tn ops o e' g nx K':=by
 unfold pZ at hl ⊢;refine MT h (fun e1 e2 h12 h1=>?_) (fun e1 e2 h12 h1=>?_) hl
 ·rw [YT (e':=e2) h12] at h1;exact (D5 hC hY).mono (fun v g' nx' h2=>G7 h12 (fun a b hab h3=>hK a b g' nx' hab h3) h2) h1
 ·exact G7 h12 (fun a b hab h3=>hK a b g nx hab h3) h1
theorem JH (hC:eJ C)(hY:eJ Y){ops:List Oper}{K:KS}(hK:∀ e e' g nx,(∀ t,look e t=look e' t)→K e g nx→K e' g nx) :
  ∀ n (done done':List Nat) (e e':List (Nat × Value)) (g:Heap) (nx:Nat),(∀ i,i∈done↔i∈done')→(∀ t,look e t=look e' t)→lZ A T C Y tn ops K n done e g nx→FH A T C Y tn ops K n done' e' g nx
 |0,done,done',e,e',g,nx,hd,he,hl=>hK _ _ _ _ he hl
 |n+1,done,done',e,e',g,nx,hd,he,hl=>by
  unfold lZ at hl;unfold FH;rw [← zS hd];split at hl
  ·rename_i hr;rw [hr];exact hK _ _ _ _ he hl
  ·rename_i hr;rw [hr];simp only;rw [y9] at hl ⊢;intro i hi;have h1:=hl i hi;split at h1
   ·rename_i o ho;rw [ho];refine PX hC hY he (fun a b g' nx' hab h2=>?_) h1;refine JH hC hY hK n _ _ _ _ _ _ (fun k=>?_) (fun t=>?_) h2
    ·rw [N9,List.mem_cons,hd k]
    ·rw [AZ,hab]
   ·exact h1.elim
theorem R8 {b:Nat}{I:KS}(e e':List (Nat × Value))(g:Heap)(nx:Nat)(h:∀ t,look e t=look e' t)(hi:qU b I e g nx):qU b I e' g nx:=by
 obtain⟨e0,h0,n0,ρ,hI,r⟩:=hi;exact⟨e0,h0,n0,ρ,hI,fun t v hv=>by rw [← h t];exact r.env t v hv,r.heap,r.inj,r.fix,r.le⟩
theorem aEY (hC:eJ C)(hY:eJ Y){ops:List Oper}{b:Nat}{I:KS}{n:Nat}{e:List (Nat × Value)}{g:Heap}{nx:Nat}(hl:lZ A T C Y tn ops (qU b I) n [] (dF e) g nx):FH A T C Y tn ops (qU b I) n [] e g nx :=
 JH hC hY R8 n [] [] _ _ _ _ (fun _=>Iff.rfl) (fun t=>AZ e) hl
end
end Go.Aw
end
