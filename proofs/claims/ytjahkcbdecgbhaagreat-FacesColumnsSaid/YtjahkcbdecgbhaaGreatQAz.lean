/-
  Parts of a proof. No condition.
-/
import Derived.Test.YtjahkcbdecgbhaaGreatQAi
import Derived.Test.YtjahkcbdecgbhaaGreatQAy
set_option linter.unusedSimpArgs false
set_option linter.unusedVariables false
noncomputable section
namespace Go.Aw
set_option maxRecDepth 100000
set_option maxHeartbeats 2000000
def oY (D:CW)(n:Nat):Nat→List Int→Nat→List Int × Nat
 |0,L,a=>(L,a)
 |k+1,L,a=>if a+20≤n then oY D n k (jK D a L (a+20 - 1 - a)) (a+20) else (L,a)
def rQ (D:CW)(f n bs:Nat):Nat→List Int→Nat→List Int × Nat
 |0,L,a=>(L,a)
 |k+1,L,a=>if a+2*bs≤n then rQ D f n bs k (aT D f L a (a+bs) (a+2*bs)) (a+2*bs) else (L,a)
def v5 (D:CW)(f n bs:Nat)(r:List Int × Nat):List Int:=if r.2+bs<n then aT D f r.1 r.2 (r.2+bs) n else r.1
def D4 (D:CW)(f n:Nat):Nat→List Int→Nat→List Int
 |0,L,_=>L
 |k+1,L,bs=>if bs<n then D4 D f n k (v5 D f n bs (rQ D f n bs (n+1) L 0)) (bs*2) else L
def oC (D:CW)(f:Nat)(L:List Int):List Int :=
 D4 D f L.length (L.length+1) (jK D (oY D L.length (L.length+1) L 0).2 (oY D L.length (L.length+1) L 0).1 (L.length - 1 - (oY D L.length (L.length+1) L 0).2)) 20
theorem KC (D:CW)(a:Nat)(L:List Int)(t:Nat)(h:a+t<L.length):Sw L (jK D a L t):=by
 have key:∀ (j:Nat) (L:List Int),j<L.length→Sw L (uX D a L j):=by
  intro j
  induction j with
  |zero=>exact fun L _=>.refl L
  |succ j ih =>
   intro L hj;unfold uX;split
   ·exact (Sw.step (j+1) j (.refl L) hj (by omega)).trans (ih _ (by rw [iH];omega))
   ·exact .refl L
 induction t with
 |zero=>exact .refl L
 |succ t ih =>
  have h1:=ih (by omega);exact h1.trans (key _ _ (by rw [h1.len];omega))
theorem ML (D:CW)(a b:Nat)(L:List Int)(h:b≤L.length)(hab:a≤b):Sw L (jK D a L (b - 1 - a)):=by
 by_cases h0:b - 1 - a=0
 ·rw [h0];exact .refl L
 ·exact KC _ _ _ _ (by omega)
def aCN (n:Nat)(D:CW)(l:List Int)(r:List Value)(c:Nat):Option (Bool × List Int):=match r with
 |[.int .i64 a]=>some (decide (a=l.length)&&decide (l.length≤n)&&decide (l.length≤1000000)&&fR D l&&fH D,oC D n l)
 |_=>none
theorem ZN {n:Nat}{D:CW}{l:List Int}{r:List Value}{c:Nat}{l':List Int}(h:aCN n D l r c=some (true,l')):∃ a:Int,r=[iv a]∧a=l.length∧l.length≤n∧l.length≤1000000∧fR D l=true∧fH D=true∧l'=oC D n l:=by
 unfold aCN at h;split at h
 ·rename_i a;injection h with h;injection h with h1 h2;simp only [Bool.and_eq_true,decide_eq_true_eq] at h1;exact⟨a,rfl,h1.1.1.1.1,h1.1.1.1.2,h1.1.1.2,h1.1.2,h1.2,h2.symm⟩
 ·cases h
def IM (N c:Nat)(n a b:Int)(D:CW)(p:Nat × Nat):List (Nat × Value):=[(0,.slice (some ⟨0,0,none⟩) N c),(2,kA D p),(1,iv n),(6,iv 20),(7,iv a),(8,iv b)]
def A7 (N c:Nat)(n s:Int)(D:CW)(p:Nat × Nat):List (Nat × Value):=[(0,.slice (some ⟨0,0,none⟩) N c),(2,kA D p),(1,iv n),(6,iv s)]
def IS (N c:Nat)(n s a b:Int)(D:CW)(p:Nat × Nat):List (Nat × Value):=[(0,.slice (some ⟨0,0,none⟩) N c),(2,kA D p),(1,iv n),(6,iv s),(7,iv a),(8,iv b)]
theorem aJn (n:Nat):cO Go.Proofs.Tryz.prog 244 (PQ (aCN n)):=sI (aL (xl:=[(266,PQ (aC7 n)),aAU]) (.cons (aEB n) (.cons aJh .nil))) fun D l r c l' hs=>by
 obtain⟨w,rfl,hw,hn,hl,hin,hW,rfl⟩:=ZN hs;clear hs;refine⟨rfl,fun F nx p hF hC hD=>?_⟩;have hp:=LF hF hD;(conv=>whnf);refine⟨fun q e h nx'=>∃ (a k:Nat) (x y:Int) (L:List Int),x=a∧y=a+20∧(a≤l.length)∧l.length+1 - a≤k∧q=l.length+1 - a∧Sw l L∧oY D l.length (l.length+1) l 0=oY D l.length k L a∧e=IM l.length c w x y D p∧h=(0,.cells true false 1 (flat aO.fl L))::F∧nx'=nx,⟨l.length+1 - 0,?_⟩,?_⟩
 ·refine bQ (e0:=IM l.length c w 0 20 D p) (o0:=.cells true false 1 (flat aO.fl l)) (n0:=nx) hF ⟨0,l.length+1,0,20,l,rfl,rfl,Nat.zero_le _,by omega,rfl,.refl l,rfl,rfl,rfl,rfl⟩ ?_ (aN (aF _ _)) (Nat.le_refl _);unfold IM;refine List.forall_mem_cons.2 ⟨cQ hF.1 rfl,List.forall_mem_cons.2 ⟨dN hp rfl,?_⟩⟩;((repeat' refine iE rfl rfl ?_);exact iN)
 ·rintro q e h nx' ⟨a,k,x,y,L,hx,hy,ha,hk,rfl,sw,hins,rfl,rfl,rfl⟩;unfold IM;((conv=>whnf);refine bm (fun h1=>?_) (fun h1=>?_))
  ·have h1:a+20≤l.length:=(by simp [aA,aC] at h1;omega);obtain⟨k',rfl⟩:∃ k',k=k'+1:=⟨k - 1,by omega⟩;rw [oY.eq_2 D l.length L a k',if_pos h1] at hins;(conv=>whnf);refine⟨0,c,[iv x,iv y],p,L,D,by rw [sw.len];rfl,rfl,aS hC,bM hF hD,?_⟩;((conv=>whnf);refine bm (fun t=>?_) (fun t=>?_))
   ·((conv=>whnf);refine bm (fun t2=>?_) (fun t2=>?_))
    ·(conv=>whnf);refine⟨l.length+1 - (a+20),by omega,?_⟩;have hv:jK D x.toNat L (y - 1 - x).toNat=jK D a L (a+20 - 1 - a):=(by rw [show x.toNat=a by omega,show (y - 1 - x).toNat=a+20 - 1 - a by omega]);refine bQ (e0:=IM l.length c w y (y+20) D p) (o0:=.cells true false 1 (flat aO.fl (jK D a L (a+20 - 1 - a)))) (n0:=nx') hF ⟨a+20,k',_,_,_,by omega,by omega,by omega,by omega,rfl,sw.trans (ML D a (a+20) L (by rw [sw.len];omega) (by omega)),hins,rfl,rfl,rfl⟩ ?_ (aW (aF _ _) (by rw [← hv])) (Nat.le_refl _);unfold IM;refine List.forall_mem_cons.2 ⟨cQ hF.1 rfl,List.forall_mem_cons.2 ⟨dN hp rfl,?_⟩⟩;((repeat' refine iE rfl rfl ?_);exact iN)
    ·exfalso;simp [aA,aC,aH] at t2;omega
   ·exfalso;have t:(decide (0≤x)&&decide (x≤y)&&decide (y≤L.length)&&decide (L.length≤1000000)&&fR D L&&fH D)=false:=t;rw [hW,sw.fR hin,sw.len] at t;simp at t;omega
  ·have h1:¬ a+20≤l.length:=(by simp [aA,aC] at h1;omega);obtain⟨k',rfl⟩:∃ k',k=k'+1:=⟨k - 1,by omega⟩;rw [oY.eq_2 D l.length L a k',if_neg h1] at hins;(conv=>whnf);refine⟨0,c,[iv x,iv w],p,L,D,by rw [sw.len];rfl,rfl,aS hC,bM hF hD,?_⟩;((conv=>whnf);refine bm (fun t=>?_) (fun t=>?_))
   ·have hv:jK D x.toNat L (w - 1 - x).toNat=jK D (oY D l.length (l.length+1) l 0).2 (oY D l.length (l.length+1) l 0).1 (l.length - 1 - (oY D l.length (l.length+1) l 0).2):=by
     rw [hins,show x.toNat=a by omega,show (w - 1 - x).toNat=l.length - 1 - a by omega]
    have sw1:Sw l (jK D x.toNat L (w - 1 - x).toNat):=by
     rw [show x.toNat=a by omega,show (w - 1 - x).toNat=l.length - 1 - a by omega];exact sw.trans (ML D a l.length L (by rw [sw.len];omega) (by omega))
    clear hins;generalize hL1:jK D x.toNat L (w - 1 - x).toNat=L1 at hv sw1;(conv=>whnf);refine⟨fun q e h nx''=>∃ (s k:Nat) (z:Int) (M:List Int),z=s∧1≤s∧s≤2000000∧l.length+1 - s≤k∧q=l.length+1 - s∧Sw l M∧oC D n l=D4 D n l.length k M s∧e=A7 l.length c w z D p∧h=(0,.cells true false 1 (flat aO.fl M))::F∧nx''=nx',⟨l.length+1 - 20,?_⟩,?_⟩
    ·refine bQ (e0:=A7 l.length c w 20 D p) (o0:=.cells true false 1 (flat aO.fl L1)) (n0:=nx') hF ⟨20,l.length+1,20,L1,rfl,by omega,by omega,by omega,rfl,sw1,by rw [hv];rfl,rfl,rfl,rfl⟩ ?_ (aW (aF _ _) (by rw [← hL1])) (Nat.le_refl _);unfold A7;refine List.forall_mem_cons.2 ⟨cQ hF.1 rfl,List.forall_mem_cons.2 ⟨dN hp rfl,?_⟩⟩;((repeat' refine iE rfl rfl ?_);exact iN)
    ·rintro q e h nx'' ⟨s,k2,z,M,hz,hs1,hs2,hk2,rfl,swM,hst,rfl,rfl,rfl⟩;clear hv hL1 sw1 hk ha sw hy hx h1;unfold A7;((conv=>whnf);refine bm (fun h2=>?_) (fun h2=>?_))
     ·have h2:s<l.length:=(by simp [aA,aC] at h2;omega);obtain⟨k3,rfl⟩:∃ k3,k2=k3+1:=⟨k2 - 1,by omega⟩;rw [D4.eq_2 D n l.length M s k3,if_pos h2] at hst;((conv=>whnf);refine bm (fun h3=>?_) (fun h3=>?_))
      ·(conv=>whnf);refine⟨fun q e h nx'''=>∃ (a k:Nat) (x y:Int) (L:List Int),x=a∧y=a+2*s∧(a≤l.length)∧l.length+1 - a≤k∧q=l.length+1 - a∧Sw l L∧rQ D n l.length s (l.length+1) M 0=rQ D n l.length s k L a∧e=IS l.length c w z x y D p∧h=(0,.cells true false 1 (flat aO.fl L))::F∧nx'''=nx'',⟨l.length+1 - 0,?_⟩,?_⟩
       ·refine bQ (e0:=IS l.length c w z 0 (2*z) D p) (o0:=.cells true false 1 (flat aO.fl M)) (n0:=nx'') hF ⟨0,l.length+1,0,_,M,rfl,by omega,Nat.zero_le _,by omega,rfl,swM,rfl,rfl,rfl,rfl⟩ ?_ (aN (aF _ _)) (Nat.le_refl _);unfold IS;refine List.forall_mem_cons.2 ⟨cQ hF.1 rfl,List.forall_mem_cons.2 ⟨dN hp rfl,?_⟩⟩;((repeat' refine iE rfl rfl ?_);exact iN)
       ·rintro q e h nx''' ⟨a,k,x,y,L,hx,hy,ha,hk,rfl,sw,hmr,rfl,rfl,rfl⟩;unfold IS;obtain⟨k',rfl⟩:∃ k',k=k'+1:=⟨k - 1,by omega⟩;((conv=>whnf);refine bm (fun h4=>?_) (fun h4=>?_))
        ·have h4:a+2*s≤l.length:=(by simp [aA,aC] at h4;omega);rw [rQ.eq_2 D n l.length s L a k',if_pos h4] at hmr;((conv=>whnf);refine bm (fun h5=>?_) (fun h5=>?_))
         ·(conv=>whnf);refine⟨0,c,[iv x,iv (x+z),iv y],p,L,D,by rw [sw.len];rfl,rfl,aS hC,bM hF hD,?_⟩;((conv=>whnf);refine bm (fun t3=>?_) (fun t3=>?_))
          ·((conv=>whnf);refine bm (fun t4=>?_) (fun t4=>?_))
           ·((conv=>whnf);refine bm (fun t5=>?_) (fun t5=>?_))
            ·(conv=>whnf);refine⟨l.length+1 - (a+2*s),by omega,?_⟩;have hv:aT D n L x.toNat (x+z).toNat y.toNat=aT D n L a (a+s) (a+2*s):=(by rw [show x.toNat=a by omega,show (x+z).toNat=a+s by omega,show y.toNat=a+2*s by omega]);refine bQ (e0:=IS l.length c w z y (y+2*z) D p) (o0:=.cells true false 1 (flat aO.fl (aT D n L a (a+s) (a+2*s)))) (n0:=nx''') hF ⟨a+2*s,k',_,_,_,by omega,by omega,by omega,by omega,rfl,sw.trans (lU D n _ _ _ _ (by omega) (by omega) (by rw [sw.len];omega)),hmr,rfl,rfl,rfl⟩ ?_ (aW (aF _ _) (by rw [← hv])) (Nat.le_refl _);unfold IS;refine List.forall_mem_cons.2 ⟨cQ hF.1 rfl,List.forall_mem_cons.2 ⟨dN hp rfl,?_⟩⟩;((repeat' refine iE rfl rfl ?_);exact iN)
            ·exfalso;simp [aA,aC,aH] at t5;omega
           ·exfalso;simp [aA,aC,aH] at t4;omega
          ·exfalso;have t3:(decide (0≤x)&&decide (x<x+z)&&decide (x+z<y)&&decide (y≤L.length)&&decide (y - x≤n)&&decide (L.length≤1000000)&&fR D L&&fH D)=false:=t3;rw [hW,sw.fR hin,sw.len] at t3;simp at t3;omega
         ·exfalso;simp [aA,aC,aH] at h5;omega
        ·have h4:¬ a+2*s≤l.length:=(by simp [aA,aC] at h4;omega);rw [rQ.eq_2 D n l.length s L a k',if_neg h4] at hmr;rw [hmr] at hst;((conv=>whnf);refine bm (fun h5=>?_) (fun h5=>?_))
         ·((conv=>whnf);refine bm (fun h6=>?_) (fun h6=>?_))
          ·have h6:a+s<l.length:=(by simp [aA,aC] at h6;omega);(conv=>whnf);refine⟨0,c,[iv x,iv (x+z),iv w],p,L,D,by rw [sw.len];rfl,rfl,aS hC,bM hF hD,?_⟩;((conv=>whnf);refine bm (fun t3=>?_) (fun t3=>?_))
           ·((conv=>whnf);refine bm (fun t4=>?_) (fun t4=>?_))
            ·(conv=>whnf);refine⟨l.length+1 - s*2,by omega,?_⟩;have hv:aT D n L x.toNat (x+z).toNat w.toNat=v5 D n l.length s (L,a):=by
              unfold v5;rw [if_pos h6,show x.toNat=a by omega,show (x+z).toNat=a+s by omega,show w.toNat=l.length by omega]
             have sw2:Sw l (v5 D n l.length s (L,a)):=by
              unfold v5;rw [if_pos h6];exact sw.trans (lU D n _ _ _ _ (by show a<a+s;omega) h6 (by rw [sw.len];omega))
             refine bQ (e0:=A7 l.length c w (z*2) D p) (o0:=.cells true false 1 (flat aO.fl (v5 D n l.length s (L,a)))) (n0:=nx''') hF ⟨s*2,k3,_,_,by omega,by omega,by omega,by omega,rfl,sw2,hst,rfl,rfl,rfl⟩ ?_ (aW (aF _ _) (by rw [← hv])) (Nat.le_refl _);unfold A7;refine List.forall_mem_cons.2 ⟨cQ hF.1 rfl,List.forall_mem_cons.2 ⟨dN hp rfl,?_⟩⟩;((repeat' refine iE rfl rfl ?_);exact iN)
            ·exfalso;simp [aA,aC,aH] at t4;omega
           ·exfalso;have t3:(decide (0≤x)&&decide (x<x+z)&&decide (x+z<w)&&decide (w≤L.length)&&decide (w - x≤n)&&decide (L.length≤1000000)&&fR D L&&fH D)=false:=t3;rw [hW,sw.fR hin,sw.len] at t3;simp at t3;omega
          ·have h6:¬ a+s<l.length:=(by simp [aA,aC] at h6;omega);((conv=>whnf);refine bm (fun t4=>?_) (fun t4=>?_))
           ·(conv=>whnf);refine⟨l.length+1 - s*2,by omega,?_⟩;have hv:v5 D n l.length s (L,a)=L:=(by unfold v5;rw [if_neg h6]);rw [hv] at hst;refine bQ (e0:=A7 l.length c w (z*2) D p) (o0:=.cells true false 1 (flat aO.fl L)) (n0:=nx''') hF ⟨s*2,k3,_,_,by omega,by omega,by omega,by omega,rfl,sw,hst,rfl,rfl,rfl⟩ ?_ (aN (aF _ _)) (Nat.le_refl _);unfold A7;refine List.forall_mem_cons.2 ⟨cQ hF.1 rfl,List.forall_mem_cons.2 ⟨dN hp rfl,?_⟩⟩;((repeat' refine iE rfl rfl ?_);exact iN)
           ·exfalso;simp [aA,aC,aH] at t4;omega
         ·exfalso;simp [aA,aC,aH] at h5;omega
      ·exfalso;simp [aA,aC,aH] at h3;omega
     ·have h2:¬ s<l.length:=(by simp [aA,aC] at h2;omega);(conv=>whnf);refine⟨rfl,?_⟩;have hM:oC D n l=M:=by
       rw [hst];cases k2 with
       |zero=>rfl
       |succ k2=>rw [D4.eq_2,if_neg h2]
      rw [hM]
   ·exfalso;have t:(decide (0≤x)&&decide (x≤w)&&decide (w≤L.length)&&decide (L.length≤1000000)&&fR D L&&fH D)=false:=t;rw [hW,sw.fR hin,sw.len] at t;simp at t;omega
end Go.Aw
end

noncomputable section
namespace Go.Aw
set_option maxRecDepth 100000
def GP (n:Nat)(D:CW)(l:List Int)(r:List Value)(c:Nat):Option (Bool × List Int):=match r with
 |[]=>some (decide (l.length≤n)&&decide (l.length≤1000000)&&fR D l&&fH D,oC D n l)
 |_=>none
theorem PD {n:Nat}{D:CW}{l:List Int}{r:List Value}{c:Nat}{l':List Int}(h:GP n D l r c=some (true,l')):r=[]∧l.length≤n∧l.length≤1000000∧fR D l=true∧fH D=true∧l'=oC D n l:=by
 unfold GP at h;split at h
 ·injection h with h;injection h with h1 h2;simp only [Bool.and_eq_true,decide_eq_true_eq] at h1;exact⟨rfl,h1.1.1.1,h1.1.1.2,h1.1.2,h1.2,h2.symm⟩
 ·cases h
theorem aII (n:Nat):cO Go.Proofs.Tryz.prog 214 (PQ (GP n)):=sI (aL (xl:=[(244,PQ (aCN n))]) (.cons (aJn n) .nil)) fun D l r c l' hs=>by
 obtain⟨rfl,hn,hl,hin,hW,rfl⟩:=PD hs;clear hs;refine⟨rfl,fun F nx p hF hC hD=>?_⟩;(conv=>whnf);refine⟨0,c,[iv l.length],p,l,D,rfl,rfl,aS hC,bM hF hD,?_⟩;((conv=>whnf);refine bm (fun t=>?_) (fun t=>?_))
 ·(conv=>whnf);exact⟨rfl,rfl⟩
 ·exfalso;have t:(decide ((l.length:Int)=l.length)&&decide (l.length≤n)&&decide (l.length≤1000000)&&fR D l&&fH D)=false:=t;rw [hW,hin] at t;simp at t;omega
theorem aAX (n:Nat):cO Go.Proofs.Tryz.prog 160 (PQ (GP n)):=sI (aL (xl:=[(214,PQ (GP n))]) (.cons (aII n) .nil)) fun D l r c l' hs=>by
 obtain⟨rfl,hn,hl,hin,hW,rfl⟩:=PD hs;clear hs;refine⟨rfl,fun F nx p hF hC hD=>?_⟩;(conv=>whnf);refine⟨0,c,[],p,l,D,rfl,rfl,aS hC,bM hF hD,?_⟩;((conv=>whnf);refine bm (fun t=>?_) (fun t=>?_))
 ·(conv=>whnf);exact⟨rfl,rfl⟩
 ·exfalso;have t:(decide (l.length≤n)&&decide (l.length≤1000000)&&fR D l&&fH D)=false:=t;rw [hW,hin] at t;simp at t;omega
def YL (D:List Dt)(L:List Int):Bool:=L.all fun x=>decide (0≤x)&&decide (x<D.length)
theorem rE {D:List Dt}{L:List Int}(h:YL D L=true){i:Nat}(hi:i<L.length):0≤aM L i∧aM L i<D.length:=r8 (D:=.dirs D) h hi
end Go.Aw
end

noncomputable section
namespace Go.Aw
open Go.RowKit
def aDs (k:Nat)(v:Value):List (Nat × Value)→List (Nat × Value)
 |[]=>[(k,v)]
 |(j,u)::r=>match Nat.blt k j with
  |true=>(k,v)::(j,u)::r
  |false=>(match Nat.beq k j with|true=>(k,v)::r|false=>(j,u)::aDs k v r)
def cZ:List (Nat × Value)→List (Nat × Value)
 |[]=>[]
 |(k,v)::r=>aDs k v (cZ r)
theorem JK {k:Nat}{v:Value}{t:Nat}:∀ (l:List (Nat × Value)),look (aDs k v l) t=look ((k,v)::l) t
 |[]=>rfl
 |(j,u)::r=>by
  unfold aDs;split
  ·rfl
  ·split
   ·rename_i h;have:=beq_true h;subst this;simp only [aD];split <;> rfl
   ·rename_i h;have hne:=beq_false h;rw [aD,JK r];simp only [aD];split
    ·rename_i h1;split
     ·rename_i h2;exact absurd ((beq_true h2).trans (beq_true h1).symm) hne
     ·rfl
    ·rfl
theorem A3 {t:Nat}:∀ (l:List (Nat × Value)),look (cZ l) t=look l t
 |[]=>rfl
 |(k,v)::r=>by
  unfold cZ;rw [JK,aD,aD,A3 r]
def sE (k:Nat):List Nat→List Nat
 |[]=>[k]
 |j::r=>match Nat.blt k j with|true=>k::j::r|false=>j::sE k r
theorem OW {k i:Nat}:∀ {l:List Nat},i∈sE k l↔i=k∨i∈l
 |[]=>by simp [sE]
 |j::r=>by
  unfold sE;split
  ·simp
  ·simp only [List.mem_cons,OW];constructor
   ·rintro (h|h|h)
    ·exact .inr (.inl h)
    ·exact .inl h
    ·exact .inr (.inr h)
   ·rintro (h|h|h)
    ·exact .inr (.inl h)
    ·exact .inl h
    ·exact .inr (.inr h)
def lQ (A:Ar)(T:cN)(C:VC)(Y:VY)(tn:Nat)(ops:List Oper)(K:KS):Nat→List Nat→KS
 |0,_=>K
 |n+1,done=>fun e h nx=>match eP ops done ops 0 with
  |[]=>K e h nx
  |i::r=>LL (fun j=>match fC ops j with|some o=>pX A T C Y tn ops o e h nx (fun e' h' nx'=>lQ A T C Y tn ops K n (sE j done) (cZ e') h' nx')|none=>False) (i::r)
section
variable {A:Ar}{T:cN}{C:VC}{Y:VY}{tn:Nat}
theorem mV {e e':List (Nat × Value)}(h:∀ t,look e t=look e' t):cY e=cY e':=by
 funext x;cases x <;> simp [cY,h]
theorem vF {e e':List (Nat × Value)}(h:∀ t,look e t=look e' t):kE e=kE e':=by
 funext l
 induction l with
 |nil=>rfl
 |cons x r ih=>obtain⟨i,x⟩:=x;simp only [kE,mV h,ih]
theorem BL {e e':List (Nat × Value)}(h:∀ t,look e t=look e' t):kQ e=kQ e':=by
 funext l
 induction l with
 |nil=>rfl
 |cons x r ih=>simp only [kQ,mV h,ih]
theorem MU {e e':List (Nat × Value)}(h:∀ t,look e t=look e' t):kN e=kN e':=by
 funext x;cases x <;> simp only [kN,mV h]
theorem M6 {e e':List (Nat × Value)}(h:∀ t,look e t=look e' t):zI e=zI e':=by
 funext l
 induction l with
 |nil=>rfl
 |cons x r ih=>simp only [zI,mV h,ih]
theorem NT {e e':List (Nat × Value)}(h:∀ t,look e t=look e' t){g:Heap}{op:Op}{K:Value→Prop}:jD A T e g op K=jD A T e' g op K:=by
 unfold jD;rw [mV h,vF h,BL h,M6 h]
theorem W4 {e e':List (Nat × Value)}(h:∀ t,look e t=look e' t){g:Heap}{nx:Nat}{op:Op}{K:KE}:pK A T C Y e g nx op K=pK A T C Y e' g nx op K:=by
 unfold pK;rw [mV h,vF h,BL h,MU h];simp only [NT h]
theorem A0 {e e':List (Nat × Value)}(h:∀ t,look e t=look e' t){k:Nat}{v:Value}(t:Nat):look (put e k v) t=look (put e' k v) t:=by
 unfold put;rw [aD,aD,h]
theorem GH {e e':List (Nat × Value)}(h:∀ t,look e t=look e' t){d:Option Nat}{v:Value}{F G:List (Nat × Value)→Prop}(hK:∀ e e',(∀ t,look e t=look e' t)→F e→G e')(hl:eL tn e d v F):eL tn e' d v G:=by
 unfold eL at hl ⊢;split at hl
 ·exact hK _ _ h hl
 ·split at hl
  ·exact hK _ _ (A0 h) hl
  ·exact hl.elim
theorem LH {ops:List Oper}{e e':List (Nat × Value)}(h:∀ t,look e t=look e' t){g:Option (Nat × Bool)}{Yk N Yk' N':List (Nat × Value)→Prop}(hY:∀ e e',(∀ t,look e t=look e' t)→Yk e→Yk' e')(hN:∀ e e',(∀ t,look e t=look e' t)→N e→N' e')
  (hl:fL A ops e g Yk N):fL A ops e' g Yk' N':=by
 unfold fL at hl ⊢;split at hl
 ·exact hY _ _ h hl
 ·rename_i j want;split at hl
  ·rename_i o ho;split at hl
   ·rename_i t ht;rw [← h t];split at hl
    ·rename_i b hb;rw [aHL] at hl ⊢;rcases hl with ⟨h1,h2⟩|⟨h1,h2⟩
     ·exact .inl ⟨h1,hY _ _ (A0 h) h2⟩
     ·exact .inr ⟨h1,hN _ _ (A0 h) h2⟩
    ·exact hN _ _ h hl
    ·exact hl.elim
   ·exact hl.elim
  ·exact hl.elim
theorem GM {d d':List Nat}(h:∀ i,i∈d↔i∈d')(i:Nat):pH i d=pH i d':=by
 cases h1:pH i d with
 |true=>exact (dM.2 ((h i).1 (dM.1 h1))).symm
 |false =>
  cases h2:pH i d' with
  |false=>rfl
  |true=>rw [dM.2 ((h i).2 (dM.1 h2))] at h1;cases h1
theorem allM_congr {d d':List Nat}(h:∀ i,i∈d↔i∈d')(m:List Nat):allM d m=allM d' m:=by
 induction m with
 |nil=>rfl
 |cons x r ih=>simp only [allM,GM h,ih]
theorem yE {all:List Oper}{d d':List Nat}(h:∀ i,i∈d↔i∈d'):∀ (l:List Oper) (i:Nat),eP all d l i=eP all d' l i
 |[],_=>rfl
 |o::r,i=>by simp only [eP,GM h,allM_congr h,yE h r]
theorem fD.mono {E:KE→Prop}(hE:fD E){K K':KE}(h:∀ v h nx,K v h nx→K' v h nx)(hl:E K):E K':=by
 obtain⟨v,g,nx,h1,h2⟩:=hE K hl;exact h2 K' (h _ _ _ h1)
theorem N8 (hC:dW C)(hY:dW Y){ops:List Oper}{o:Oper}{e e':List (Nat × Value)}(h:∀ t,look e t=look e' t){g:Heap}{nx:Nat}{K K':KS}(hK:∀ e e' g nx,(∀ t,look e t=look e' t)→K e g nx→K' e' g nx)
  (hl:pX A T C Y tn ops o e g nx K):pX A T C Y tn ops o e' g nx K':=by
 unfold pX at hl ⊢;refine LH h (fun e1 e2 h12 h1=>?_) (fun e1 e2 h12 h1=>?_) hl
 ·rw [W4 (e':=e2) h12] at h1;exact (C1 hC hY).mono (fun v g' nx' h2=>GH h12 (fun a b hab h3=>hK a b g' nx' hab h3) h2) h1
 ·exact GH h12 (fun a b hab h3=>hK a b g nx hab h3) h1
theorem H9 (hC:dW C)(hY:dW Y){ops:List Oper}{K:KS}(hK:∀ e e' g nx,(∀ t,look e t=look e' t)→K e g nx→K e' g nx) :
  ∀ n (done done':List Nat) (e e':List (Nat × Value)) (g:Heap) (nx:Nat),(∀ i,i∈done↔i∈done')→(∀ t,look e t=look e' t)→lQ A T C Y tn ops K n done e g nx→GQ A T C Y tn ops K n done' e' g nx
 |0,done,done',e,e',g,nx,hd,he,hl=>hK _ _ _ _ he hl
 |n+1,done,done',e,e',g,nx,hd,he,hl=>by
  unfold lQ at hl;unfold GQ;rw [← yE hd];split at hl
  ·rename_i hr;rw [hr];exact hK _ _ _ _ he hl
  ·rename_i hr;rw [hr];simp only;rw [xG] at hl ⊢;intro i hi;have h1:=hl i hi;split at h1
   ·rename_i o ho;rw [ho];refine N8 hC hY he (fun a b g' nx' hab h2=>?_) h1;refine H9 hC hY hK n _ _ _ _ _ _ (fun k=>?_) (fun t=>?_) h2
    ·rw [OW,List.mem_cons,hd k]
    ·rw [A3,hab]
   ·exact h1.elim
theorem QT {b:Nat}{I:KS}(e e':List (Nat × Value))(g:Heap)(nx:Nat)(h:∀ t,look e t=look e' t)(hi:qU b I e g nx):qU b I e' g nx:=by
 obtain⟨e0,h0,n0,ρ,hI,r⟩:=hi;exact⟨e0,h0,n0,ρ,hI,fun t v hv=>by rw [← h t];exact r.env t v hv,r.heap,r.inj,r.fix,r.le⟩
theorem aE8 (hC:dW C)(hY:dW Y){ops:List Oper}{b:Nat}{I:KS}{n:Nat}{e:List (Nat × Value)}{g:Heap}{nx:Nat}(hl:lQ A T C Y tn ops (qU b I) n [] (cZ e) g nx):GQ A T C Y tn ops (qU b I) n [] e g nx :=
 H9 hC hY QT n [] [] _ _ _ _ (fun _=>Iff.rfl) (fun t=>A3 e) hl
end
end Go.Aw
end
