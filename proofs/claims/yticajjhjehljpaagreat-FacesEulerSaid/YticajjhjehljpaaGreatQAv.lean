/-
  Parts of a proof. No condition.
-/
import Derived.Test.YticajjhjehljpaaGreatQAi
import Derived.Test.YticajjhjehljpaaGreatQAu
set_option linter.unusedSimpArgs false
set_option linter.unusedVariables false
noncomputable section
namespace Go.Aw
set_option maxRecDepth 100000
set_option maxHeartbeats 2000000
def nX (D:CW)(n:Nat):Nat→List Int→Nat→List Int × Nat
 |0,L,a=>(L,a)
 |k+1,L,a=>if a+20≤n then nX D n k (iR D a L (a+20 - 1 - a)) (a+20) else (L,a)
def qG (D:CW)(f n bs:Nat):Nat→List Int→Nat→List Int × Nat
 |0,L,a=>(L,a)
 |k+1,L,a=>if a+2*bs≤n then qG D f n bs k (aP D f L a (a+bs) (a+2*bs)) (a+2*bs) else (L,a)
def u6 (D:CW)(f n bs:Nat)(r:List Int × Nat):List Int:=if r.2+bs<n then aP D f r.1 r.2 (r.2+bs) n else r.1
def DC (D:CW)(f n:Nat):Nat→List Int→Nat→List Int
 |0,L,_=>L
 |k+1,L,bs=>if bs<n then DC D f n k (u6 D f n bs (qG D f n bs (n+1) L 0)) (bs*2) else L
def qE (D:CW)(f:Nat)(L:List Int):List Int :=
 DC D f L.length (L.length+1) (iR D (nX D L.length (L.length+1) L 0).2 (nX D L.length (L.length+1) L 0).1 (L.length - 1 - (nX D L.length (L.length+1) L 0).2)) 20
theorem IL (D:CW)(a:Nat)(L:List Int)(t:Nat)(h:a+t<L.length):Sw L (iR D a L t):=by
 have key:∀ (j:Nat) (L:List Int),j<L.length→Sw L (tK D a L j):=by
  intro j
  induction j with
  |zero=>exact fun L _=>.refl L
  |succ j ih =>
   intro L hj;unfold tK;split
   ·exact (Sw.step (j+1) j (.refl L) hj (by omega)).trans (ih _ (by rw [gL];omega))
   ·exact .refl L
 induction t with
 |zero=>exact .refl L
 |succ t ih =>
  have h1:=ih (by omega);exact h1.trans (key _ _ (by rw [h1.len];omega))
theorem OO (D:CW)(a b:Nat)(L:List Int)(h:b≤L.length)(hab:a≤b):Sw L (iR D a L (b - 1 - a)):=by
 by_cases h0:b - 1 - a=0
 ·rw [h0];exact .refl L
 ·exact IL _ _ _ _ (by omega)
def aBZ (n:Nat)(D:CW)(l:List Int)(r:List Value)(c:Nat):Option (Bool × List Int):=match r with
 |[.int .i64 a]=>some (decide (a=l.length)&&decide (l.length≤n)&&decide (l.length≤1000000)&&fK D l&&fG D,qE D n l)
 |_=>none
theorem X2 {n:Nat}{D:CW}{l:List Int}{r:List Value}{c:Nat}{l':List Int}(h:aBZ n D l r c=some (true,l')):∃ a:Int,r=[iv a]∧a=l.length∧l.length≤n∧l.length≤1000000∧fK D l=true∧fG D=true∧l'=qE D n l:=by
 unfold aBZ at h;split at h
 ·rename_i a;injection h with h;injection h with h1 h2;simp only [Bool.and_eq_true,decide_eq_true_eq] at h1;exact⟨a,rfl,h1.1.1.1.1,h1.1.1.1.2,h1.1.1.2,h1.1.2,h1.2,h2.symm⟩
 ·cases h
def IA (N c:Nat)(n a b:Int)(D:CW)(p:Nat × Nat):List (Nat × Value):=[(0,.slice (some ⟨0,0,none⟩) N c),(2,lE D p),(1,iv n),(6,iv 20),(7,iv a),(8,iv b)]
def A2 (N c:Nat)(n s:Int)(D:CW)(p:Nat × Nat):List (Nat × Value):=[(0,.slice (some ⟨0,0,none⟩) N c),(2,lE D p),(1,iv n),(6,iv s)]
def HC (N c:Nat)(n s a b:Int)(D:CW)(p:Nat × Nat):List (Nat × Value):=[(0,.slice (some ⟨0,0,none⟩) N c),(2,lE D p),(1,iv n),(6,iv s),(7,iv a),(8,iv b)]
theorem aI1 (n:Nat):dK Go.Proofs.Tryz.prog 173 (O6 (aBZ n)):=sH (aR (xl:=[(187,O6 (aAc n)),ZT]) (.cons (aDW n) (.cons aI5 .nil))) fun D l r c l' hs=>by
 obtain⟨w,rfl,hw,hn,hl,hin,hW,rfl⟩:=X2 hs;clear hs;refine⟨rfl,fun F nx p hF hC hD=>?_⟩;have hp:=JO hF hD;(conv=>whnf);refine⟨fun q e h nx'=>∃ (a k:Nat) (x y:Int) (L:List Int),x=a∧y=a+20∧(a≤l.length)∧l.length+1 - a≤k∧q=l.length+1 - a∧Sw l L∧nX D l.length (l.length+1) l 0=nX D l.length k L a∧e=IA l.length c w x y D p∧h=(0,.cells true false 1 (flat aU.fl L))::F∧nx'=nx,⟨l.length+1 - 0,?_⟩,?_⟩
 ·refine bL (e0:=IA l.length c w 0 20 D p) (o0:=.cells true false 1 (flat aU.fl l)) (n0:=nx) hF ⟨0,l.length+1,0,20,l,rfl,rfl,Nat.zero_le _,by omega,rfl,.refl l,rfl,rfl,rfl,rfl⟩ ?_ (aI (aF _ _)) (Nat.le_refl _);unfold IA;refine List.forall_mem_cons.2 ⟨cJ hF.1 rfl,List.forall_mem_cons.2 ⟨dH hp rfl,?_⟩⟩;((repeat' refine iE rfl rfl ?_);exact iN)
 ·rintro q e h nx' ⟨a,k,x,y,L,hx,hy,ha,hk,rfl,sw,hins,rfl,rfl,rfl⟩;unfold IA;((conv=>whnf);refine bm (fun h1=>?_) (fun h1=>?_))
  ·have h1:a+20≤l.length:=(by simp [aA,aG] at h1;omega);obtain⟨k',rfl⟩:∃ k',k=k'+1:=⟨k - 1,by omega⟩;rw [nX.eq_2 D l.length L a k',if_pos h1] at hins;(conv=>whnf);refine⟨0,c,[iv x,iv y],p,L,D,by rw [sw.len];rfl,rfl,aQ hC,bG hF hD,?_⟩;((conv=>whnf);refine bm (fun t=>?_) (fun t=>?_))
   ·((conv=>whnf);refine bm (fun t2=>?_) (fun t2=>?_))
    ·(conv=>whnf);refine⟨l.length+1 - (a+20),by omega,?_⟩;have hv:iR D x.toNat L (y - 1 - x).toNat=iR D a L (a+20 - 1 - a):=(by rw [show x.toNat=a by omega,show (y - 1 - x).toNat=a+20 - 1 - a by omega]);refine bL (e0:=IA l.length c w y (y+20) D p) (o0:=.cells true false 1 (flat aU.fl (iR D a L (a+20 - 1 - a)))) (n0:=nx') hF ⟨a+20,k',_,_,_,by omega,by omega,by omega,by omega,rfl,sw.trans (OO D a (a+20) L (by rw [sw.len];omega) (by omega)),hins,rfl,rfl,rfl⟩ ?_ (cV (aF _ _) (by rw [← hv])) (Nat.le_refl _);unfold IA;refine List.forall_mem_cons.2 ⟨cJ hF.1 rfl,List.forall_mem_cons.2 ⟨dH hp rfl,?_⟩⟩;((repeat' refine iE rfl rfl ?_);exact iN)
    ·exfalso;simp [aA,aG,aK] at t2;omega
   ·exfalso;have t:(decide (0≤x)&&decide (x≤y)&&decide (y≤L.length)&&decide (L.length≤1000000)&&fK D L&&fG D)=false:=t;rw [hW,sw.fK hin,sw.len] at t;simp at t;omega
  ·have h1:¬ a+20≤l.length:=(by simp [aA,aG] at h1;omega);obtain⟨k',rfl⟩:∃ k',k=k'+1:=⟨k - 1,by omega⟩;rw [nX.eq_2 D l.length L a k',if_neg h1] at hins;(conv=>whnf);refine⟨0,c,[iv x,iv w],p,L,D,by rw [sw.len];rfl,rfl,aQ hC,bG hF hD,?_⟩;((conv=>whnf);refine bm (fun t=>?_) (fun t=>?_))
   ·have hv:iR D x.toNat L (w - 1 - x).toNat=iR D (nX D l.length (l.length+1) l 0).2 (nX D l.length (l.length+1) l 0).1 (l.length - 1 - (nX D l.length (l.length+1) l 0).2):=by
     rw [hins,show x.toNat=a by omega,show (w - 1 - x).toNat=l.length - 1 - a by omega]
    have sw1:Sw l (iR D x.toNat L (w - 1 - x).toNat):=by
     rw [show x.toNat=a by omega,show (w - 1 - x).toNat=l.length - 1 - a by omega];exact sw.trans (OO D a l.length L (by rw [sw.len];omega) (by omega))
    clear hins;generalize hL1:iR D x.toNat L (w - 1 - x).toNat=L1 at hv sw1;(conv=>whnf);refine⟨fun q e h nx''=>∃ (s k:Nat) (z:Int) (M:List Int),z=s∧1≤s∧s≤2000000∧l.length+1 - s≤k∧q=l.length+1 - s∧Sw l M∧qE D n l=DC D n l.length k M s∧e=A2 l.length c w z D p∧h=(0,.cells true false 1 (flat aU.fl M))::F∧nx''=nx',⟨l.length+1 - 20,?_⟩,?_⟩
    ·refine bL (e0:=A2 l.length c w 20 D p) (o0:=.cells true false 1 (flat aU.fl L1)) (n0:=nx') hF ⟨20,l.length+1,20,L1,rfl,by omega,by omega,by omega,rfl,sw1,by rw [hv];rfl,rfl,rfl,rfl⟩ ?_ (cV (aF _ _) (by rw [← hL1])) (Nat.le_refl _);unfold A2;refine List.forall_mem_cons.2 ⟨cJ hF.1 rfl,List.forall_mem_cons.2 ⟨dH hp rfl,?_⟩⟩;((repeat' refine iE rfl rfl ?_);exact iN)
    ·rintro q e h nx'' ⟨s,k2,z,M,hz,hs1,hs2,hk2,rfl,swM,hst,rfl,rfl,rfl⟩;clear hv hL1 sw1 hk ha sw hy hx h1;unfold A2;((conv=>whnf);refine bm (fun h2=>?_) (fun h2=>?_))
     ·have h2:s<l.length:=(by simp [aA,aG] at h2;omega);obtain⟨k3,rfl⟩:∃ k3,k2=k3+1:=⟨k2 - 1,by omega⟩;rw [DC.eq_2 D n l.length M s k3,if_pos h2] at hst;((conv=>whnf);refine bm (fun h3=>?_) (fun h3=>?_))
      ·(conv=>whnf);refine⟨fun q e h nx'''=>∃ (a k:Nat) (x y:Int) (L:List Int),x=a∧y=a+2*s∧(a≤l.length)∧l.length+1 - a≤k∧q=l.length+1 - a∧Sw l L∧qG D n l.length s (l.length+1) M 0=qG D n l.length s k L a∧e=HC l.length c w z x y D p∧h=(0,.cells true false 1 (flat aU.fl L))::F∧nx'''=nx'',⟨l.length+1 - 0,?_⟩,?_⟩
       ·refine bL (e0:=HC l.length c w z 0 (2*z) D p) (o0:=.cells true false 1 (flat aU.fl M)) (n0:=nx'') hF ⟨0,l.length+1,0,_,M,rfl,by omega,Nat.zero_le _,by omega,rfl,swM,rfl,rfl,rfl,rfl⟩ ?_ (aI (aF _ _)) (Nat.le_refl _);unfold HC;refine List.forall_mem_cons.2 ⟨cJ hF.1 rfl,List.forall_mem_cons.2 ⟨dH hp rfl,?_⟩⟩;((repeat' refine iE rfl rfl ?_);exact iN)
       ·rintro q e h nx''' ⟨a,k,x,y,L,hx,hy,ha,hk,rfl,sw,hmr,rfl,rfl,rfl⟩;unfold HC;obtain⟨k',rfl⟩:∃ k',k=k'+1:=⟨k - 1,by omega⟩;((conv=>whnf);refine bm (fun h4=>?_) (fun h4=>?_))
        ·have h4:a+2*s≤l.length:=(by simp [aA,aG] at h4;omega);rw [qG.eq_2 D n l.length s L a k',if_pos h4] at hmr;((conv=>whnf);refine bm (fun h5=>?_) (fun h5=>?_))
         ·(conv=>whnf);refine⟨0,c,[iv x,iv (x+z),iv y],p,L,D,by rw [sw.len];rfl,rfl,aQ hC,bG hF hD,?_⟩;((conv=>whnf);refine bm (fun t3=>?_) (fun t3=>?_))
          ·((conv=>whnf);refine bm (fun t4=>?_) (fun t4=>?_))
           ·((conv=>whnf);refine bm (fun t5=>?_) (fun t5=>?_))
            ·(conv=>whnf);refine⟨l.length+1 - (a+2*s),by omega,?_⟩;have hv:aP D n L x.toNat (x+z).toNat y.toNat=aP D n L a (a+s) (a+2*s):=(by rw [show x.toNat=a by omega,show (x+z).toNat=a+s by omega,show y.toNat=a+2*s by omega]);refine bL (e0:=HC l.length c w z y (y+2*z) D p) (o0:=.cells true false 1 (flat aU.fl (aP D n L a (a+s) (a+2*s)))) (n0:=nx''') hF ⟨a+2*s,k',_,_,_,by omega,by omega,by omega,by omega,rfl,sw.trans (lK D n _ _ _ _ (by omega) (by omega) (by rw [sw.len];omega)),hmr,rfl,rfl,rfl⟩ ?_ (cV (aF _ _) (by rw [← hv])) (Nat.le_refl _);unfold HC;refine List.forall_mem_cons.2 ⟨cJ hF.1 rfl,List.forall_mem_cons.2 ⟨dH hp rfl,?_⟩⟩;((repeat' refine iE rfl rfl ?_);exact iN)
            ·exfalso;simp [aA,aG,aK] at t5;omega
           ·exfalso;simp [aA,aG,aK] at t4;omega
          ·exfalso;have t3:(decide (0≤x)&&decide (x<x+z)&&decide (x+z<y)&&decide (y≤L.length)&&decide (y - x≤n)&&decide (L.length≤1000000)&&fK D L&&fG D)=false:=t3;rw [hW,sw.fK hin,sw.len] at t3;simp at t3;omega
         ·exfalso;simp [aA,aG,aK] at h5;omega
        ·have h4:¬ a+2*s≤l.length:=(by simp [aA,aG] at h4;omega);rw [qG.eq_2 D n l.length s L a k',if_neg h4] at hmr;rw [hmr] at hst;((conv=>whnf);refine bm (fun h5=>?_) (fun h5=>?_))
         ·((conv=>whnf);refine bm (fun h6=>?_) (fun h6=>?_))
          ·have h6:a+s<l.length:=(by simp [aA,aG] at h6;omega);(conv=>whnf);refine⟨0,c,[iv x,iv (x+z),iv w],p,L,D,by rw [sw.len];rfl,rfl,aQ hC,bG hF hD,?_⟩;((conv=>whnf);refine bm (fun t3=>?_) (fun t3=>?_))
           ·((conv=>whnf);refine bm (fun t4=>?_) (fun t4=>?_))
            ·(conv=>whnf);refine⟨l.length+1 - s*2,by omega,?_⟩;have hv:aP D n L x.toNat (x+z).toNat w.toNat=u6 D n l.length s (L,a):=by
              unfold u6;rw [if_pos h6,show x.toNat=a by omega,show (x+z).toNat=a+s by omega,show w.toNat=l.length by omega]
             have sw2:Sw l (u6 D n l.length s (L,a)):=by
              unfold u6;rw [if_pos h6];exact sw.trans (lK D n _ _ _ _ (by show a<a+s;omega) h6 (by rw [sw.len];omega))
             refine bL (e0:=A2 l.length c w (z*2) D p) (o0:=.cells true false 1 (flat aU.fl (u6 D n l.length s (L,a)))) (n0:=nx''') hF ⟨s*2,k3,_,_,by omega,by omega,by omega,by omega,rfl,sw2,hst,rfl,rfl,rfl⟩ ?_ (cV (aF _ _) (by rw [← hv])) (Nat.le_refl _);unfold A2;refine List.forall_mem_cons.2 ⟨cJ hF.1 rfl,List.forall_mem_cons.2 ⟨dH hp rfl,?_⟩⟩;((repeat' refine iE rfl rfl ?_);exact iN)
            ·exfalso;simp [aA,aG,aK] at t4;omega
           ·exfalso;have t3:(decide (0≤x)&&decide (x<x+z)&&decide (x+z<w)&&decide (w≤L.length)&&decide (w - x≤n)&&decide (L.length≤1000000)&&fK D L&&fG D)=false:=t3;rw [hW,sw.fK hin,sw.len] at t3;simp at t3;omega
          ·have h6:¬ a+s<l.length:=(by simp [aA,aG] at h6;omega);((conv=>whnf);refine bm (fun t4=>?_) (fun t4=>?_))
           ·(conv=>whnf);refine⟨l.length+1 - s*2,by omega,?_⟩;have hv:u6 D n l.length s (L,a)=L:=(by unfold u6;rw [if_neg h6]);rw [hv] at hst;refine bL (e0:=A2 l.length c w (z*2) D p) (o0:=.cells true false 1 (flat aU.fl L)) (n0:=nx''') hF ⟨s*2,k3,_,_,by omega,by omega,by omega,by omega,rfl,sw,hst,rfl,rfl,rfl⟩ ?_ (aI (aF _ _)) (Nat.le_refl _);unfold A2;refine List.forall_mem_cons.2 ⟨cJ hF.1 rfl,List.forall_mem_cons.2 ⟨dH hp rfl,?_⟩⟩;((repeat' refine iE rfl rfl ?_);exact iN)
           ·exfalso;simp [aA,aG,aK] at t4;omega
         ·exfalso;simp [aA,aG,aK] at h5;omega
      ·exfalso;simp [aA,aG,aK] at h3;omega
     ·have h2:¬ s<l.length:=(by simp [aA,aG] at h2;omega);(conv=>whnf);refine⟨rfl,?_⟩;have hM:qE D n l=M:=by
       rw [hst];cases k2 with
       |zero=>rfl
       |succ k2=>rw [DC.eq_2,if_neg h2]
      rw [hM]
   ·exfalso;have t:(decide (0≤x)&&decide (x≤w)&&decide (w≤L.length)&&decide (L.length≤1000000)&&fK D L&&fG D)=false:=t;rw [hW,sw.fK hin,sw.len] at t;simp at t;omega
end Go.Aw
end

noncomputable section
namespace Go.Aw
set_option maxRecDepth 100000
def GN (n:Nat)(D:CW)(l:List Int)(r:List Value)(c:Nat):Option (Bool × List Int):=match r with
 |[]=>some (decide (l.length≤n)&&decide (l.length≤1000000)&&fK D l&&fG D,qE D n l)
 |_=>none
theorem OV {n:Nat}{D:CW}{l:List Int}{r:List Value}{c:Nat}{l':List Int}(h:GN n D l r c=some (true,l')):r=[]∧l.length≤n∧l.length≤1000000∧fK D l=true∧fG D=true∧l'=qE D n l:=by
 unfold GN at h;split at h
 ·injection h with h;injection h with h1 h2;simp only [Bool.and_eq_true,decide_eq_true_eq] at h1;exact⟨rfl,h1.1.1.1,h1.1.1.2,h1.1.2,h1.2,h2.symm⟩
 ·cases h
theorem aIn (n:Nat):dK Go.Proofs.Tryz.prog 155 (O6 (GN n)):=sH (aR (xl:=[(173,O6 (aBZ n))]) (.cons (aI1 n) .nil)) fun D l r c l' hs=>by
 obtain⟨rfl,hn,hl,hin,hW,rfl⟩:=OV hs;clear hs;refine⟨rfl,fun F nx p hF hC hD=>?_⟩;(conv=>whnf);refine⟨0,c,[iv l.length],p,l,D,rfl,rfl,aQ hC,bG hF hD,?_⟩;((conv=>whnf);refine bm (fun t=>?_) (fun t=>?_))
 ·(conv=>whnf);exact⟨rfl,rfl⟩
 ·exfalso;have t:(decide ((l.length:Int)=l.length)&&decide (l.length≤n)&&decide (l.length≤1000000)&&fK D l&&fG D)=false:=t;rw [hW,hin] at t;simp at t;omega
theorem aEw (n:Nat):dK Go.Proofs.Tryz.prog 104 (O6 (GN n)):=sH (aR (xl:=[(155,O6 (GN n))]) (.cons (aIn n) .nil)) fun D l r c l' hs=>by
 obtain⟨rfl,hn,hl,hin,hW,rfl⟩:=OV hs;clear hs;refine⟨rfl,fun F nx p hF hC hD=>?_⟩;(conv=>whnf);refine⟨0,c,[],p,l,D,rfl,rfl,aQ hC,bG hF hD,?_⟩;((conv=>whnf);refine bm (fun t=>?_) (fun t=>?_))
 ·(conv=>whnf);exact⟨rfl,rfl⟩
 ·exfalso;have t:(decide (l.length≤n)&&decide (l.length≤1000000)&&fK D l&&fG D)=false:=t;rw [hW,hin] at t;simp at t;omega
def XP (D:List Dt)(L:List Int):Bool:=L.all fun x=>decide (0≤x)&&decide (x<D.length)
theorem oD {D:List Dt}{L:List Int}(h:XP D L=true){i:Nat}(hi:i<L.length):0≤aH L i∧aH L i<D.length:=r8 (D:=.dirs D) h hi
end Go.Aw
end

noncomputable section
namespace Go.Aw
open Go.RowKit
def aCm (k:Nat)(v:Value):List (Nat × Value)→List (Nat × Value)
 |[]=>[(k,v)]
 |(j,u)::r=>match Nat.blt k j with
  |true=>(k,v)::(j,u)::r
  |false=>(match Nat.beq k j with|true=>(k,v)::r|false=>(j,u)::aCm k v r)
def cW:List (Nat × Value)→List (Nat × Value)
 |[]=>[]
 |(k,v)::r=>aCm k v (cW r)
theorem H8 {k:Nat}{v:Value}{t:Nat}:∀ (l:List (Nat × Value)),look (aCm k v l) t=look ((k,v)::l) t
 |[]=>rfl
 |(j,u)::r=>by
  unfold aCm;split
  ·rfl
  ·split
   ·rename_i h;have:=beq_true h;subst this;simp only [aB];split <;> rfl
   ·rename_i h;have hne:=beq_false h;rw [aB,H8 r];simp only [aB];split
    ·rename_i h1;split
     ·rename_i h2;exact absurd ((beq_true h2).trans (beq_true h1).symm) hne
     ·rfl
    ·rfl
theorem zY {t:Nat}:∀ (l:List (Nat × Value)),look (cW l) t=look l t
 |[]=>rfl
 |(k,v)::r=>by
  unfold cW;rw [H8,aB,aB,zY r]
def rY (k:Nat):List Nat→List Nat
 |[]=>[k]
 |j::r=>match Nat.blt k j with|true=>k::j::r|false=>j::rY k r
theorem NF {k i:Nat}:∀ {l:List Nat},i∈rY k l↔i=k∨i∈l
 |[]=>by simp [rY]
 |j::r=>by
  unfold rY;split
  ·simp
  ·simp only [List.mem_cons,NF];constructor
   ·rintro (h|h|h)
    ·exact .inr (.inl h)
    ·exact .inl h
    ·exact .inr (.inr h)
   ·rintro (h|h|h)
    ·exact .inr (.inl h)
    ·exact .inl h
    ·exact .inr (.inr h)
def kZ (A:Ar)(T:cF)(C:VC)(Y:VY)(tn:Nat)(ops:List Oper)(K:KS):Nat→List Nat→KS
 |0,_=>K
 |n+1,done=>fun e h nx=>match eE ops done ops 0 with
  |[]=>K e h nx
  |i::r=>KW (fun j=>match eO ops j with|some o=>oL A T C Y tn ops o e h nx (fun e' h' nx'=>kZ A T C Y tn ops K n (rY j done) (cW e') h' nx')|none=>False) (i::r)
section
variable {A:Ar}{T:cF}{C:VC}{Y:VY}{tn:Nat}
theorem lZ {e e':List (Nat × Value)}(h:∀ t,look e t=look e' t):cU e=cU e':=by
 funext x;cases x <;> simp [cU,h]
theorem tY {e e':List (Nat × Value)}(h:∀ t,look e t=look e' t):jP e=jP e':=by
 funext l
 induction l with
 |nil=>rfl
 |cons x r ih=>obtain⟨i,x⟩:=x;simp only [jP,lZ h,ih]
theorem AL {e e':List (Nat × Value)}(h:∀ t,look e t=look e' t):j5 e=j5 e':=by
 funext l
 induction l with
 |nil=>rfl
 |cons x r ih=>simp only [j5,lZ h,ih]
theorem L4 {e e':List (Nat × Value)}(h:∀ t,look e t=look e' t):j7 e=j7 e':=by
 funext x;cases x <;> simp only [j7,lZ h]
theorem L5 {e e':List (Nat × Value)}(h:∀ t,look e t=look e' t):xV e=xV e':=by
 funext l
 induction l with
 |nil=>rfl
 |cons x r ih=>simp only [xV,lZ h,ih]
theorem NX {e e':List (Nat × Value)}(h:∀ t,look e t=look e' t){g:Heap}{op:Op}{K:Value→Prop}:iH A T e g op K=iH A T e' g op K:=by
 unfold iH;rw [lZ h,tY h,AL h,L5 h]
theorem VX {e e':List (Nat × Value)}(h:∀ t,look e t=look e' t){g:Heap}{nx:Nat}{op:Op}{K:KE}:oZ A T C Y e g nx op K=oZ A T C Y e' g nx op K:=by
 unfold oZ;rw [lZ h,tY h,AL h,L4 h];simp only [NX h]
theorem zL {e e':List (Nat × Value)}(h:∀ t,look e t=look e' t){k:Nat}{v:Value}(t:Nat):look (put e k v) t=look (put e' k v) t:=by
 unfold put;rw [aB,aB,h]
theorem FH {e e':List (Nat × Value)}(h:∀ t,look e t=look e' t){d:Option Nat}{v:Value}{F G:List (Nat × Value)→Prop}(hK:∀ e e',(∀ t,look e t=look e' t)→F e→G e')(hl:dZ tn e d v F):dZ tn e' d v G:=by
 unfold dZ at hl ⊢;split at hl
 ·exact hK _ _ h hl
 ·split at hl
  ·exact hK _ _ (zL h) hl
  ·exact hl.elim
theorem JT {ops:List Oper}{e e':List (Nat × Value)}(h:∀ t,look e t=look e' t){g:Option (Nat × Bool)}{Yk N Yk' N':List (Nat × Value)→Prop}(hY:∀ e e',(∀ t,look e t=look e' t)→Yk e→Yk' e')(hN:∀ e e',(∀ t,look e t=look e' t)→N e→N' e')
  (hl:fB A ops e g Yk N):fB A ops e' g Yk' N':=by
 unfold fB at hl ⊢;split at hl
 ·exact hY _ _ h hl
 ·rename_i j want;split at hl
  ·rename_i o ho;split at hl
   ·rename_i t ht;rw [← h t];split at hl
    ·rename_i b hb;rw [aH3] at hl ⊢;rcases hl with ⟨h1,h2⟩|⟨h1,h2⟩
     ·exact .inl ⟨h1,hY _ _ (zL h) h2⟩
     ·exact .inr ⟨h1,hN _ _ (zL h) h2⟩
    ·exact hN _ _ h hl
    ·exact hl.elim
   ·exact hl.elim
  ·exact hl.elim
theorem FK {d d':List Nat}(h:∀ i,i∈d↔i∈d')(i:Nat):n7 i d=n7 i d':=by
 cases h1:n7 i d with
 |true=>exact (dC.2 ((h i).1 (dC.1 h1))).symm
 |false =>
  cases h2:n7 i d' with
  |false=>rfl
  |true=>rw [dC.2 ((h i).2 (dC.1 h2))] at h1;cases h1
theorem allM_congr {d d':List Nat}(h:∀ i,i∈d↔i∈d')(m:List Nat):allM d m=allM d' m:=by
 induction m with
 |nil=>rfl
 |cons x r ih=>simp only [allM,FK h,ih]
theorem xY {all:List Oper}{d d':List Nat}(h:∀ i,i∈d↔i∈d'):∀ (l:List Oper) (i:Nat),eE all d l i=eE all d' l i
 |[],_=>rfl
 |o::r,i=>by simp only [eE,FK h,allM_congr h,xY h r]
theorem eL.mono {E:KE→Prop}(hE:eL E){K K':KE}(h:∀ v h nx,K v h nx→K' v h nx)(hl:E K):E K':=by
 obtain⟨v,g,nx,h1,h2⟩:=hE K hl;exact h2 K' (h _ _ _ h1)
theorem MW (hC:dM C)(hY:dM Y){ops:List Oper}{o:Oper}{e e':List (Nat × Value)}(h:∀ t,look e t=look e' t){g:Heap}{nx:Nat}{K K':KS}(hK:∀ e e' g nx,(∀ t,look e t=look e' t)→K e g nx→K' e' g nx)
  (hl:oL A T C Y tn ops o e g nx K):oL A T C Y tn ops o e' g nx K':=by
 unfold oL at hl ⊢;refine JT h (fun e1 e2 h12 h1=>?_) (fun e1 e2 h12 h1=>?_) hl
 ·rw [VX (e':=e2) h12] at h1;exact (BX hC hY).mono (fun v g' nx' h2=>FH h12 (fun a b hab h3=>hK a b g' nx' hab h3) h2) h1
 ·exact FH h12 (fun a b hab h3=>hK a b g nx hab h3) h1
theorem G5 (hC:dM C)(hY:dM Y){ops:List Oper}{K:KS}(hK:∀ e e' g nx,(∀ t,look e t=look e' t)→K e g nx→K e' g nx) :
  ∀ n (done done':List Nat) (e e':List (Nat × Value)) (g:Heap) (nx:Nat),(∀ i,i∈done↔i∈done')→(∀ t,look e t=look e' t)→kZ A T C Y tn ops K n done e g nx→D0 A T C Y tn ops K n done' e' g nx
 |0,done,done',e,e',g,nx,hd,he,hl=>hK _ _ _ _ he hl
 |n+1,done,done',e,e',g,nx,hd,he,hl=>by
  unfold kZ at hl;unfold D0;rw [← xY hd];split at hl
  ·rename_i hr;rw [hr];exact hK _ _ _ _ he hl
  ·rename_i hr;rw [hr];simp only;rw [xT] at hl ⊢;intro i hi;have h1:=hl i hi;split at h1
   ·rename_i o ho;rw [ho];refine MW hC hY he (fun a b g' nx' hab h2=>?_) h1;refine G5 hC hY hK n _ _ _ _ _ _ (fun k=>?_) (fun t=>?_) h2
    ·rw [NF,List.mem_cons,hd k]
    ·rw [zY,hab]
   ·exact h1.elim
theorem RN {b:Nat}{I:KS}(e e':List (Nat × Value))(g:Heap)(nx:Nat)(h:∀ t,look e t=look e' t)(hi:qI b I e g nx):qI b I e' g nx:=by
 obtain⟨e0,h0,n0,ρ,hI,r⟩:=hi;exact⟨e0,h0,n0,ρ,hI,fun t v hv=>by rw [← h t];exact r.env t v hv,r.heap,r.inj,r.fix,r.le⟩
theorem aBU (hC:dM C)(hY:dM Y){ops:List Oper}{b:Nat}{I:KS}{n:Nat}{e:List (Nat × Value)}{g:Heap}{nx:Nat}(hl:kZ A T C Y tn ops (qI b I) n [] (cW e) g nx):D0 A T C Y tn ops (qI b I) n [] e g nx :=
 G5 hC hY RN n [] [] _ _ _ _ (fun _=>Iff.rfl) (fun t=>zY e) hl
end
end Go.Aw
end
