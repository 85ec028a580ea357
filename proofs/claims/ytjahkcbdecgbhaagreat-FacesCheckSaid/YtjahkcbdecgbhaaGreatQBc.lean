/-
  Parts of the proof, put together. No condition.
-/
import Derived.Test.YtjahkcbdecgbhaaGreatQAi
import Derived.Test.YtjahkcbdecgbhaaGreatQBb
set_option linter.unusedSimpArgs false
set_option linter.unusedVariables false
noncomputable section
namespace Go.Aw
set_option maxRecDepth 100000
set_option maxHeartbeats 2000000
def insB (D:List Dt)(n:Nat):Nat→List Int→Nat→List Int × Nat
 |0,L,a=>(L,a)
 |k+1,L,a=>if a+20≤n then insB D n k (insN D a L (a+20 - 1 - a)) (a+20) else (L,a)
def mrgA (D:List Dt)(f n bs:Nat):Nat→List Int→Nat→List Int × Nat
 |0,L,a=>(L,a)
 |k+1,L,a=>if a+2*bs≤n then mrgA D f n bs k (symM D f L a (a+bs) (a+2*bs)) (a+2*bs) else (L,a)
def mrgE (D:List Dt)(f n bs:Nat)(r:List Int × Nat):List Int:=if r.2+bs<n then symM D f r.1 r.2 (r.2+bs) n else r.1
def mrgB (D:List Dt)(f n:Nat):Nat→List Int→Nat→List Int
 |0,L,_=>L
 |k+1,L,bs=>if bs<n then mrgB D f n k (mrgE D f n bs (mrgA D f n bs (n+1) L 0)) (bs*2) else L
def stbl (D:List Dt)(f:Nat)(L:List Int):List Int :=
 mrgB D f L.length (L.length+1) (insN D (insB D L.length (L.length+1) L 0).2 (insB D L.length (L.length+1) L 0).1 (L.length - 1 - (insB D L.length (L.length+1) L 0).2)) 20
theorem insN_Sw (D:List Dt)(a:Nat)(L:List Int)(t:Nat)(h:a+t<L.length):Sw L (insN D a L t):=by
 have key:∀ (j:Nat) (L:List Int),j<L.length→Sw L (insJ D a L j):=by
  intro j
  induction j with
  |zero=>exact fun L _=>.refl L
  |succ j ih =>
   intro L hj
   unfold insJ
   split
   ·exact (Sw.step (j+1) j (.refl L) hj (by omega)).trans (ih _ (by rw [swpL_len];omega))
   ·exact .refl L
 induction t with
 |zero=>exact .refl L
 |succ t ih =>
  have h1:=ih (by omega)
  exact h1.trans (key _ _ (by rw [h1.len];omega))
theorem insN_Sw0 (D:List Dt)(a b:Nat)(L:List Int)(h:b≤L.length)(hab:a≤b):Sw L (insN D a L (b - 1 - a)):=by
 by_cases h0:b - 1 - a=0
 ·rw [h0];exact .refl L
 ·exact insN_Sw _ _ _ _ (by omega)
def stbS (n:Nat)(D:List Dt)(l:List Int)(r:List Value)(c:Nat):Option (Bool × List Int):=match r with
 |[.int .i64 a]=>some (decide (a=l.length)&&decide (l.length≤n)&&decide (l.length≤1000000)&&inR D l&&allW D,stbl D n l)
 |_=>none
theorem stbS_inv {n:Nat}{D:List Dt}{l:List Int}{r:List Value}{c:Nat}{l':List Int}(h:stbS n D l r c=some (true,l')):∃ a:Int,r=[iv a]∧a=l.length∧l.length≤n∧l.length≤1000000∧inR D l=true∧allW D=true∧l'=stbl D n l:=by
 unfold stbS at h
 split at h
 ·rename_i a
  injection h with h
  injection h with h1 h2
  simp only [Bool.and_eq_true,decide_eq_true_eq] at h1
  exact⟨a,rfl,h1.1.1.1.1,h1.1.1.1.2,h1.1.1.2,h1.1.2,h1.2,h2.symm⟩
 ·cases h
def e244a (N c:Nat)(n a b:Int)(p:Nat):List (Nat × Value):=[(0,.slice (some ⟨0,0,none⟩) N c),(2,cmpV p),(1,iv n),(6,iv 20),(7,iv a),(8,iv b)]
def e244b (N c:Nat)(n s:Int)(p:Nat):List (Nat × Value):=[(0,.slice (some ⟨0,0,none⟩) N c),(2,cmpV p),(1,iv n),(6,iv s)]
def e244c (N c:Nat)(n s a b:Int)(p:Nat):List (Nat × Value):=[(0,.slice (some ⟨0,0,none⟩) N c),(2,cmpV p),(1,iv n),(6,iv s),(7,iv a),(8,iv b)]
theorem xf244 (n:Nat):XOK Go.Proofs.Tryz.prog 244 (frD (stbS n)):=frD_ok (body_calls (xl:=[(266,frD (symS n)),Xf265]) (.cons (xf266 n) (.cons xf265 .nil))) fun D l r c l' hs=>by
 obtain⟨w,rfl,hw,hn,hl,hin,hW,rfl⟩:=stbS_inv hs
 clear hs
 refine⟨rfl,fun F nx p hF hC hD=>?_⟩
 have hp:=DirAt_lt hF hD
 (conv=>whnf)
 refine⟨fun q e h nx'=>∃ (a k:Nat) (x y:Int) (L:List Int),x=a∧y=a+20∧(a≤l.length)∧l.length+1 - a≤k∧q=l.length+1 - a∧Sw l L∧insB D l.length (l.length+1) l 0=insB D l.length k L a∧e=e244a l.length c w x y p∧h=(0,.cells true false 1 (flat elI.fl L))::F∧nx'=nx,⟨l.length+1 - 0,?_⟩,?_⟩
 ·refine Into_fr (e0:=e244a l.length c w 0 20 p) (o0:=.cells true false 1 (flat elI.fl l)) (n0:=nx) hF ⟨0,l.length+1,0,20,l,rfl,rfl,Nat.zero_le _,by omega,rfl,.refl l,rfl,rfl,rfl,rfl⟩ ?_ (ObjRen_g (flat_g _ _)) (Nat.le_refl _)
  unfold e244a
  refine List.forall_mem_cons.2 ⟨env_sl hF.1 rfl,List.forall_mem_cons.2 ⟨env_cm hp rfl,?_⟩⟩
  ((repeat'(refine List.forall_mem_cons.2 ⟨⟨rfl,?_⟩,?_⟩;(first|exact scT_g rfl|exact⟨by decide,rfl⟩|exact⟨by decide,fun h=>(by cases h)⟩)));exact fun _ h=>(by cases h))
 ·rintro q e h nx' ⟨a,k,x,y,L,hx,hy,ha,hk,rfl,sw,hins,rfl,rfl,rfl⟩
  unfold e244a
  ((conv=>whnf);refine bm (fun h1=>?_) (fun h1=>?_))
  ·have h1:a+20≤l.length:=by simp [cfgS,std] at h1;omega
   obtain⟨k',rfl⟩:∃ k',k=k'+1:=⟨k - 1,by omega⟩
   rw [insB.eq_2 D l.length L a k',if_pos h1] at hins
   (conv=>whnf)
   refine⟨0,c,[iv x,iv y],p,L,D,by rw [sw.len];rfl,rfl,AllC_cons hC,DirAt_rem hF hD,?_⟩
   ((conv=>whnf);refine bm (fun t=>?_) (fun t=>?_))
   ·((conv=>whnf);refine bm (fun t2=>?_) (fun t2=>?_))
    ·(conv=>whnf)
     refine⟨l.length+1 - (a+20),by omega,?_⟩
     have hv:insN D x.toNat L (y - 1 - x).toNat=insN D a L (a+20 - 1 - a):=by rw [show x.toNat=a by omega,show (y - 1 - x).toNat=a+20 - 1 - a by omega]
     refine Into_fr (e0:=e244a l.length c w y (y+20) p) (o0:=.cells true false 1 (flat elI.fl (insN D a L (a+20 - 1 - a)))) (n0:=nx') hF ⟨a+20,k',_,_,_,by omega,by omega,by omega,by omega,rfl,sw.trans (insN_Sw0 D a (a+20) L (by rw [sw.len];omega) (by omega)),hins,rfl,rfl,rfl⟩ ?_ (ObjRen_j (flat_g _ _) (by rw [← hv])) (Nat.le_refl _)
     unfold e244a
     refine List.forall_mem_cons.2 ⟨env_sl hF.1 rfl,List.forall_mem_cons.2 ⟨env_cm hp rfl,?_⟩⟩
     ((repeat'(refine List.forall_mem_cons.2 ⟨⟨rfl,?_⟩,?_⟩;(first|exact scT_g rfl|exact⟨by decide,rfl⟩|exact⟨by decide,fun h=>(by cases h)⟩)));exact fun _ h=>(by cases h))
    ·exfalso;simp [cfgS,std,fitsK] at t2;omega
   ·exfalso
    have t:(decide (0≤x)&&decide (x≤y)&&decide (y≤L.length)&&decide (L.length≤1000000)&&inR D L&&allW D)=false:=t
    rw [hW,sw.inR hin,sw.len] at t
    simp at t
    omega
  ·have h1:¬ a+20≤l.length:=by simp [cfgS,std] at h1;omega
   obtain⟨k',rfl⟩:∃ k',k=k'+1:=⟨k - 1,by omega⟩
   rw [insB.eq_2 D l.length L a k',if_neg h1] at hins
   (conv=>whnf)
   refine⟨0,c,[iv x,iv w],p,L,D,by rw [sw.len];rfl,rfl,AllC_cons hC,DirAt_rem hF hD,?_⟩
   ((conv=>whnf);refine bm (fun t=>?_) (fun t=>?_))
   ·have hv:insN D x.toNat L (w - 1 - x).toNat=insN D (insB D l.length (l.length+1) l 0).2 (insB D l.length (l.length+1) l 0).1 (l.length - 1 - (insB D l.length (l.length+1) l 0).2):=by
     rw [hins,show x.toNat=a by omega,show (w - 1 - x).toNat=l.length - 1 - a by omega]
    have sw1:Sw l (insN D x.toNat L (w - 1 - x).toNat):=by
     rw [show x.toNat=a by omega,show (w - 1 - x).toNat=l.length - 1 - a by omega]
     exact sw.trans (insN_Sw0 D a l.length L (by rw [sw.len];omega) (by omega))
    clear hins
    generalize hL1:insN D x.toNat L (w - 1 - x).toNat=L1 at hv sw1
    (conv=>whnf)
    refine⟨fun q e h nx''=>∃ (s k:Nat) (z:Int) (M:List Int),z=s∧1≤s∧s≤2000000∧l.length+1 - s≤k∧q=l.length+1 - s∧Sw l M∧stbl D n l=mrgB D n l.length k M s∧e=e244b l.length c w z p∧h=(0,.cells true false 1 (flat elI.fl M))::F∧nx''=nx',⟨l.length+1 - 20,?_⟩,?_⟩
    ·refine Into_fr (e0:=e244b l.length c w 20 p) (o0:=.cells true false 1 (flat elI.fl L1)) (n0:=nx') hF ⟨20,l.length+1,20,L1,rfl,by omega,by omega,by omega,rfl,sw1,by rw [hv];rfl,rfl,rfl,rfl⟩ ?_ (ObjRen_j (flat_g _ _) (by rw [← hL1])) (Nat.le_refl _)
     unfold e244b
     refine List.forall_mem_cons.2 ⟨env_sl hF.1 rfl,List.forall_mem_cons.2 ⟨env_cm hp rfl,?_⟩⟩
     ((repeat'(refine List.forall_mem_cons.2 ⟨⟨rfl,?_⟩,?_⟩;(first|exact scT_g rfl|exact⟨by decide,rfl⟩|exact⟨by decide,fun h=>(by cases h)⟩)));exact fun _ h=>(by cases h))
    ·rintro q e h nx'' ⟨s,k2,z,M,hz,hs1,hs2,hk2,rfl,swM,hst,rfl,rfl,rfl⟩
     clear hv hL1 sw1 hk ha sw hy hx h1
     unfold e244b
     ((conv=>whnf);refine bm (fun h2=>?_) (fun h2=>?_))
     ·have h2:s<l.length:=by simp [cfgS,std] at h2;omega
      obtain⟨k3,rfl⟩:∃ k3,k2=k3+1:=⟨k2 - 1,by omega⟩
      rw [mrgB.eq_2 D n l.length M s k3,if_pos h2] at hst
      ((conv=>whnf);refine bm (fun h3=>?_) (fun h3=>?_))
      ·(conv=>whnf)
       refine⟨fun q e h nx'''=>∃ (a k:Nat) (x y:Int) (L:List Int),x=a∧y=a+2*s∧(a≤l.length)∧l.length+1 - a≤k∧q=l.length+1 - a∧Sw l L∧mrgA D n l.length s (l.length+1) M 0=mrgA D n l.length s k L a∧e=e244c l.length c w z x y p∧h=(0,.cells true false 1 (flat elI.fl L))::F∧nx'''=nx'',⟨l.length+1 - 0,?_⟩,?_⟩
       ·refine Into_fr (e0:=e244c l.length c w z 0 (2*z) p) (o0:=.cells true false 1 (flat elI.fl M)) (n0:=nx'') hF ⟨0,l.length+1,0,_,M,rfl,by omega,Nat.zero_le _,by omega,rfl,swM,rfl,rfl,rfl,rfl⟩ ?_ (ObjRen_g (flat_g _ _)) (Nat.le_refl _)
        unfold e244c
        refine List.forall_mem_cons.2 ⟨env_sl hF.1 rfl,List.forall_mem_cons.2 ⟨env_cm hp rfl,?_⟩⟩
        ((repeat'(refine List.forall_mem_cons.2 ⟨⟨rfl,?_⟩,?_⟩;(first|exact scT_g rfl|exact⟨by decide,rfl⟩|exact⟨by decide,fun h=>(by cases h)⟩)));exact fun _ h=>(by cases h))
       ·rintro q e h nx''' ⟨a,k,x,y,L,hx,hy,ha,hk,rfl,sw,hmr,rfl,rfl,rfl⟩
        unfold e244c
        obtain⟨k',rfl⟩:∃ k',k=k'+1:=⟨k - 1,by omega⟩
        ((conv=>whnf);refine bm (fun h4=>?_) (fun h4=>?_))
        ·have h4:a+2*s≤l.length:=by simp [cfgS,std] at h4;omega
         rw [mrgA.eq_2 D n l.length s L a k',if_pos h4] at hmr
         ((conv=>whnf);refine bm (fun h5=>?_) (fun h5=>?_))
         ·(conv=>whnf)
          refine⟨0,c,[iv x,iv (x+z),iv y],p,L,D,by rw [sw.len];rfl,rfl,AllC_cons hC,DirAt_rem hF hD,?_⟩
          ((conv=>whnf);refine bm (fun t3=>?_) (fun t3=>?_))
          ·((conv=>whnf);refine bm (fun t4=>?_) (fun t4=>?_))
           ·((conv=>whnf);refine bm (fun t5=>?_) (fun t5=>?_))
            ·(conv=>whnf)
             refine⟨l.length+1 - (a+2*s),by omega,?_⟩
             have hv:symM D n L x.toNat (x+z).toNat y.toNat=symM D n L a (a+s) (a+2*s):=by rw [show x.toNat=a by omega,show (x+z).toNat=a+s by omega,show y.toNat=a+2*s by omega]
             refine Into_fr (e0:=e244c l.length c w z y (y+2*z) p) (o0:=.cells true false 1 (flat elI.fl (symM D n L a (a+s) (a+2*s)))) (n0:=nx''') hF ⟨a+2*s,k',_,_,_,by omega,by omega,by omega,by omega,rfl,sw.trans (Sw_sym D n _ _ _ _ (by omega) (by omega) (by rw [sw.len];omega)),hmr,rfl,rfl,rfl⟩ ?_ (ObjRen_j (flat_g _ _) (by rw [← hv])) (Nat.le_refl _)
             unfold e244c
             refine List.forall_mem_cons.2 ⟨env_sl hF.1 rfl,List.forall_mem_cons.2 ⟨env_cm hp rfl,?_⟩⟩
             ((repeat'(refine List.forall_mem_cons.2 ⟨⟨rfl,?_⟩,?_⟩;(first|exact scT_g rfl|exact⟨by decide,rfl⟩|exact⟨by decide,fun h=>(by cases h)⟩)));exact fun _ h=>(by cases h))
            ·exfalso;simp [cfgS,std,fitsK] at t5;omega
           ·exfalso;simp [cfgS,std,fitsK] at t4;omega
          ·exfalso
           have t3:(decide (0≤x)&&decide (x<x+z)&&decide (x+z<y)&&decide (y≤L.length)&&decide (y - x≤n)&&decide (L.length≤1000000)&&inR D L&&allW D)=false:=t3
           rw [hW,sw.inR hin,sw.len] at t3
           simp at t3
           omega
         ·exfalso;simp [cfgS,std,fitsK] at h5;omega
        ·have h4:¬ a+2*s≤l.length:=by simp [cfgS,std] at h4;omega
         rw [mrgA.eq_2 D n l.length s L a k',if_neg h4] at hmr
         rw [hmr] at hst
         ((conv=>whnf);refine bm (fun h5=>?_) (fun h5=>?_))
         ·((conv=>whnf);refine bm (fun h6=>?_) (fun h6=>?_))
          ·have h6:a+s<l.length:=by simp [cfgS,std] at h6;omega
           (conv=>whnf)
           refine⟨0,c,[iv x,iv (x+z),iv w],p,L,D,by rw [sw.len];rfl,rfl,AllC_cons hC,DirAt_rem hF hD,?_⟩
           ((conv=>whnf);refine bm (fun t3=>?_) (fun t3=>?_))
           ·((conv=>whnf);refine bm (fun t4=>?_) (fun t4=>?_))
            ·(conv=>whnf)
             refine⟨l.length+1 - s*2,by omega,?_⟩
             have hv:symM D n L x.toNat (x+z).toNat w.toNat=mrgE D n l.length s (L,a):=by
              unfold mrgE
              rw [if_pos h6,show x.toNat=a by omega,show (x+z).toNat=a+s by omega,show w.toNat=l.length by omega]
             have sw2:Sw l (mrgE D n l.length s (L,a)):=by
              unfold mrgE
              rw [if_pos h6]
              exact sw.trans (Sw_sym D n _ _ _ _ (by show a<a+s;omega) h6 (by rw [sw.len];omega))
             refine Into_fr (e0:=e244b l.length c w (z*2) p) (o0:=.cells true false 1 (flat elI.fl (mrgE D n l.length s (L,a)))) (n0:=nx''') hF ⟨s*2,k3,_,_,by omega,by omega,by omega,by omega,rfl,sw2,hst,rfl,rfl,rfl⟩ ?_ (ObjRen_j (flat_g _ _) (by rw [← hv])) (Nat.le_refl _)
             unfold e244b
             refine List.forall_mem_cons.2 ⟨env_sl hF.1 rfl,List.forall_mem_cons.2 ⟨env_cm hp rfl,?_⟩⟩
             ((repeat'(refine List.forall_mem_cons.2 ⟨⟨rfl,?_⟩,?_⟩;(first|exact scT_g rfl|exact⟨by decide,rfl⟩|exact⟨by decide,fun h=>(by cases h)⟩)));exact fun _ h=>(by cases h))
            ·exfalso;simp [cfgS,std,fitsK] at t4;omega
           ·exfalso
            have t3:(decide (0≤x)&&decide (x<x+z)&&decide (x+z<w)&&decide (w≤L.length)&&decide (w - x≤n)&&decide (L.length≤1000000)&&inR D L&&allW D)=false:=t3
            rw [hW,sw.inR hin,sw.len] at t3
            simp at t3
            omega
          ·have h6:¬ a+s<l.length:=by simp [cfgS,std] at h6;omega
           ((conv=>whnf);refine bm (fun t4=>?_) (fun t4=>?_))
           ·(conv=>whnf)
            refine⟨l.length+1 - s*2,by omega,?_⟩
            have hv:mrgE D n l.length s (L,a)=L:=by unfold mrgE;rw [if_neg h6]
            rw [hv] at hst
            refine Into_fr (e0:=e244b l.length c w (z*2) p) (o0:=.cells true false 1 (flat elI.fl L)) (n0:=nx''') hF ⟨s*2,k3,_,_,by omega,by omega,by omega,by omega,rfl,sw,hst,rfl,rfl,rfl⟩ ?_ (ObjRen_g (flat_g _ _)) (Nat.le_refl _)
            unfold e244b
            refine List.forall_mem_cons.2 ⟨env_sl hF.1 rfl,List.forall_mem_cons.2 ⟨env_cm hp rfl,?_⟩⟩
            ((repeat'(refine List.forall_mem_cons.2 ⟨⟨rfl,?_⟩,?_⟩;(first|exact scT_g rfl|exact⟨by decide,rfl⟩|exact⟨by decide,fun h=>(by cases h)⟩)));exact fun _ h=>(by cases h))
           ·exfalso;simp [cfgS,std,fitsK] at t4;omega
         ·exfalso;simp [cfgS,std,fitsK] at h5;omega
      ·exfalso;simp [cfgS,std,fitsK] at h3;omega
     ·have h2:¬ s<l.length:=by simp [cfgS,std] at h2;omega
      (conv=>whnf)
      refine⟨rfl,?_⟩
      have hM:stbl D n l=M:=by
       rw [hst]
       cases k2 with
       |zero=>rfl
       |succ k2=>rw [mrgB.eq_2,if_neg h2]
      rw [hM]
   ·exfalso
    have t:(decide (0≤x)&&decide (x≤w)&&decide (w≤L.length)&&decide (L.length≤1000000)&&inR D L&&allW D)=false:=t
    rw [hW,sw.inR hin,sw.len] at t
    simp at t
    omega
end Go.Aw
end

noncomputable section
namespace Go.Aw
set_option maxRecDepth 100000
def srtS (n:Nat)(D:List Dt)(l:List Int)(r:List Value)(c:Nat):Option (Bool × List Int):=match r with
 |[]=>some (decide (l.length≤n)&&decide (l.length≤1000000)&&inR D l&&allW D,stbl D n l)
 |_=>none
theorem srtS_inv {n:Nat}{D:List Dt}{l:List Int}{r:List Value}{c:Nat}{l':List Int}(h:srtS n D l r c=some (true,l')):r=[]∧l.length≤n∧l.length≤1000000∧inR D l=true∧allW D=true∧l'=stbl D n l:=by
 unfold srtS at h
 split at h
 ·injection h with h
  injection h with h1 h2
  simp only [Bool.and_eq_true,decide_eq_true_eq] at h1
  exact⟨rfl,h1.1.1.1,h1.1.1.2,h1.1.2,h1.2,h2.symm⟩
 ·cases h
theorem xf214 (n:Nat):XOK Go.Proofs.Tryz.prog 214 (frD (srtS n)):=frD_ok (body_calls (xl:=[(244,frD (stbS n))]) (.cons (xf244 n) .nil)) fun D l r c l' hs=>by
 obtain⟨rfl,hn,hl,hin,hW,rfl⟩:=srtS_inv hs
 clear hs
 refine⟨rfl,fun F nx p hF hC hD=>?_⟩
 (conv=>whnf)
 refine⟨0,c,[iv l.length],p,l,D,rfl,rfl,AllC_cons hC,DirAt_rem hF hD,?_⟩
 ((conv=>whnf);refine bm (fun t=>?_) (fun t=>?_))
 ·(conv=>whnf)
  exact⟨rfl,rfl⟩
 ·exfalso
  have t:(decide ((l.length:Int)=l.length)&&decide (l.length≤n)&&decide (l.length≤1000000)&&inR D l&&allW D)=false:=t
  rw [hW,hin] at t
  simp at t
  omega
theorem xf160 (n:Nat):XOK Go.Proofs.Tryz.prog 160 (frD (srtS n)):=frD_ok (body_calls (xl:=[(214,frD (srtS n))]) (.cons (xf214 n) .nil)) fun D l r c l' hs=>by
 obtain⟨rfl,hn,hl,hin,hW,rfl⟩:=srtS_inv hs
 clear hs
 refine⟨rfl,fun F nx p hF hC hD=>?_⟩
 (conv=>whnf)
 refine⟨0,c,[],p,l,D,rfl,rfl,AllC_cons hC,DirAt_rem hF hD,?_⟩
 ((conv=>whnf);refine bm (fun t=>?_) (fun t=>?_))
 ·(conv=>whnf)
  exact⟨rfl,rfl⟩
 ·exfalso
  have t:(decide (l.length≤n)&&decide (l.length≤1000000)&&inR D l&&allW D)=false:=t
  rw [hW,hin] at t
  simp at t
  omega
end Go.Aw
end

noncomputable section
namespace Go.Aw
open Go.RowKit
def insE (k:Nat)(v:Value):List (Nat × Value)→List (Nat × Value)
 |[]=>[(k,v)]
 |(j,u)::r=>match Nat.blt k j with
  |true=>(k,v)::(j,u)::r
  |false=>(match Nat.beq k j with|true=>(k,v)::r|false=>(j,u)::insE k v r)
def srtE:List (Nat × Value)→List (Nat × Value)
 |[]=>[]
 |(k,v)::r=>insE k v (srtE r)
theorem look_insE {k:Nat}{v:Value}{t:Nat}:∀ (l:List (Nat × Value)),look (insE k v l) t=look ((k,v)::l) t
 |[]=>rfl
 |(j,u)::r=>by
  unfold insE
  split
  ·rfl
  ·split
   ·rename_i h
    have:=beq_true h
    subst this
    simp only [look_cons]
    split <;> rfl
   ·rename_i h
    have hne:=beq_false h
    rw [look_cons,look_insE r]
    simp only [look_cons]
    split
    ·rename_i h1
     split
     ·rename_i h2
      exact absurd ((beq_true h2).trans (beq_true h1).symm) hne
     ·rfl
    ·rfl
theorem look_srtE {t:Nat}:∀ (l:List (Nat × Value)),look (srtE l) t=look l t
 |[]=>rfl
 |(k,v)::r=>by
  unfold srtE
  rw [look_insE,look_cons,look_cons,look_srtE r]
def insD (k:Nat):List Nat→List Nat
 |[]=>[k]
 |j::r=>match Nat.blt k j with|true=>k::j::r|false=>j::insD k r
theorem mem_insD {k i:Nat}:∀ {l:List Nat},i∈insD k l↔i=k∨i∈l
 |[]=>by simp [insD]
 |j::r=>by
  unfold insD
  split
  ·simp
  ·simp only [List.mem_cons,mem_insD]
   constructor
   ·rintro (h|h|h)
    ·exact .inr (.inl h)
    ·exact .inl h
    ·exact .inr (.inr h)
   ·rintro (h|h|h)
    ·exact .inr (.inl h)
    ·exact .inl h
    ·exact .inr (.inr h)
def vanyC (A:Ar)(T:Tab)(C:VC)(Y:VY)(tn:Nat)(ops:List Oper)(K:KS):Nat→List Nat→KS
 |0,_=>K
 |n+1,done=>fun e h nx=>match readyL ops done ops 0 with
  |[]=>K e h nx
  |i::r=>vall (fun j=>match getL ops j with|some o=>vstep A T C Y tn ops o e h nx (fun e' h' nx'=>vanyC A T C Y tn ops K n (insD j done) (srtE e') h' nx')|none=>False) (i::r)
section
variable {A:Ar}{T:Tab}{C:VC}{Y:VY}{tn:Nat}
theorem opv_congr {e e':List (Nat × Value)}(h:∀ t,look e t=look e' t):opv e=opv e':=by
 funext x
 cases x <;> simp [opv,h]
theorem partsOK_congr {e e':List (Nat × Value)}(h:∀ t,look e t=look e' t):partsOK e=partsOK e':=by
 funext l
 induction l with
 |nil=>rfl
 |cons x r ih=>obtain⟨i,x⟩:=x;simp only [partsOK,opv_congr h,ih]
theorem vargs_congr {e e':List (Nat × Value)}(h:∀ t,look e t=look e' t):vargs e=vargs e':=by
 funext l
 induction l with
 |nil=>rfl
 |cons x r ih=>simp only [vargs,opv_congr h,ih]
theorem optOK_congr {e e':List (Nat × Value)}(h:∀ t,look e t=look e' t):optOK e=optOK e':=by
 funext x
 cases x <;> simp only [optOK,opv_congr h]
theorem capOK_congr {e e':List (Nat × Value)}(h:∀ t,look e t=look e' t):capOK e=capOK e':=by
 funext l
 induction l with
 |nil=>rfl
 |cons x r ih=>simp only [capOK,opv_congr h,ih]
theorem vlook_congr {e e':List (Nat × Value)}(h:∀ t,look e t=look e' t){g:Heap}{op:Op}{K:Value→Prop}:vlook A T e g op K=vlook A T e' g op K:=by
 unfold vlook
 rw [opv_congr h,partsOK_congr h,vargs_congr h,capOK_congr h]
theorem vop_congr {e e':List (Nat × Value)}(h:∀ t,look e t=look e' t){g:Heap}{nx:Nat}{op:Op}{K:KE}:vop A T C Y e g nx op K=vop A T C Y e' g nx op K:=by
 unfold vop
 rw [opv_congr h,partsOK_congr h,vargs_congr h,optOK_congr h]
 simp only [vlook_congr h]
theorem look_putE {e e':List (Nat × Value)}(h:∀ t,look e t=look e' t){k:Nat}{v:Value}(t:Nat):look (put e k v) t=look (put e' k v) t:=by
 unfold put
 rw [look_cons,look_cons,h]
theorem vput_congr {e e':List (Nat × Value)}(h:∀ t,look e t=look e' t){d:Option Nat}{v:Value}{F G:List (Nat × Value)→Prop}(hK:∀ e e',(∀ t,look e t=look e' t)→F e→G e')(hl:vput tn e d v F):vput tn e' d v G:=by
 unfold vput at hl ⊢
 split at hl
 ·exact hK _ _ h hl
 ·split at hl
  ·exact hK _ _ (look_putE h) hl
  ·exact hl.elim
theorem vguard_congr {ops:List Oper}{e e':List (Nat × Value)}(h:∀ t,look e t=look e' t){g:Option (Nat × Bool)}{Yk N Yk' N':List (Nat × Value)→Prop}(hY:∀ e e',(∀ t,look e t=look e' t)→Yk e→Yk' e')(hN:∀ e e',(∀ t,look e t=look e' t)→N e→N' e')
  (hl:vguard A ops e g Yk N):vguard A ops e' g Yk' N':=by
 unfold vguard at hl ⊢
 split at hl
 ·exact hY _ _ h hl
 ·rename_i j want
  split at hl
  ·rename_i o ho
   split at hl
   ·rename_i t ht
    rw [← h t]
    split at hl
    ·rename_i b hb
     rw [br_iff] at hl ⊢
     rcases hl with ⟨h1,h2⟩|⟨h1,h2⟩
     ·exact .inl ⟨h1,hY _ _ (look_putE h) h2⟩
     ·exact .inr ⟨h1,hN _ _ (look_putE h) h2⟩
    ·exact hN _ _ h hl
    ·exact hl.elim
   ·exact hl.elim
  ·exact hl.elim
theorem memB_congr {d d':List Nat}(h:∀ i,i∈d↔i∈d')(i:Nat):memB i d=memB i d':=by
 cases h1:memB i d with
 |true=>exact (memB_iff.2 ((h i).1 (memB_iff.1 h1))).symm
 |false =>
  cases h2:memB i d' with
  |false=>rfl
  |true=>rw [memB_iff.2 ((h i).2 (memB_iff.1 h2))] at h1;cases h1
theorem allM_congr {d d':List Nat}(h:∀ i,i∈d↔i∈d')(m:List Nat):allM d m=allM d' m:=by
 induction m with
 |nil=>rfl
 |cons x r ih=>simp only [allM,memB_congr h,ih]
theorem readyL_congr {all:List Oper}{d d':List Nat}(h:∀ i,i∈d↔i∈d'):∀ (l:List Oper) (i:Nat),readyL all d l i=readyL all d' l i
 |[],_=>rfl
 |o::r,i=>by simp only [readyL,memB_congr h,allM_congr h,readyL_congr h r]
theorem DetE.mono {E:KE→Prop}(hE:DetE E){K K':KE}(h:∀ v h nx,K v h nx→K' v h nx)(hl:E K):E K':=by
 obtain⟨v,g,nx,h1,h2⟩:=hE K hl
 exact h2 K' (h _ _ _ h1)
theorem vstep_congr (hC:DetC C)(hY:DetC Y){ops:List Oper}{o:Oper}{e e':List (Nat × Value)}(h:∀ t,look e t=look e' t){g:Heap}{nx:Nat}{K K':KS}(hK:∀ e e' g nx,(∀ t,look e t=look e' t)→K e g nx→K' e' g nx)
  (hl:vstep A T C Y tn ops o e g nx K):vstep A T C Y tn ops o e' g nx K':=by
 unfold vstep at hl ⊢
 refine vguard_congr h (fun e1 e2 h12 h1=>?_) (fun e1 e2 h12 h1=>?_) hl
 ·rw [vop_congr (e':=e2) h12] at h1
  exact (det_vop hC hY).mono (fun v g' nx' h2=>vput_congr h12 (fun a b hab h3=>hK a b g' nx' hab h3) h2) h1
 ·exact vput_congr h12 (fun a b hab h3=>hK a b g nx hab h3) h1
theorem vanyC_any (hC:DetC C)(hY:DetC Y){ops:List Oper}{K:KS}(hK:∀ e e' g nx,(∀ t,look e t=look e' t)→K e g nx→K e' g nx) :
  ∀ n (done done':List Nat) (e e':List (Nat × Value)) (g:Heap) (nx:Nat),(∀ i,i∈done↔i∈done')→(∀ t,look e t=look e' t)→vanyC A T C Y tn ops K n done e g nx→vany A T C Y tn ops K n done' e' g nx
 |0,done,done',e,e',g,nx,hd,he,hl=>hK _ _ _ _ he hl
 |n+1,done,done',e,e',g,nx,hd,he,hl=>by
  unfold vanyC at hl
  unfold vany
  rw [← readyL_congr hd]
  split at hl
  ·rename_i hr;rw [hr];exact hK _ _ _ _ he hl
  ·rename_i hr
   rw [hr]
   simp only
   rw [vall_iff] at hl ⊢
   intro i hi
   have h1:=hl i hi
   split at h1
   ·rename_i o ho
    rw [ho]
    refine vstep_congr hC hY he (fun a b g' nx' hab h2=>?_) h1
    refine vanyC_any hC hY hK n _ _ _ _ _ _ (fun k=>?_) (fun t=>?_) h2
    ·rw [mem_insD,List.mem_cons,hd k]
    ·rw [look_srtE,hab]
   ·exact h1.elim
theorem Into_congr {b:Nat}{I:KS}(e e':List (Nat × Value))(g:Heap)(nx:Nat)(h:∀ t,look e t=look e' t)(hi:Into b I e g nx):Into b I e' g nx:=by
 obtain⟨e0,h0,n0,ρ,hI,r⟩:=hi
 exact⟨e0,h0,n0,ρ,hI,fun t v hv=>by rw [← h t];exact r.env t v hv,r.heap,r.inj,r.fix,r.le⟩
theorem vany_of (hC:DetC C)(hY:DetC Y){ops:List Oper}{b:Nat}{I:KS}{n:Nat}{e:List (Nat × Value)}{g:Heap}{nx:Nat}(hl:vanyC A T C Y tn ops (Into b I) n [] (srtE e) g nx):vany A T C Y tn ops (Into b I) n [] e g nx :=
 vanyC_any hC hY Into_congr n [] [] _ _ _ _ (fun _=>Iff.rfl) (fun t=>look_srtE e) hl
end
end Go.Aw
end
