/-
  Parts of the proof, put together. No condition.
-/
import Derived.Test.YtjahkcbdecgbhaaGreatQBa
set_option linter.unusedSimpArgs false
set_option linter.unusedVariables false
noncomputable section
namespace Go.Aw
set_option maxRecDepth 100000
set_option maxHeartbeats 4000000
def symS (n:Nat)(D:List Dt)(l:List Int)(r:List Value)(c:Nat):Option (Bool × List Int):=match r with
 |[.int .i64 a,.int .i64 m,.int .i64 b]=>some (decide (0≤a)&&decide (a<m)&&decide (m<b)&&decide (b≤l.length)&&decide (b - a≤n)&&decide (l.length≤1000000)&&inR D l&&allW D,symM D n l a.toNat m.toNat b.toNat)
 |_=>none
theorem symS_inv {n:Nat}{D:List Dt}{l:List Int}{r:List Value}{c:Nat}{l':List Int}(h:symS n D l r c=some (true,l')):∃ a m b:Int,r=[iv a,iv m,iv b]∧0≤a∧a<m∧m<b∧b≤l.length∧b - a≤n∧l.length≤1000000∧inR D l=true∧allW D=true∧l'=symM D n l a.toNat m.toNat b.toNat:=by
 unfold symS at h
 split at h
 ·rename_i a m b
  injection h with h
  injection h with h1 h2
  simp only [Bool.and_eq_true,decide_eq_true_eq] at h1
  obtain⟨⟨⟨⟨⟨⟨⟨p1,p2⟩,p3⟩,p4⟩,p5⟩,p6⟩,p7⟩,p8⟩:=h1
  exact⟨a,m,b,rfl,p1,p2,p3,p4,p5,p6,p7,p8,h2.symm⟩
 ·cases h
theorem bsG_s {f:Nat→Bool}{k i j:Nat}(h:i<j):bsG f (k+1) i j=if f ((i+j) / 2)=true then bsG f k i ((i+j) / 2) else bsG f k ((i+j) / 2+1) j:=by
 conv=>lhs;unfold bsG
 rw [if_pos h]
def e266a (N c:Nat)(a i j:Int)(p:Nat):List (Nat × Value):=[(0,.slice (some ⟨0,0,none⟩) N c),(4,cmpV p),(1,iv a),(10,iv i),(11,iv j)]
def e266b (N c:Nat)(i k:Int):List (Nat × Value):=[(0,.slice (some ⟨0,0,none⟩) N c),(10,iv i),(13,iv k)]
def e266c (N c:Nat)(m i j:Int)(p:Nat):List (Nat × Value):=[(0,.slice (some ⟨0,0,none⟩) N c),(4,cmpV p),(2,iv m),(14,iv i),(15,iv j)]
def e266d (N c:Nat)(i k:Int):List (Nat × Value):=[(0,.slice (some ⟨0,0,none⟩) N c),(14,iv i),(17,iv k)]
def e266e (N c:Nat)(a m b mid nn p1 i j:Int)(p:Nat):List (Nat × Value):=[(0,.slice (some ⟨0,0,none⟩) N c),(4,cmpV p),(1,iv a),(2,iv m),(3,iv b),(18,iv mid),(19,iv nn),(22,iv p1),(20,iv i),(21,iv j)]
theorem xf266:∀ n,XOK Go.Proofs.Tryz.prog 266 (frD (symS n))
 |0=>frD_ok (body_calls (xl:=[]) .nil) fun D l r c l' hs=>by
  obtain⟨a,m,b,rfl,ha,ham,hmb,hb,hn,_⟩:=symS_inv hs
  omega
 |n+1=>frD_ok (body_calls (xl:=[Xf273,(266,frD (symS n)),Xf209]) (.cons xf273 (.cons (xf266 n) (.cons xf209 .nil)))) fun D l r c l' hs=>by
  obtain⟨a,m,b,rfl,ha,ham,hmb,hb,hn,hl,hin,hW,rfl⟩:=symS_inv hs
  clear hs
  refine⟨rfl,fun F nx p hF hC hD=>?_⟩
  have hp:=DirAt_lt hF hD
  have hl1:(flat elI.fl l).length=l.length:=by rw [flat_len];exact Nat.mul_one _
  have okc:∀ x y:Nat,x<l.length→y<l.length→ok209 D (atI l x) (atI l y)=true:=fun x y hx hy=>by
   have i1:=inR_at hin hx
   have i2:=inR_at hin hy
   rw [ok209,hW,decide_eq_true i1.1,decide_eq_true i1.2,decide_eq_true i2.1,decide_eq_true i2.2]
   rfl
  ((conv=>whnf);refine bm (fun g1=>?_) (fun g1=>?_))
  ·((conv=>whnf);refine bm (fun g2=>?_) (fun g2=>?_))
   ·have g2:m - a=1:=by simpa [cfgS,std] using g2
    (conv=>whnf)
    refine⟨fun q e h nx'=>∃ (i j k:Nat) (x y:Int),x=i∧y=j∧m.toNat≤i∧i≤j∧j≤b.toNat∧j - i≤k∧q=j - i∧bsG (fun h=>!(ltD D (atI l h) (atI l a.toNat))) (b.toNat - m.toNat) m.toNat b.toNat=bsG (fun h=>!(ltD D (atI l h) (atI l a.toNat))) k i j∧e=e266a l.length c a x y p∧h=(0,.cells true false 1 (flat elI.fl l))::F∧nx'=nx,⟨b.toNat - m.toNat,?_⟩,?_⟩
    ·refine Into_fr (e0:=e266a l.length c a m b p) (o0:=.cells true false 1 (flat elI.fl l)) (n0:=nx) hF ⟨m.toNat,b.toNat,_,_,_,by omega,by omega,Nat.le_refl _,by omega,Nat.le_refl _,Nat.le_refl _,rfl,rfl,rfl,rfl,rfl⟩ ?_ (ObjRen_g (flat_g _ _)) (Nat.le_refl _)
     unfold e266a
     refine List.forall_mem_cons.2 ⟨env_sl hF.1 rfl,List.forall_mem_cons.2 ⟨env_cm hp rfl,?_⟩⟩
     ((repeat'(refine List.forall_mem_cons.2 ⟨⟨rfl,?_⟩,?_⟩;(first|exact scT_g rfl|exact⟨by decide,rfl⟩|exact⟨by decide,fun h=>(by cases h)⟩)));exact fun _ h=>(by cases h))
    ·rintro q e h nx' ⟨i,j,k,x,y,hx,hy,hi0,hij,hj,hk,rfl,hbs,rfl,rfl,rfl⟩
     unfold e266a
     ((conv=>whnf);refine bm (fun h1=>?_) (fun h1=>?_))
     ·have h1:i<j:=by simp [cfgS,std] at h1;omega
      obtain⟨k',rfl⟩:∃ k',k=k'+1:=⟨k - 1,by omega⟩
      rw [bsG_s h1] at hbs
      have qh:(x+y).tdiv 2=(((i+j) / 2:Nat):Int):=by rw [Int.tdiv_eq_ediv_of_nonneg (by omega)];omega
      ((conv=>whnf);refine bm (fun q1=>?_) (fun q1=>?_))
      ·((conv=>whnf);refine bm (fun q2=>?_) (fun q2=>?_))
       ·((conv=>whnf);refine bm (fun q3=>?_) (fun q3=>?_))
        ·((conv=>whnf);refine bm (fun q4=>?_) (fun q4=>?_))
         ·((conv=>whnf);refine bm (fun q5=>?_) (fun q5=>?_))
          ·(conv=>whnf)
           refine boV (getI l (i:=(i+j) / 2) (by omega) ?_) ?_
           ·show _+Int.toNat ((x+y).tdiv 2)*1=_;rw [qh];omega
           ((conv=>whnf);refine bm (fun q6=>?_) (fun q6=>?_))
           ·(conv=>whnf)
            refine boV (getI l (i:=a.toNat) (by omega) ?_) ?_
            ·show _+Int.toNat (a)*1=_;omega
            (conv=>whnf)
            refine⟨atI l ((i+j) / 2),atI l (a.toNat),p,D,rfl,DirAt_q hF hD,?_⟩
            ((conv=>whnf);refine bm (fun q7=>?_) (fun q7=>?_))
            ·((conv=>whnf);refine bm (fun q8=>?_) (fun q8=>?_))
             ·have q8:ltD D (atI l ((i+j) / 2)) (atI l (a.toNat))=true:=q8
              ((conv=>whnf);refine bm (fun q9=>?_) (fun q9=>?_))
              ·(conv=>whnf)
               refine⟨j - ((i+j) / 2+1),by omega,?_⟩
               refine Into_fr (e0:=e266a l.length c a ((x+y).tdiv 2+1) y p) (o0:=.cells true false 1 (flat elI.fl l)) (n0:=nx') hF ⟨(i+j) / 2+1,j,k',_,_,by rw [qh];omega,hy,by omega,by omega,by omega,by omega,rfl,by rw [hbs,if_neg (by simp [q8])],rfl,rfl,rfl⟩ ?_ (ObjRen_g (flat_g _ _)) (Nat.le_refl _)
               unfold e266a
               refine List.forall_mem_cons.2 ⟨env_sl hF.1 rfl,List.forall_mem_cons.2 ⟨env_cm hp rfl,?_⟩⟩
               ((repeat'(refine List.forall_mem_cons.2 ⟨⟨rfl,?_⟩,?_⟩;(first|exact scT_g rfl|exact⟨by decide,rfl⟩|exact⟨by decide,fun h=>(by cases h)⟩)));exact fun _ h=>(by cases h))
              ·exfalso;simp [cfgS,std,fitsK,qh] at q9;omega
             ·have q8:ltD D (atI l ((i+j) / 2)) (atI l (a.toNat))=false:=q8
              (conv=>whnf)
              refine⟨(i+j) / 2 - i,by omega,?_⟩
              refine Into_fr (e0:=e266a l.length c a x ((x+y).tdiv 2) p) (o0:=.cells true false 1 (flat elI.fl l)) (n0:=nx') hF ⟨i,(i+j) / 2,k',_,_,hx,qh,hi0,by omega,by omega,by omega,rfl,by rw [hbs,if_pos (by simp [q8])],rfl,rfl,rfl⟩ ?_ (ObjRen_g (flat_g _ _)) (Nat.le_refl _)
              unfold e266a
              refine List.forall_mem_cons.2 ⟨env_sl hF.1 rfl,List.forall_mem_cons.2 ⟨env_cm hp rfl,?_⟩⟩
              ((repeat'(refine List.forall_mem_cons.2 ⟨⟨rfl,?_⟩,?_⟩;(first|exact scT_g rfl|exact⟨by decide,rfl⟩|exact⟨by decide,fun h=>(by cases h)⟩)));exact fun _ h=>(by cases h))
            ·exfalso
             have q7:ok209 D (atI l ((i+j) / 2)) (atI l (a.toNat))=false:=q7
             rw [okc _ _ (by omega) (by omega)] at q7
             cases q7
           ·exfalso;simp [cfgS,std,qh] at q6;omega
          ·exfalso;simp [cfgS,std,qh] at q5;omega
         ·exfalso;simp [cfgS,std,fitsK,qh] at q4;omega
        ·exfalso;simp [cfgS,std] at q3;omega
       ·exfalso;simp [cfgS,std,fitsK] at q2;omega
      ·exfalso;simp [cfgS,std,fitsK] at q1;omega
     ·have h1:i=j:=by simp [cfgS,std] at h1;omega
      subst h1
      rw [bsG_end] at hbs
      (conv=>whnf)
      refine⟨fun q e h nx''=>∃ (t:Nat) (z:Int),z=a.toNat+t∧t≤(i - 1 - a.toNat)∧q=(i - 1 - a.toNat) - t∧e=e266b l.length c x (z)∧h=(0,.cells true false 1 (flat elI.fl (swU l a.toNat t)))::F∧nx''=nx',⟨(i - 1 - a.toNat),?_⟩,?_⟩
      ·refine Into_fr (e0:=e266b l.length c x (a)) (o0:=.cells true false 1 (flat elI.fl l)) (n0:=nx') hF ⟨0,_,by omega,Nat.zero_le _,rfl,rfl,rfl,rfl⟩ ?_ (ObjRen_g (flat_g _ _)) (Nat.le_refl _)
       unfold e266b
       refine List.forall_mem_cons.2 ⟨env_sl hF.1 rfl,?_⟩
       ((repeat'(refine List.forall_mem_cons.2 ⟨⟨rfl,?_⟩,?_⟩;(first|exact scT_g rfl|exact⟨by decide,rfl⟩|exact⟨by decide,fun h=>(by cases h)⟩)));exact fun _ h=>(by cases h))
      ·rintro q e h nx'' ⟨t,z,hz,ht,rfl,rfl,rfl,rfl⟩
       have sw:=Sw_U l a.toNat t (by omega)
       have sl:=sw.len
       have nxt:swU l a.toNat (t+1)=swpL (swU l a.toNat t) (a.toNat+t) (a.toNat+t+1):=rfl
       generalize hs0:swU l a.toNat t=L at sl nxt
       have hl1:(flat elI.fl L).length=L.length:=by rw [flat_len];exact Nat.mul_one _
       unfold e266b
       ((conv=>whnf);refine bm (fun r1=>?_) (fun r1=>?_))
       ·skip
        ((conv=>whnf);refine bm (fun r2=>?_) (fun r2=>?_))
        ·have r2:t<(i - 1 - a.toNat):=by simp [cfgS,std] at r2;omega
         have hput:=put_swp (L:=L) (x:=a.toNat+t) (y:=a.toNat+t+1) (o1:=0+z.toNat*1) (o2:=0+(z+1).toNat*1) (by omega) (by omega) (by omega) (by omega)
         repeat' first
          |(((conv=>whnf);refine bm (fun g=>?_) (fun g=>?_)))
          |((conv=>whnf)
            refine boV (getI L (i:=a.toNat+t) (by omega) ?_) ?_
            ·show _+Int.toNat z*1=_;omega)
          |((conv=>whnf)
            refine boV (getI L (i:=a.toNat+t+1) (by omega) ?_) ?_
            ·show _+Int.toNat (z+1)*1=_;omega)
         all_goals first
          |(exfalso;simp [cfgS,std,fitsK] at g;omega)
          |(have g:(0+z.toNat*1+1).ble (flat elI.fl L).length=false:=g
            rw [hl1] at g
            exact ble_no g (by omega))
          |(have g:(0+(z+1).toNat*1+1).ble (putN (flat elI.fl L) (0+z.toNat*1) [iv (atI L (a.toNat+t+1))]).length=false:=g
            rw [putN_length (by rw [hl1];show 0+z.toNat*1+1≤L.length;omega),hl1] at g
            exact ble_no g (by omega))
          |skip
         (conv=>whnf)
         refine⟨(i - 1 - a.toNat) - (t+1),by omega,?_⟩
         refine Into_fr (e0:=e266b l.length c x (z+1)) (o0:=.cells true false 1 (flat elI.fl (swpL L (a.toNat+t) (a.toNat+t+1)))) (n0:=nx'') hF ⟨t+1,z+1,by omega,by omega,rfl,rfl,by rw [nxt],rfl⟩ ?_ (ObjRen_j (flat_g _ _) hput) (Nat.le_refl _)
         unfold e266b
         refine List.forall_mem_cons.2 ⟨env_sl hF.1 rfl,?_⟩
         ((repeat'(refine List.forall_mem_cons.2 ⟨⟨rfl,?_⟩,?_⟩;(first|exact scT_g rfl|exact⟨by decide,rfl⟩|exact⟨by decide,fun h=>(by cases h)⟩)));exact fun _ h=>(by cases h))
        ·have r2:t=(i - 1 - a.toNat):=by simp [cfgS,std] at r2;omega
         (conv=>whnf)
         refine⟨rfl,?_⟩
         rw [← hs0,r2,symM,if_pos (by omega),hbs]
       ·exfalso;simp [cfgS,std,fitsK] at r1;omega
   ·have g2:¬ m - a=1:=by simpa [cfgS,std] using g2
    ((conv=>whnf);refine bm (fun g3=>?_) (fun g3=>?_))
    ·((conv=>whnf);refine bm (fun g4=>?_) (fun g4=>?_))
     ·have g4:b - m=1:=by simpa [cfgS,std] using g4
      (conv=>whnf)
      refine⟨fun q e h nx'=>∃ (i j k:Nat) (x y:Int),x=i∧y=j∧a.toNat≤i∧i≤j∧j≤m.toNat∧j - i≤k∧q=j - i∧bsG (fun h=>ltD D (atI l m.toNat) (atI l h)) (m.toNat - a.toNat) a.toNat m.toNat=bsG (fun h=>ltD D (atI l m.toNat) (atI l h)) k i j∧e=e266c l.length c m x y p∧h=(0,.cells true false 1 (flat elI.fl l))::F∧nx'=nx,⟨m.toNat - a.toNat,?_⟩,?_⟩
      ·refine Into_fr (e0:=e266c l.length c m a m p) (o0:=.cells true false 1 (flat elI.fl l)) (n0:=nx) hF ⟨a.toNat,m.toNat,_,_,_,by omega,by omega,Nat.le_refl _,by omega,Nat.le_refl _,Nat.le_refl _,rfl,rfl,rfl,rfl,rfl⟩ ?_ (ObjRen_g (flat_g _ _)) (Nat.le_refl _)
       unfold e266c
       refine List.forall_mem_cons.2 ⟨env_sl hF.1 rfl,List.forall_mem_cons.2 ⟨env_cm hp rfl,?_⟩⟩
       ((repeat'(refine List.forall_mem_cons.2 ⟨⟨rfl,?_⟩,?_⟩;(first|exact scT_g rfl|exact⟨by decide,rfl⟩|exact⟨by decide,fun h=>(by cases h)⟩)));exact fun _ h=>(by cases h))
      ·rintro q e h nx' ⟨i,j,k,x,y,hx,hy,hi0,hij,hj,hk,rfl,hbs,rfl,rfl,rfl⟩
       unfold e266c
       ((conv=>whnf);refine bm (fun h1=>?_) (fun h1=>?_))
       ·have h1:i<j:=by simp [cfgS,std] at h1;omega
        obtain⟨k',rfl⟩:∃ k',k=k'+1:=⟨k - 1,by omega⟩
        rw [bsG_s h1] at hbs
        have qh:(x+y).tdiv 2=(((i+j) / 2:Nat):Int):=by rw [Int.tdiv_eq_ediv_of_nonneg (by omega)];omega
        ((conv=>whnf);refine bm (fun q1=>?_) (fun q1=>?_))
        ·((conv=>whnf);refine bm (fun q2=>?_) (fun q2=>?_))
         ·((conv=>whnf);refine bm (fun q3=>?_) (fun q3=>?_))
          ·((conv=>whnf);refine bm (fun q4=>?_) (fun q4=>?_))
           ·((conv=>whnf);refine bm (fun q5=>?_) (fun q5=>?_))
            ·(conv=>whnf)
             refine boV (getI l (i:=m.toNat) (by omega) ?_) ?_
             ·show _+Int.toNat (m)*1=_;omega
             ((conv=>whnf);refine bm (fun q6=>?_) (fun q6=>?_))
             ·(conv=>whnf)
              refine boV (getI l (i:=(i+j) / 2) (by omega) ?_) ?_
              ·show _+Int.toNat ((x+y).tdiv 2)*1=_;rw [qh];omega
              (conv=>whnf)
              refine⟨atI l (m.toNat),atI l ((i+j) / 2),p,D,rfl,DirAt_q hF hD,?_⟩
              ((conv=>whnf);refine bm (fun q7=>?_) (fun q7=>?_))
              ·((conv=>whnf);refine bm (fun q8=>?_) (fun q8=>?_))
               ·have q8:ltD D (atI l m.toNat) (atI l ((i+j) / 2))=false:=by have q8:(!(ltD D (atI l m.toNat) (atI l ((i+j) / 2))))=true:=q8;simpa using q8
                ((conv=>whnf);refine bm (fun q9=>?_) (fun q9=>?_))
                ·(conv=>whnf)
                 refine⟨j - ((i+j) / 2+1),by omega,?_⟩
                 refine Into_fr (e0:=e266c l.length c m ((x+y).tdiv 2+1) y p) (o0:=.cells true false 1 (flat elI.fl l)) (n0:=nx') hF ⟨(i+j) / 2+1,j,k',_,_,by rw [qh];omega,hy,by omega,by omega,by omega,by omega,rfl,by rw [hbs,if_neg (by simp [q8])],rfl,rfl,rfl⟩ ?_ (ObjRen_g (flat_g _ _)) (Nat.le_refl _)
                 unfold e266c
                 refine List.forall_mem_cons.2 ⟨env_sl hF.1 rfl,List.forall_mem_cons.2 ⟨env_cm hp rfl,?_⟩⟩
                 ((repeat'(refine List.forall_mem_cons.2 ⟨⟨rfl,?_⟩,?_⟩;(first|exact scT_g rfl|exact⟨by decide,rfl⟩|exact⟨by decide,fun h=>(by cases h)⟩)));exact fun _ h=>(by cases h))
                ·exfalso;simp [cfgS,std,fitsK,qh] at q9;omega
               ·have q8:ltD D (atI l m.toNat) (atI l ((i+j) / 2))=true:=by have q8:(!(ltD D (atI l m.toNat) (atI l ((i+j) / 2))))=false:=q8;simpa using q8
                (conv=>whnf)
                refine⟨(i+j) / 2 - i,by omega,?_⟩
                refine Into_fr (e0:=e266c l.length c m x ((x+y).tdiv 2) p) (o0:=.cells true false 1 (flat elI.fl l)) (n0:=nx') hF ⟨i,(i+j) / 2,k',_,_,hx,qh,hi0,by omega,by omega,by omega,rfl,by rw [hbs,if_pos (by simp [q8])],rfl,rfl,rfl⟩ ?_ (ObjRen_g (flat_g _ _)) (Nat.le_refl _)
                unfold e266c
                refine List.forall_mem_cons.2 ⟨env_sl hF.1 rfl,List.forall_mem_cons.2 ⟨env_cm hp rfl,?_⟩⟩
                ((repeat'(refine List.forall_mem_cons.2 ⟨⟨rfl,?_⟩,?_⟩;(first|exact scT_g rfl|exact⟨by decide,rfl⟩|exact⟨by decide,fun h=>(by cases h)⟩)));exact fun _ h=>(by cases h))
              ·exfalso
               have q7:ok209 D (atI l (m.toNat)) (atI l ((i+j) / 2))=false:=q7
               rw [okc _ _ (by omega) (by omega)] at q7
               cases q7
             ·exfalso;simp [cfgS,std,qh] at q6;omega
            ·exfalso;simp [cfgS,std,qh] at q5;omega
           ·exfalso;simp [cfgS,std,fitsK,qh] at q4;omega
          ·exfalso;simp [cfgS,std] at q3;omega
         ·exfalso;simp [cfgS,std,fitsK] at q2;omega
        ·exfalso;simp [cfgS,std,fitsK] at q1;omega
       ·have h1:i=j:=by simp [cfgS,std] at h1;omega
        subst h1
        rw [bsG_end] at hbs
        (conv=>whnf)
        refine⟨fun q e h nx''=>∃ (t:Nat) (z:Int),z=m.toNat - t∧t≤(m.toNat - i)∧q=(m.toNat - i) - t∧e=e266d l.length c x (z)∧h=(0,.cells true false 1 (flat elI.fl (swD l m.toNat t)))::F∧nx''=nx',⟨(m.toNat - i),?_⟩,?_⟩
        ·refine Into_fr (e0:=e266d l.length c x (m)) (o0:=.cells true false 1 (flat elI.fl l)) (n0:=nx') hF ⟨0,_,by omega,Nat.zero_le _,rfl,rfl,rfl,rfl⟩ ?_ (ObjRen_g (flat_g _ _)) (Nat.le_refl _)
         unfold e266d
         refine List.forall_mem_cons.2 ⟨env_sl hF.1 rfl,?_⟩
         ((repeat'(refine List.forall_mem_cons.2 ⟨⟨rfl,?_⟩,?_⟩;(first|exact scT_g rfl|exact⟨by decide,rfl⟩|exact⟨by decide,fun h=>(by cases h)⟩)));exact fun _ h=>(by cases h))
        ·rintro q e h nx'' ⟨t,z,hz,ht,rfl,rfl,rfl,rfl⟩
         have sw:=Sw_D l m.toNat (by omega) t
         have sl:=sw.len
         have nxt:swD l m.toNat (t+1)=swpL (swD l m.toNat t) (m.toNat - t) (m.toNat - t - 1):=rfl
         generalize hs0:swD l m.toNat t=L at sl nxt
         have hl1:(flat elI.fl L).length=L.length:=by rw [flat_len];exact Nat.mul_one _
         unfold e266d
         ((conv=>whnf);refine bm (fun r2=>?_) (fun r2=>?_))
         ·have r2:t<(m.toNat - i):=by simp [cfgS,std] at r2;omega
          have hput:=put_swp (L:=L) (x:=m.toNat - t) (y:=m.toNat - t - 1) (o1:=0+z.toNat*1) (o2:=0+(z - 1).toNat*1) (by omega) (by omega) (by omega) (by omega)
          repeat' first
           |(((conv=>whnf);refine bm (fun g=>?_) (fun g=>?_)))
           |((conv=>whnf)
             refine boV (getI L (i:=m.toNat - t) (by omega) ?_) ?_
             ·show _+Int.toNat z*1=_;omega)
           |((conv=>whnf)
             refine boV (getI L (i:=m.toNat - t - 1) (by omega) ?_) ?_
             ·show _+Int.toNat (z - 1)*1=_;omega)
          all_goals first
           |(exfalso;simp [cfgS,std,fitsK] at g;omega)
           |(have g:(0+z.toNat*1+1).ble (flat elI.fl L).length=false:=g
             rw [hl1] at g
             exact ble_no g (by omega))
           |(have g:(0+(z - 1).toNat*1+1).ble (putN (flat elI.fl L) (0+z.toNat*1) [iv (atI L (m.toNat - t - 1))]).length=false:=g
             rw [putN_length (by rw [hl1];show 0+z.toNat*1+1≤L.length;omega),hl1] at g
             exact ble_no g (by omega))
           |skip
          (conv=>whnf)
          refine⟨(m.toNat - i) - (t+1),by omega,?_⟩
          refine Into_fr (e0:=e266d l.length c x (z - 1)) (o0:=.cells true false 1 (flat elI.fl (swpL L (m.toNat - t) (m.toNat - t - 1)))) (n0:=nx'') hF ⟨t+1,z - 1,by omega,by omega,rfl,rfl,by rw [nxt],rfl⟩ ?_ (ObjRen_j (flat_g _ _) hput) (Nat.le_refl _)
          unfold e266d
          refine List.forall_mem_cons.2 ⟨env_sl hF.1 rfl,?_⟩
          ((repeat'(refine List.forall_mem_cons.2 ⟨⟨rfl,?_⟩,?_⟩;(first|exact scT_g rfl|exact⟨by decide,rfl⟩|exact⟨by decide,fun h=>(by cases h)⟩)));exact fun _ h=>(by cases h))
         ·have r2:t=(m.toNat - i):=by simp [cfgS,std] at r2;omega
          (conv=>whnf)
          refine⟨rfl,?_⟩
          rw [← hs0,r2,symM,if_neg (by omega),if_pos (by omega),hbs]
     ·have g4:¬ b - m=1:=by simpa [cfgS,std] using g4
      have hM:(a+b).tdiv 2=(((a.toNat+b.toNat) / 2:Nat):Int):=by rw [Int.tdiv_eq_ediv_of_nonneg (by omega)];omega
      ((conv=>whnf);refine bm (fun g5=>?_) (fun g5=>?_))
      ·((conv=>whnf);refine bm (fun g5b=>?_) (fun g5b=>?_));rotate_left;(exfalso;simp [cfgS,std,fitsK] at g5b;omega)
       ((conv=>whnf);refine bm (fun g5c=>?_) (fun g5c=>?_));rotate_left;(exfalso;simp [cfgS,std,fitsK] at g5c;omega)
       ((conv=>whnf);refine bm (fun g6=>?_) (fun g6=>?_))
       ·((conv=>whnf);refine bm (fun g7=>?_) (fun g7=>?_))
        ·((conv=>whnf);refine bm (fun g8=>?_) (fun g8=>?_))
         ·have g8:(a+b).tdiv 2<m:=by simpa [cfgS,std] using g8
          have hc:(a.toNat+b.toNat) / 2<m.toNat:=by omega
          ((conv=>whnf);refine bm (fun g9=>?_) (fun g9=>?_))
          ·((conv=>whnf);refine bm (fun g10=>?_) (fun g10=>?_))
           ·skip
            (conv=>whnf)
            refine⟨fun q e h nx'=>∃ (i j k:Nat) (x y:Int),x=i∧y=j∧((a.toNat+b.toNat) / 2+m.toNat - b.toNat)≤i∧i≤j∧j≤((a.toNat+b.toNat) / 2)∧j - i≤k∧q=j - i∧bsG (fun c=>ltD D (atI l ((a.toNat+b.toNat) / 2+m.toNat - 1 - c)) (atI l c)) (((a.toNat+b.toNat) / 2) - ((a.toNat+b.toNat) / 2+m.toNat - b.toNat)) ((a.toNat+b.toNat) / 2+m.toNat - b.toNat) ((a.toNat+b.toNat) / 2)=bsG (fun c=>ltD D (atI l ((a.toNat+b.toNat) / 2+m.toNat - 1 - c)) (atI l c)) k i j∧e=e266e l.length c a m b ((a+b).tdiv 2) ((a+b).tdiv 2+m) ((a+b).tdiv 2+m - 1) x y p∧h=(0,.cells true false 1 (flat elI.fl l))::F∧nx'=nx,⟨((a.toNat+b.toNat) / 2) - ((a.toNat+b.toNat) / 2+m.toNat - b.toNat),?_⟩,?_⟩
            ·refine Into_fr (e0:=e266e l.length c a m b ((a+b).tdiv 2) ((a+b).tdiv 2+m) ((a+b).tdiv 2+m - 1) ((a+b).tdiv 2+m - b) ((a+b).tdiv 2) p) (o0:=.cells true false 1 (flat elI.fl l)) (n0:=nx) hF ⟨((a.toNat+b.toNat) / 2+m.toNat - b.toNat),((a.toNat+b.toNat) / 2),_,_,_,by omega,by omega,Nat.le_refl _,by omega,Nat.le_refl _,Nat.le_refl _,rfl,rfl,rfl,rfl,rfl⟩ ?_ (ObjRen_g (flat_g _ _)) (Nat.le_refl _)
             unfold e266e
             refine List.forall_mem_cons.2 ⟨env_sl hF.1 rfl,List.forall_mem_cons.2 ⟨env_cm hp rfl,?_⟩⟩
             ((repeat'(refine List.forall_mem_cons.2 ⟨⟨rfl,?_⟩,?_⟩;(first|exact scT_g rfl|exact⟨by decide,rfl⟩|exact⟨by decide,fun h=>(by cases h)⟩)));exact fun _ h=>(by cases h))
            ·rintro q e h nx' ⟨i,j,k,x,y,hx,hy,hi0,hij,hj,hk,rfl,hbs,rfl,rfl,rfl⟩
             unfold e266e
             ((conv=>whnf);refine bm (fun h1=>?_) (fun h1=>?_))
             ·have h1:i<j:=by simp [cfgS,std] at h1;omega
              obtain⟨k',rfl⟩:∃ k',k=k'+1:=⟨k - 1,by omega⟩
              rw [bsG_s h1] at hbs
              have qh:(x+y).tdiv 2=(((i+j) / 2:Nat):Int):=by rw [Int.tdiv_eq_ediv_of_nonneg (by omega)];omega
              ((conv=>whnf);refine bm (fun q1=>?_) (fun q1=>?_))
              ·((conv=>whnf);refine bm (fun q2=>?_) (fun q2=>?_))
               ·((conv=>whnf);refine bm (fun q3=>?_) (fun q3=>?_))
                ·((conv=>whnf);refine bm (fun q4=>?_) (fun q4=>?_))
                 ·((conv=>whnf);refine bm (fun q5a=>?_) (fun q5a=>?_));rotate_left;(exfalso;simp [cfgS,std,fitsK,hM,qh] at q5a;omega)
                  ((conv=>whnf);refine bm (fun q5=>?_) (fun q5=>?_))
                  ·(conv=>whnf)
                   refine boV (getI l (i:=((a.toNat+b.toNat) / 2+m.toNat - 1 - (i+j) / 2)) (by omega) ?_) ?_
                   ·show _+Int.toNat (((a+b).tdiv 2+m - 1 - (x+y).tdiv 2))*1=_;rw [qh];omega
                   ((conv=>whnf);refine bm (fun q6=>?_) (fun q6=>?_))
                   ·(conv=>whnf)
                    refine boV (getI l (i:=(i+j) / 2) (by omega) ?_) ?_
                    ·show _+Int.toNat ((x+y).tdiv 2)*1=_;rw [qh];omega
                    (conv=>whnf)
                    refine⟨atI l (((a.toNat+b.toNat) / 2+m.toNat - 1 - (i+j) / 2)),atI l ((i+j) / 2),p,D,rfl,DirAt_q hF hD,?_⟩
                    ((conv=>whnf);refine bm (fun q7=>?_) (fun q7=>?_))
                    ·((conv=>whnf);refine bm (fun q8=>?_) (fun q8=>?_))
                     ·have q8:ltD D (atI l ((a.toNat+b.toNat) / 2+m.toNat - 1 - (i+j) / 2)) (atI l ((i+j) / 2))=false:=by have q8:(!(ltD D (atI l ((a.toNat+b.toNat) / 2+m.toNat - 1 - (i+j) / 2)) (atI l ((i+j) / 2))))=true:=q8;simpa using q8
                      ((conv=>whnf);refine bm (fun q9=>?_) (fun q9=>?_))
                      ·(conv=>whnf)
                       refine⟨j - ((i+j) / 2+1),by omega,?_⟩
                       refine Into_fr (e0:=e266e l.length c a m b ((a+b).tdiv 2) ((a+b).tdiv 2+m) ((a+b).tdiv 2+m - 1) ((x+y).tdiv 2+1) y p) (o0:=.cells true false 1 (flat elI.fl l)) (n0:=nx') hF ⟨(i+j) / 2+1,j,k',_,_,by rw [qh];omega,hy,by omega,by omega,by omega,by omega,rfl,by rw [hbs,if_neg (by simp [q8])],rfl,rfl,rfl⟩ ?_ (ObjRen_g (flat_g _ _)) (Nat.le_refl _)
                       unfold e266e
                       refine List.forall_mem_cons.2 ⟨env_sl hF.1 rfl,List.forall_mem_cons.2 ⟨env_cm hp rfl,?_⟩⟩
                       ((repeat'(refine List.forall_mem_cons.2 ⟨⟨rfl,?_⟩,?_⟩;(first|exact scT_g rfl|exact⟨by decide,rfl⟩|exact⟨by decide,fun h=>(by cases h)⟩)));exact fun _ h=>(by cases h))
                      ·exfalso;simp [cfgS,std,fitsK,qh] at q9;omega
                     ·have q8:ltD D (atI l ((a.toNat+b.toNat) / 2+m.toNat - 1 - (i+j) / 2)) (atI l ((i+j) / 2))=true:=by have q8:(!(ltD D (atI l ((a.toNat+b.toNat) / 2+m.toNat - 1 - (i+j) / 2)) (atI l ((i+j) / 2))))=false:=q8;simpa using q8
                      (conv=>whnf)
                      refine⟨(i+j) / 2 - i,by omega,?_⟩
                      refine Into_fr (e0:=e266e l.length c a m b ((a+b).tdiv 2) ((a+b).tdiv 2+m) ((a+b).tdiv 2+m - 1) x ((x+y).tdiv 2) p) (o0:=.cells true false 1 (flat elI.fl l)) (n0:=nx') hF ⟨i,(i+j) / 2,k',_,_,hx,qh,hi0,by omega,by omega,by omega,rfl,by rw [hbs,if_pos (by simp [q8])],rfl,rfl,rfl⟩ ?_ (ObjRen_g (flat_g _ _)) (Nat.le_refl _)
                      unfold e266e
                      refine List.forall_mem_cons.2 ⟨env_sl hF.1 rfl,List.forall_mem_cons.2 ⟨env_cm hp rfl,?_⟩⟩
                      ((repeat'(refine List.forall_mem_cons.2 ⟨⟨rfl,?_⟩,?_⟩;(first|exact scT_g rfl|exact⟨by decide,rfl⟩|exact⟨by decide,fun h=>(by cases h)⟩)));exact fun _ h=>(by cases h))
                    ·exfalso
                     have q7:ok209 D (atI l (((a.toNat+b.toNat) / 2+m.toNat - 1 - (i+j) / 2))) (atI l ((i+j) / 2))=false:=q7
                     rw [okc _ _ (by omega) (by omega)] at q7
                     cases q7
                   ·exfalso;simp [cfgS,std,hM,qh] at q6;omega
                  ·exfalso;simp [cfgS,std,hM,qh] at q5;omega
                 ·exfalso;simp [cfgS,std,hM,fitsK,qh] at q4;omega
                ·exfalso;simp [cfgS,std] at q3;omega
               ·exfalso;simp [cfgS,std,fitsK] at q2;omega
              ·exfalso;simp [cfgS,std,fitsK] at q1;omega
             ·have h1:i=j:=by simp [cfgS,std] at h1;omega
              subst h1
              rw [bsG_end] at hbs
              skip
              have hst:stM D l a.toNat m.toNat b.toNat=i:=by unfold stM;simp only [if_pos hc];exact hbs
              have low:=stM_low (D:=D) (L:=l) (a:=a.toNat) (m:=m.toNat) (b:=b.toNat) (by omega) (by omega)
              clear hbs hk hj hi0 hc g8
              obtain⟨A,eA⟩:∃ A,a.toNat=A:=⟨_,rfl⟩
              obtain⟨Q,eQ⟩:∃ Q,m.toNat=Q:=⟨_,rfl⟩
              obtain⟨B,eB⟩:∃ B,b.toNat=B:=⟨_,rfl⟩
              obtain⟨W,eW⟩:∃ W,(A+B) / 2=W:=⟨_,rfl⟩
              rw [eA,eQ,eB] at hst
              rw [eA,eQ,eB] at low
              rw [hst,eW] at low
              rw [eA,eB,eW] at hM
              have zA:a=A:=by omega
              have zQ:m=Q:=by omega
              have zB:b=B:=by omega
              have uA:∀ _:Unit,a.toNat=A:=fun _=>eA
              have uQ:∀ _:Unit,m.toNat=Q:=fun _=>eQ
              have uB:∀ _:Unit,b.toNat=B:=fun _=>eB
              have uW:∀ _:Unit,(A+B) / 2=W:=fun _=>eW
              have zW:A+1≤W∧W+1≤B:=by omega
              clear eA eQ eB eW
              have u1:∀ _:Unit,x.toNat=i:=fun _=>by omega
              have u2:∀ _:Unit,((a+b).tdiv 2).toNat=W:=fun _=>by rw [hM];omega
              have u3:∀ _:Unit,(m - x).toNat=Q - i:=fun _=>by omega
              have u4:∀ _:Unit,(((a+b).tdiv 2)+m - x).toNat=(W+Q - i):=fun _=>by rw [hM];omega
              have u5:∀ _:Unit,((((a+b).tdiv 2)+m - x) - m).toNat=(W+Q - i) - Q:=fun _=>by rw [hM];omega
              ((conv=>whnf);refine bm (fun s1=>?_) (fun s1=>?_));rotate_left;(exfalso;simp [cfgS,std,fitsK,hM] at s1;omega)
              have n1:¬ Q - A=1:=by omega
              have n2:¬ B - Q=1:=by omega
              ((conv=>whnf);refine bm (fun s2=>?_) (fun s2=>?_))
              ·((conv=>whnf);refine bm (fun s3=>?_) (fun s3=>?_))
               ·skip
                have s2:x<m:=by simpa [cfgS,std,hM] using s2
                have s3:m<((W:Int)+m - x):=by simpa [cfgS,std,hM] using s3
                have c1:i<Q∧Q<(W+Q - i):=by omega
                (conv=>whnf)
                refine⟨0,c,[iv x,iv m,iv (((a+b).tdiv 2)+m - x)],p,l,D,rfl,rfl,AllC_cons hC,DirAt_rem hF hD,?_⟩
                ((conv=>whnf);refine bm (fun t=>?_) (fun t=>?_))
                ·have sw1:Sw l (rotG m.toNat ((m - x).toNat+((((a+b).tdiv 2)+m - x) - m).toNat) l (m - x).toNat ((((a+b).tdiv 2)+m - x) - m).toNat):=Sw_rot _ _ _ _ _ (by simp only [uA (),uQ (),uB (),u1 (),u2 (),u3 (),u4 (),u5 ()];omega) (by simp only [uA (),uQ (),uB (),u1 (),u2 (),u3 (),u4 (),u5 ()];omega)
                 ((conv=>whnf);refine bm (fun s4=>?_) (fun s4=>?_))
                 ·((conv=>whnf);refine bm (fun s5=>?_) (fun s5=>?_))
                  ·skip
                   have s4:a<x:=by simpa [cfgS,std,hM] using s4
                   have s5:x<(W:Int):=by simpa [cfgS,std,hM] using s5
                   have c2:A<i∧i<W:=by omega
                   (conv=>whnf)
                   refine⟨0,c,[iv a,iv x,iv ((a+b).tdiv 2)],p,rotG m.toNat ((m - x).toNat+((((a+b).tdiv 2)+m - x) - m).toNat) l (m - x).toNat ((((a+b).tdiv 2)+m - x) - m).toNat,D,by rw [(sw1).len];rfl,rfl,AllC_cons hC,DirAt_rem hF hD,?_⟩
                   ((conv=>whnf);refine bm (fun t=>?_) (fun t=>?_))
                   ·skip
                    have sw2:Sw l (symM D n (rotG m.toNat ((m - x).toNat+((((a+b).tdiv 2)+m - x) - m).toNat) l (m - x).toNat ((((a+b).tdiv 2)+m - x) - m).toNat) a.toNat x.toNat ((a+b).tdiv 2).toNat):=(sw1).trans (Sw_sym D n _ _ _ _ (by simp only [uA (),uQ (),uB (),u1 (),u2 (),u3 (),u4 (),u5 ()];omega) (by simp only [uA (),uQ (),uB (),u1 (),u2 (),u3 (),u4 (),u5 ()];omega) (by rw [(sw1).len];simp only [uA (),uQ (),uB (),u1 (),u2 (),u3 (),u4 (),u5 ()];omega))
                    ((conv=>whnf);refine bm (fun s6=>?_) (fun s6=>?_))
                    ·((conv=>whnf);refine bm (fun s7=>?_) (fun s7=>?_))
                     ·skip
                      have s6:(W:Int)<((W:Int)+m - x):=by simpa [cfgS,std,hM] using s6
                      have s7:((W:Int)+m - x)<b:=by simpa [cfgS,std,hM] using s7
                      have c3:W<(W+Q - i)∧(W+Q - i)<B:=by omega
                      (conv=>whnf)
                      refine⟨0,c,[iv ((a+b).tdiv 2),iv (((a+b).tdiv 2)+m - x),iv b],p,symM D n (rotG m.toNat ((m - x).toNat+((((a+b).tdiv 2)+m - x) - m).toNat) l (m - x).toNat ((((a+b).tdiv 2)+m - x) - m).toNat) a.toNat x.toNat ((a+b).tdiv 2).toNat,D,by rw [(sw2).len];rfl,rfl,AllC_cons hC,DirAt_rem hF hD,?_⟩
                      ((conv=>whnf);refine bm (fun t=>?_) (fun t=>?_))
                      ·skip
                       (conv=>whnf)
                       refine⟨rfl,?_⟩
                       show (0,AObj.cells true false 1 (flat elI.fl (symM D n (symM D n (rotG m.toNat ((m - x).toNat+((((a+b).tdiv 2)+m - x) - m).toNat) l (m - x).toNat ((((a+b).tdiv 2)+m - x) - m).toNat) a.toNat x.toNat ((a+b).tdiv 2).toNat) ((a+b).tdiv 2).toNat (((a+b).tdiv 2)+m - x).toNat b.toNat)))::F=_
                       rw [symM]
                       simp only [hst,uA (),uQ (),uB (),u1 (),u2 (),u3 (),u4 (),u5 (),uW (),if_neg n1,if_neg n2,if_pos c1,if_pos c2,if_pos c3]
                      ·exfalso
                       have t:(decide (0≤((a+b).tdiv 2))&&decide (((a+b).tdiv 2)<(((a+b).tdiv 2)+m - x))&&decide ((((a+b).tdiv 2)+m - x)<b)&&decide (b≤(symM D n (rotG m.toNat ((m - x).toNat+((((a+b).tdiv 2)+m - x) - m).toNat) l (m - x).toNat ((((a+b).tdiv 2)+m - x) - m).toNat) a.toNat x.toNat ((a+b).tdiv 2).toNat).length)&&decide (b - ((a+b).tdiv 2)≤n)&&decide ((symM D n (rotG m.toNat ((m - x).toNat+((((a+b).tdiv 2)+m - x) - m).toNat) l (m - x).toNat ((((a+b).tdiv 2)+m - x) - m).toNat) a.toNat x.toNat ((a+b).tdiv 2).toNat).length≤1000000)&&inR D (symM D n (rotG m.toNat ((m - x).toNat+((((a+b).tdiv 2)+m - x) - m).toNat) l (m - x).toNat ((((a+b).tdiv 2)+m - x) - m).toNat) a.toNat x.toNat ((a+b).tdiv 2).toNat)&&allW D)=false:=t
                       rw [hW,(sw2).inR hin,(sw2).len] at t
                       simp [hM] at t
                       omega
                     ·skip
                      have s7:¬ ((W:Int)+m - x)<b:=by simpa [cfgS,std,hM] using s7
                      have c3:¬ (W<(W+Q - i)∧(W+Q - i)<B):=by omega
                      (conv=>whnf)
                      refine⟨rfl,?_⟩
                      show (0,AObj.cells true false 1 (flat elI.fl (symM D n (rotG m.toNat ((m - x).toNat+((((a+b).tdiv 2)+m - x) - m).toNat) l (m - x).toNat ((((a+b).tdiv 2)+m - x) - m).toNat) a.toNat x.toNat ((a+b).tdiv 2).toNat)))::F=_
                      rw [symM]
                      simp only [hst,uA (),uQ (),uB (),u1 (),u2 (),u3 (),u4 (),u5 (),uW (),if_neg n1,if_neg n2,if_pos c1,if_pos c2,if_neg c3]
                    ·skip
                     have s6:¬ (W:Int)<((W:Int)+m - x):=by simpa [cfgS,std,hM] using s6
                     have c3:¬ (W<(W+Q - i)∧(W+Q - i)<B):=by omega
                     (conv=>whnf)
                     refine⟨rfl,?_⟩
                     show (0,AObj.cells true false 1 (flat elI.fl (symM D n (rotG m.toNat ((m - x).toNat+((((a+b).tdiv 2)+m - x) - m).toNat) l (m - x).toNat ((((a+b).tdiv 2)+m - x) - m).toNat) a.toNat x.toNat ((a+b).tdiv 2).toNat)))::F=_
                     rw [symM]
                     simp only [hst,uA (),uQ (),uB (),u1 (),u2 (),u3 (),u4 (),u5 (),uW (),if_neg n1,if_neg n2,if_pos c1,if_pos c2,if_neg c3]
                   ·exfalso
                    have t:(decide (0≤a)&&decide (a<x)&&decide (x<((a+b).tdiv 2))&&decide (((a+b).tdiv 2)≤(rotG m.toNat ((m - x).toNat+((((a+b).tdiv 2)+m - x) - m).toNat) l (m - x).toNat ((((a+b).tdiv 2)+m - x) - m).toNat).length)&&decide (((a+b).tdiv 2) - a≤n)&&decide ((rotG m.toNat ((m - x).toNat+((((a+b).tdiv 2)+m - x) - m).toNat) l (m - x).toNat ((((a+b).tdiv 2)+m - x) - m).toNat).length≤1000000)&&inR D (rotG m.toNat ((m - x).toNat+((((a+b).tdiv 2)+m - x) - m).toNat) l (m - x).toNat ((((a+b).tdiv 2)+m - x) - m).toNat)&&allW D)=false:=t
                    rw [hW,(sw1).inR hin,(sw1).len] at t
                    simp [hM] at t
                    omega
                  ·skip
                   have s5:¬ x<(W:Int):=by simpa [cfgS,std,hM] using s5
                   have c2:¬ (A<i∧i<W):=by omega
                   ((conv=>whnf);refine bm (fun s6=>?_) (fun s6=>?_))
                   ·((conv=>whnf);refine bm (fun s7=>?_) (fun s7=>?_))
                    ·skip
                     have s6:(W:Int)<((W:Int)+m - x):=by simpa [cfgS,std,hM] using s6
                     have s7:((W:Int)+m - x)<b:=by simpa [cfgS,std,hM] using s7
                     have c3:W<(W+Q - i)∧(W+Q - i)<B:=by omega
                     (conv=>whnf)
                     refine⟨0,c,[iv ((a+b).tdiv 2),iv (((a+b).tdiv 2)+m - x),iv b],p,rotG m.toNat ((m - x).toNat+((((a+b).tdiv 2)+m - x) - m).toNat) l (m - x).toNat ((((a+b).tdiv 2)+m - x) - m).toNat,D,by rw [(sw1).len];rfl,rfl,AllC_cons hC,DirAt_rem hF hD,?_⟩
                     ((conv=>whnf);refine bm (fun t=>?_) (fun t=>?_))
                     ·skip
                      (conv=>whnf)
                      refine⟨rfl,?_⟩
                      show (0,AObj.cells true false 1 (flat elI.fl (symM D n (rotG m.toNat ((m - x).toNat+((((a+b).tdiv 2)+m - x) - m).toNat) l (m - x).toNat ((((a+b).tdiv 2)+m - x) - m).toNat) ((a+b).tdiv 2).toNat (((a+b).tdiv 2)+m - x).toNat b.toNat)))::F=_
                      rw [symM]
                      simp only [hst,uA (),uQ (),uB (),u1 (),u2 (),u3 (),u4 (),u5 (),uW (),if_neg n1,if_neg n2,if_pos c1,if_neg c2,if_pos c3]
                     ·exfalso
                      have t:(decide (0≤((a+b).tdiv 2))&&decide (((a+b).tdiv 2)<(((a+b).tdiv 2)+m - x))&&decide ((((a+b).tdiv 2)+m - x)<b)&&decide (b≤(rotG m.toNat ((m - x).toNat+((((a+b).tdiv 2)+m - x) - m).toNat) l (m - x).toNat ((((a+b).tdiv 2)+m - x) - m).toNat).length)&&decide (b - ((a+b).tdiv 2)≤n)&&decide ((rotG m.toNat ((m - x).toNat+((((a+b).tdiv 2)+m - x) - m).toNat) l (m - x).toNat ((((a+b).tdiv 2)+m - x) - m).toNat).length≤1000000)&&inR D (rotG m.toNat ((m - x).toNat+((((a+b).tdiv 2)+m - x) - m).toNat) l (m - x).toNat ((((a+b).tdiv 2)+m - x) - m).toNat)&&allW D)=false:=t
                      rw [hW,(sw1).inR hin,(sw1).len] at t
                      simp [hM] at t
                      omega
                    ·skip
                     have s7:¬ ((W:Int)+m - x)<b:=by simpa [cfgS,std,hM] using s7
                     have c3:¬ (W<(W+Q - i)∧(W+Q - i)<B):=by omega
                     (conv=>whnf)
                     refine⟨rfl,?_⟩
                     show (0,AObj.cells true false 1 (flat elI.fl (rotG m.toNat ((m - x).toNat+((((a+b).tdiv 2)+m - x) - m).toNat) l (m - x).toNat ((((a+b).tdiv 2)+m - x) - m).toNat)))::F=_
                     rw [symM]
                     simp only [hst,uA (),uQ (),uB (),u1 (),u2 (),u3 (),u4 (),u5 (),uW (),if_neg n1,if_neg n2,if_pos c1,if_neg c2,if_neg c3]
                   ·skip
                    have s6:¬ (W:Int)<((W:Int)+m - x):=by simpa [cfgS,std,hM] using s6
                    have c3:¬ (W<(W+Q - i)∧(W+Q - i)<B):=by omega
                    (conv=>whnf)
                    refine⟨rfl,?_⟩
                    show (0,AObj.cells true false 1 (flat elI.fl (rotG m.toNat ((m - x).toNat+((((a+b).tdiv 2)+m - x) - m).toNat) l (m - x).toNat ((((a+b).tdiv 2)+m - x) - m).toNat)))::F=_
                    rw [symM]
                    simp only [hst,uA (),uQ (),uB (),u1 (),u2 (),u3 (),u4 (),u5 (),uW (),if_neg n1,if_neg n2,if_pos c1,if_neg c2,if_neg c3]
                 ·skip
                  have s4:¬ a<x:=by simpa [cfgS,std,hM] using s4
                  have c2:¬ (A<i∧i<W):=by omega
                  ((conv=>whnf);refine bm (fun s6=>?_) (fun s6=>?_))
                  ·((conv=>whnf);refine bm (fun s7=>?_) (fun s7=>?_))
                   ·skip
                    have s6:(W:Int)<((W:Int)+m - x):=by simpa [cfgS,std,hM] using s6
                    have s7:((W:Int)+m - x)<b:=by simpa [cfgS,std,hM] using s7
                    have c3:W<(W+Q - i)∧(W+Q - i)<B:=by omega
                    (conv=>whnf)
                    refine⟨0,c,[iv ((a+b).tdiv 2),iv (((a+b).tdiv 2)+m - x),iv b],p,rotG m.toNat ((m - x).toNat+((((a+b).tdiv 2)+m - x) - m).toNat) l (m - x).toNat ((((a+b).tdiv 2)+m - x) - m).toNat,D,by rw [(sw1).len];rfl,rfl,AllC_cons hC,DirAt_rem hF hD,?_⟩
                    ((conv=>whnf);refine bm (fun t=>?_) (fun t=>?_))
                    ·skip
                     (conv=>whnf)
                     refine⟨rfl,?_⟩
                     show (0,AObj.cells true false 1 (flat elI.fl (symM D n (rotG m.toNat ((m - x).toNat+((((a+b).tdiv 2)+m - x) - m).toNat) l (m - x).toNat ((((a+b).tdiv 2)+m - x) - m).toNat) ((a+b).tdiv 2).toNat (((a+b).tdiv 2)+m - x).toNat b.toNat)))::F=_
                     rw [symM]
                     simp only [hst,uA (),uQ (),uB (),u1 (),u2 (),u3 (),u4 (),u5 (),uW (),if_neg n1,if_neg n2,if_pos c1,if_neg c2,if_pos c3]
                    ·exfalso
                     have t:(decide (0≤((a+b).tdiv 2))&&decide (((a+b).tdiv 2)<(((a+b).tdiv 2)+m - x))&&decide ((((a+b).tdiv 2)+m - x)<b)&&decide (b≤(rotG m.toNat ((m - x).toNat+((((a+b).tdiv 2)+m - x) - m).toNat) l (m - x).toNat ((((a+b).tdiv 2)+m - x) - m).toNat).length)&&decide (b - ((a+b).tdiv 2)≤n)&&decide ((rotG m.toNat ((m - x).toNat+((((a+b).tdiv 2)+m - x) - m).toNat) l (m - x).toNat ((((a+b).tdiv 2)+m - x) - m).toNat).length≤1000000)&&inR D (rotG m.toNat ((m - x).toNat+((((a+b).tdiv 2)+m - x) - m).toNat) l (m - x).toNat ((((a+b).tdiv 2)+m - x) - m).toNat)&&allW D)=false:=t
                     rw [hW,(sw1).inR hin,(sw1).len] at t
                     simp [hM] at t
                     omega
                   ·skip
                    have s7:¬ ((W:Int)+m - x)<b:=by simpa [cfgS,std,hM] using s7
                    have c3:¬ (W<(W+Q - i)∧(W+Q - i)<B):=by omega
                    (conv=>whnf)
                    refine⟨rfl,?_⟩
                    show (0,AObj.cells true false 1 (flat elI.fl (rotG m.toNat ((m - x).toNat+((((a+b).tdiv 2)+m - x) - m).toNat) l (m - x).toNat ((((a+b).tdiv 2)+m - x) - m).toNat)))::F=_
                    rw [symM]
                    simp only [hst,uA (),uQ (),uB (),u1 (),u2 (),u3 (),u4 (),u5 (),uW (),if_neg n1,if_neg n2,if_pos c1,if_neg c2,if_neg c3]
                  ·skip
                   have s6:¬ (W:Int)<((W:Int)+m - x):=by simpa [cfgS,std,hM] using s6
                   have c3:¬ (W<(W+Q - i)∧(W+Q - i)<B):=by omega
                   (conv=>whnf)
                   refine⟨rfl,?_⟩
                   show (0,AObj.cells true false 1 (flat elI.fl (rotG m.toNat ((m - x).toNat+((((a+b).tdiv 2)+m - x) - m).toNat) l (m - x).toNat ((((a+b).tdiv 2)+m - x) - m).toNat)))::F=_
                   rw [symM]
                   simp only [hst,uA (),uQ (),uB (),u1 (),u2 (),u3 (),u4 (),u5 (),uW (),if_neg n1,if_neg n2,if_pos c1,if_neg c2,if_neg c3]
                ·exfalso
                 have t:(decide (0≤x)&&decide (x<m)&&decide (m<(((a+b).tdiv 2)+m - x))&&decide ((((a+b).tdiv 2)+m - x)≤l.length)&&decide (l.length≤1000000))=false:=t
                 simp [hM] at t
                 omega
               ·skip
                have s3:¬ m<((W:Int)+m - x):=by simpa [cfgS,std,hM] using s3
                have c1:¬ (i<Q∧Q<(W+Q - i)):=by omega
                ((conv=>whnf);refine bm (fun s4=>?_) (fun s4=>?_))
                ·((conv=>whnf);refine bm (fun s5=>?_) (fun s5=>?_))
                 ·skip
                  have s4:a<x:=by simpa [cfgS,std,hM] using s4
                  have s5:x<(W:Int):=by simpa [cfgS,std,hM] using s5
                  have c2:A<i∧i<W:=by omega
                  (conv=>whnf)
                  refine⟨0,c,[iv a,iv x,iv ((a+b).tdiv 2)],p,l,D,by rw [((Sw.refl l)).len];rfl,rfl,AllC_cons hC,DirAt_rem hF hD,?_⟩
                  ((conv=>whnf);refine bm (fun t=>?_) (fun t=>?_))
                  ·skip
                   have sw2:Sw l (symM D n (l) a.toNat x.toNat ((a+b).tdiv 2).toNat):=((Sw.refl l)).trans (Sw_sym D n _ _ _ _ (by simp only [uA (),uQ (),uB (),u1 (),u2 (),u3 (),u4 (),u5 ()];omega) (by simp only [uA (),uQ (),uB (),u1 (),u2 (),u3 (),u4 (),u5 ()];omega) (by rw [((Sw.refl l)).len];simp only [uA (),uQ (),uB (),u1 (),u2 (),u3 (),u4 (),u5 ()];omega))
                   ((conv=>whnf);refine bm (fun s6=>?_) (fun s6=>?_))
                   ·((conv=>whnf);refine bm (fun s7=>?_) (fun s7=>?_))
                    ·skip
                     have s6:(W:Int)<((W:Int)+m - x):=by simpa [cfgS,std,hM] using s6
                     have s7:((W:Int)+m - x)<b:=by simpa [cfgS,std,hM] using s7
                     have c3:W<(W+Q - i)∧(W+Q - i)<B:=by omega
                     (conv=>whnf)
                     refine⟨0,c,[iv ((a+b).tdiv 2),iv (((a+b).tdiv 2)+m - x),iv b],p,symM D n (l) a.toNat x.toNat ((a+b).tdiv 2).toNat,D,by rw [(sw2).len];rfl,rfl,AllC_cons hC,DirAt_rem hF hD,?_⟩
                     ((conv=>whnf);refine bm (fun t=>?_) (fun t=>?_))
                     ·skip
                      (conv=>whnf)
                      refine⟨rfl,?_⟩
                      show (0,AObj.cells true false 1 (flat elI.fl (symM D n (symM D n (l) a.toNat x.toNat ((a+b).tdiv 2).toNat) ((a+b).tdiv 2).toNat (((a+b).tdiv 2)+m - x).toNat b.toNat)))::F=_
                      rw [symM]
                      simp only [hst,uA (),uQ (),uB (),u1 (),u2 (),u3 (),u4 (),u5 (),uW (),if_neg n1,if_neg n2,if_neg c1,if_pos c2,if_pos c3]
                     ·exfalso
                      have t:(decide (0≤((a+b).tdiv 2))&&decide (((a+b).tdiv 2)<(((a+b).tdiv 2)+m - x))&&decide ((((a+b).tdiv 2)+m - x)<b)&&decide (b≤(symM D n (l) a.toNat x.toNat ((a+b).tdiv 2).toNat).length)&&decide (b - ((a+b).tdiv 2)≤n)&&decide ((symM D n (l) a.toNat x.toNat ((a+b).tdiv 2).toNat).length≤1000000)&&inR D (symM D n (l) a.toNat x.toNat ((a+b).tdiv 2).toNat)&&allW D)=false:=t
                      rw [hW,(sw2).inR hin,(sw2).len] at t
                      simp [hM] at t
                      omega
                    ·skip
                     have s7:¬ ((W:Int)+m - x)<b:=by simpa [cfgS,std,hM] using s7
                     have c3:¬ (W<(W+Q - i)∧(W+Q - i)<B):=by omega
                     (conv=>whnf)
                     refine⟨rfl,?_⟩
                     show (0,AObj.cells true false 1 (flat elI.fl (symM D n (l) a.toNat x.toNat ((a+b).tdiv 2).toNat)))::F=_
                     rw [symM]
                     simp only [hst,uA (),uQ (),uB (),u1 (),u2 (),u3 (),u4 (),u5 (),uW (),if_neg n1,if_neg n2,if_neg c1,if_pos c2,if_neg c3]
                   ·skip
                    have s6:¬ (W:Int)<((W:Int)+m - x):=by simpa [cfgS,std,hM] using s6
                    have c3:¬ (W<(W+Q - i)∧(W+Q - i)<B):=by omega
                    (conv=>whnf)
                    refine⟨rfl,?_⟩
                    show (0,AObj.cells true false 1 (flat elI.fl (symM D n (l) a.toNat x.toNat ((a+b).tdiv 2).toNat)))::F=_
                    rw [symM]
                    simp only [hst,uA (),uQ (),uB (),u1 (),u2 (),u3 (),u4 (),u5 (),uW (),if_neg n1,if_neg n2,if_neg c1,if_pos c2,if_neg c3]
                  ·exfalso
                   have t:(decide (0≤a)&&decide (a<x)&&decide (x<((a+b).tdiv 2))&&decide (((a+b).tdiv 2)≤(l).length)&&decide (((a+b).tdiv 2) - a≤n)&&decide ((l).length≤1000000)&&inR D (l)&&allW D)=false:=t
                   rw [hW,((Sw.refl l)).inR hin,((Sw.refl l)).len] at t
                   simp [hM] at t
                   omega
                 ·skip
                  have s5:¬ x<(W:Int):=by simpa [cfgS,std,hM] using s5
                  have c2:¬ (A<i∧i<W):=by omega
                  ((conv=>whnf);refine bm (fun s6=>?_) (fun s6=>?_))
                  ·((conv=>whnf);refine bm (fun s7=>?_) (fun s7=>?_))
                   ·skip
                    have s6:(W:Int)<((W:Int)+m - x):=by simpa [cfgS,std,hM] using s6
                    have s7:((W:Int)+m - x)<b:=by simpa [cfgS,std,hM] using s7
                    have c3:W<(W+Q - i)∧(W+Q - i)<B:=by omega
                    (conv=>whnf)
                    refine⟨0,c,[iv ((a+b).tdiv 2),iv (((a+b).tdiv 2)+m - x),iv b],p,l,D,by rw [((Sw.refl l)).len];rfl,rfl,AllC_cons hC,DirAt_rem hF hD,?_⟩
                    ((conv=>whnf);refine bm (fun t=>?_) (fun t=>?_))
                    ·skip
                     (conv=>whnf)
                     refine⟨rfl,?_⟩
                     show (0,AObj.cells true false 1 (flat elI.fl (symM D n (l) ((a+b).tdiv 2).toNat (((a+b).tdiv 2)+m - x).toNat b.toNat)))::F=_
                     rw [symM]
                     simp only [hst,uA (),uQ (),uB (),u1 (),u2 (),u3 (),u4 (),u5 (),uW (),if_neg n1,if_neg n2,if_neg c1,if_neg c2,if_pos c3]
                    ·exfalso
                     have t:(decide (0≤((a+b).tdiv 2))&&decide (((a+b).tdiv 2)<(((a+b).tdiv 2)+m - x))&&decide ((((a+b).tdiv 2)+m - x)<b)&&decide (b≤(l).length)&&decide (b - ((a+b).tdiv 2)≤n)&&decide ((l).length≤1000000)&&inR D (l)&&allW D)=false:=t
                     rw [hW,((Sw.refl l)).inR hin,((Sw.refl l)).len] at t
                     simp [hM] at t
                     omega
                   ·skip
                    have s7:¬ ((W:Int)+m - x)<b:=by simpa [cfgS,std,hM] using s7
                    have c3:¬ (W<(W+Q - i)∧(W+Q - i)<B):=by omega
                    (conv=>whnf)
                    refine⟨rfl,?_⟩
                    show (0,AObj.cells true false 1 (flat elI.fl (l)))::F=_
                    rw [symM]
                    simp only [hst,uA (),uQ (),uB (),u1 (),u2 (),u3 (),u4 (),u5 (),uW (),if_neg n1,if_neg n2,if_neg c1,if_neg c2,if_neg c3]
                  ·skip
                   have s6:¬ (W:Int)<((W:Int)+m - x):=by simpa [cfgS,std,hM] using s6
                   have c3:¬ (W<(W+Q - i)∧(W+Q - i)<B):=by omega
                   (conv=>whnf)
                   refine⟨rfl,?_⟩
                   show (0,AObj.cells true false 1 (flat elI.fl (l)))::F=_
                   rw [symM]
                   simp only [hst,uA (),uQ (),uB (),u1 (),u2 (),u3 (),u4 (),u5 (),uW (),if_neg n1,if_neg n2,if_neg c1,if_neg c2,if_neg c3]
                ·skip
                 have s4:¬ a<x:=by simpa [cfgS,std,hM] using s4
                 have c2:¬ (A<i∧i<W):=by omega
                 ((conv=>whnf);refine bm (fun s6=>?_) (fun s6=>?_))
                 ·((conv=>whnf);refine bm (fun s7=>?_) (fun s7=>?_))
                  ·skip
                   have s6:(W:Int)<((W:Int)+m - x):=by simpa [cfgS,std,hM] using s6
                   have s7:((W:Int)+m - x)<b:=by simpa [cfgS,std,hM] using s7
                   have c3:W<(W+Q - i)∧(W+Q - i)<B:=by omega
                   (conv=>whnf)
                   refine⟨0,c,[iv ((a+b).tdiv 2),iv (((a+b).tdiv 2)+m - x),iv b],p,l,D,by rw [((Sw.refl l)).len];rfl,rfl,AllC_cons hC,DirAt_rem hF hD,?_⟩
                   ((conv=>whnf);refine bm (fun t=>?_) (fun t=>?_))
                   ·skip
                    (conv=>whnf)
                    refine⟨rfl,?_⟩
                    show (0,AObj.cells true false 1 (flat elI.fl (symM D n (l) ((a+b).tdiv 2).toNat (((a+b).tdiv 2)+m - x).toNat b.toNat)))::F=_
                    rw [symM]
                    simp only [hst,uA (),uQ (),uB (),u1 (),u2 (),u3 (),u4 (),u5 (),uW (),if_neg n1,if_neg n2,if_neg c1,if_neg c2,if_pos c3]
                   ·exfalso
                    have t:(decide (0≤((a+b).tdiv 2))&&decide (((a+b).tdiv 2)<(((a+b).tdiv 2)+m - x))&&decide ((((a+b).tdiv 2)+m - x)<b)&&decide (b≤(l).length)&&decide (b - ((a+b).tdiv 2)≤n)&&decide ((l).length≤1000000)&&inR D (l)&&allW D)=false:=t
                    rw [hW,((Sw.refl l)).inR hin,((Sw.refl l)).len] at t
                    simp [hM] at t
                    omega
                  ·skip
                   have s7:¬ ((W:Int)+m - x)<b:=by simpa [cfgS,std,hM] using s7
                   have c3:¬ (W<(W+Q - i)∧(W+Q - i)<B):=by omega
                   (conv=>whnf)
                   refine⟨rfl,?_⟩
                   show (0,AObj.cells true false 1 (flat elI.fl (l)))::F=_
                   rw [symM]
                   simp only [hst,uA (),uQ (),uB (),u1 (),u2 (),u3 (),u4 (),u5 (),uW (),if_neg n1,if_neg n2,if_neg c1,if_neg c2,if_neg c3]
                 ·skip
                  have s6:¬ (W:Int)<((W:Int)+m - x):=by simpa [cfgS,std,hM] using s6
                  have c3:¬ (W<(W+Q - i)∧(W+Q - i)<B):=by omega
                  (conv=>whnf)
                  refine⟨rfl,?_⟩
                  show (0,AObj.cells true false 1 (flat elI.fl (l)))::F=_
                  rw [symM]
                  simp only [hst,uA (),uQ (),uB (),u1 (),u2 (),u3 (),u4 (),u5 (),uW (),if_neg n1,if_neg n2,if_neg c1,if_neg c2,if_neg c3]
              ·skip
               have s2:¬ x<m:=by simpa [cfgS,std,hM] using s2
               have c1:¬ (i<Q∧Q<(W+Q - i)):=by omega
               ((conv=>whnf);refine bm (fun s4=>?_) (fun s4=>?_))
               ·((conv=>whnf);refine bm (fun s5=>?_) (fun s5=>?_))
                ·skip
                 have s4:a<x:=by simpa [cfgS,std,hM] using s4
                 have s5:x<(W:Int):=by simpa [cfgS,std,hM] using s5
                 have c2:A<i∧i<W:=by omega
                 (conv=>whnf)
                 refine⟨0,c,[iv a,iv x,iv ((a+b).tdiv 2)],p,l,D,by rw [((Sw.refl l)).len];rfl,rfl,AllC_cons hC,DirAt_rem hF hD,?_⟩
                 ((conv=>whnf);refine bm (fun t=>?_) (fun t=>?_))
                 ·skip
                  have sw2:Sw l (symM D n (l) a.toNat x.toNat ((a+b).tdiv 2).toNat):=((Sw.refl l)).trans (Sw_sym D n _ _ _ _ (by simp only [uA (),uQ (),uB (),u1 (),u2 (),u3 (),u4 (),u5 ()];omega) (by simp only [uA (),uQ (),uB (),u1 (),u2 (),u3 (),u4 (),u5 ()];omega) (by rw [((Sw.refl l)).len];simp only [uA (),uQ (),uB (),u1 (),u2 (),u3 (),u4 (),u5 ()];omega))
                  ((conv=>whnf);refine bm (fun s6=>?_) (fun s6=>?_))
                  ·((conv=>whnf);refine bm (fun s7=>?_) (fun s7=>?_))
                   ·skip
                    have s6:(W:Int)<((W:Int)+m - x):=by simpa [cfgS,std,hM] using s6
                    have s7:((W:Int)+m - x)<b:=by simpa [cfgS,std,hM] using s7
                    have c3:W<(W+Q - i)∧(W+Q - i)<B:=by omega
                    (conv=>whnf)
                    refine⟨0,c,[iv ((a+b).tdiv 2),iv (((a+b).tdiv 2)+m - x),iv b],p,symM D n (l) a.toNat x.toNat ((a+b).tdiv 2).toNat,D,by rw [(sw2).len];rfl,rfl,AllC_cons hC,DirAt_rem hF hD,?_⟩
                    ((conv=>whnf);refine bm (fun t=>?_) (fun t=>?_))
                    ·skip
                     (conv=>whnf)
                     refine⟨rfl,?_⟩
                     show (0,AObj.cells true false 1 (flat elI.fl (symM D n (symM D n (l) a.toNat x.toNat ((a+b).tdiv 2).toNat) ((a+b).tdiv 2).toNat (((a+b).tdiv 2)+m - x).toNat b.toNat)))::F=_
                     rw [symM]
                     simp only [hst,uA (),uQ (),uB (),u1 (),u2 (),u3 (),u4 (),u5 (),uW (),if_neg n1,if_neg n2,if_neg c1,if_pos c2,if_pos c3]
                    ·exfalso
                     have t:(decide (0≤((a+b).tdiv 2))&&decide (((a+b).tdiv 2)<(((a+b).tdiv 2)+m - x))&&decide ((((a+b).tdiv 2)+m - x)<b)&&decide (b≤(symM D n (l) a.toNat x.toNat ((a+b).tdiv 2).toNat).length)&&decide (b - ((a+b).tdiv 2)≤n)&&decide ((symM D n (l) a.toNat x.toNat ((a+b).tdiv 2).toNat).length≤1000000)&&inR D (symM D n (l) a.toNat x.toNat ((a+b).tdiv 2).toNat)&&allW D)=false:=t
                     rw [hW,(sw2).inR hin,(sw2).len] at t
                     simp [hM] at t
                     omega
                   ·skip
                    have s7:¬ ((W:Int)+m - x)<b:=by simpa [cfgS,std,hM] using s7
                    have c3:¬ (W<(W+Q - i)∧(W+Q - i)<B):=by omega
                    (conv=>whnf)
                    refine⟨rfl,?_⟩
                    show (0,AObj.cells true false 1 (flat elI.fl (symM D n (l) a.toNat x.toNat ((a+b).tdiv 2).toNat)))::F=_
                    rw [symM]
                    simp only [hst,uA (),uQ (),uB (),u1 (),u2 (),u3 (),u4 (),u5 (),uW (),if_neg n1,if_neg n2,if_neg c1,if_pos c2,if_neg c3]
                  ·skip
                   have s6:¬ (W:Int)<((W:Int)+m - x):=by simpa [cfgS,std,hM] using s6
                   have c3:¬ (W<(W+Q - i)∧(W+Q - i)<B):=by omega
                   (conv=>whnf)
                   refine⟨rfl,?_⟩
                   show (0,AObj.cells true false 1 (flat elI.fl (symM D n (l) a.toNat x.toNat ((a+b).tdiv 2).toNat)))::F=_
                   rw [symM]
                   simp only [hst,uA (),uQ (),uB (),u1 (),u2 (),u3 (),u4 (),u5 (),uW (),if_neg n1,if_neg n2,if_neg c1,if_pos c2,if_neg c3]
                 ·exfalso
                  have t:(decide (0≤a)&&decide (a<x)&&decide (x<((a+b).tdiv 2))&&decide (((a+b).tdiv 2)≤(l).length)&&decide (((a+b).tdiv 2) - a≤n)&&decide ((l).length≤1000000)&&inR D (l)&&allW D)=false:=t
                  rw [hW,((Sw.refl l)).inR hin,((Sw.refl l)).len] at t
                  simp [hM] at t
                  omega
                ·skip
                 have s5:¬ x<(W:Int):=by simpa [cfgS,std,hM] using s5
                 have c2:¬ (A<i∧i<W):=by omega
                 ((conv=>whnf);refine bm (fun s6=>?_) (fun s6=>?_))
                 ·((conv=>whnf);refine bm (fun s7=>?_) (fun s7=>?_))
                  ·skip
                   have s6:(W:Int)<((W:Int)+m - x):=by simpa [cfgS,std,hM] using s6
                   have s7:((W:Int)+m - x)<b:=by simpa [cfgS,std,hM] using s7
                   have c3:W<(W+Q - i)∧(W+Q - i)<B:=by omega
                   (conv=>whnf)
                   refine⟨0,c,[iv ((a+b).tdiv 2),iv (((a+b).tdiv 2)+m - x),iv b],p,l,D,by rw [((Sw.refl l)).len];rfl,rfl,AllC_cons hC,DirAt_rem hF hD,?_⟩
                   ((conv=>whnf);refine bm (fun t=>?_) (fun t=>?_))
                   ·skip
                    (conv=>whnf)
                    refine⟨rfl,?_⟩
                    show (0,AObj.cells true false 1 (flat elI.fl (symM D n (l) ((a+b).tdiv 2).toNat (((a+b).tdiv 2)+m - x).toNat b.toNat)))::F=_
                    rw [symM]
                    simp only [hst,uA (),uQ (),uB (),u1 (),u2 (),u3 (),u4 (),u5 (),uW (),if_neg n1,if_neg n2,if_neg c1,if_neg c2,if_pos c3]
                   ·exfalso
                    have t:(decide (0≤((a+b).tdiv 2))&&decide (((a+b).tdiv 2)<(((a+b).tdiv 2)+m - x))&&decide ((((a+b).tdiv 2)+m - x)<b)&&decide (b≤(l).length)&&decide (b - ((a+b).tdiv 2)≤n)&&decide ((l).length≤1000000)&&inR D (l)&&allW D)=false:=t
                    rw [hW,((Sw.refl l)).inR hin,((Sw.refl l)).len] at t
                    simp [hM] at t
                    omega
                  ·skip
                   have s7:¬ ((W:Int)+m - x)<b:=by simpa [cfgS,std,hM] using s7
                   have c3:¬ (W<(W+Q - i)∧(W+Q - i)<B):=by omega
                   (conv=>whnf)
                   refine⟨rfl,?_⟩
                   show (0,AObj.cells true false 1 (flat elI.fl (l)))::F=_
                   rw [symM]
                   simp only [hst,uA (),uQ (),uB (),u1 (),u2 (),u3 (),u4 (),u5 (),uW (),if_neg n1,if_neg n2,if_neg c1,if_neg c2,if_neg c3]
                 ·skip
                  have s6:¬ (W:Int)<((W:Int)+m - x):=by simpa [cfgS,std,hM] using s6
                  have c3:¬ (W<(W+Q - i)∧(W+Q - i)<B):=by omega
                  (conv=>whnf)
                  refine⟨rfl,?_⟩
                  show (0,AObj.cells true false 1 (flat elI.fl (l)))::F=_
                  rw [symM]
                  simp only [hst,uA (),uQ (),uB (),u1 (),u2 (),u3 (),u4 (),u5 (),uW (),if_neg n1,if_neg n2,if_neg c1,if_neg c2,if_neg c3]
               ·skip
                have s4:¬ a<x:=by simpa [cfgS,std,hM] using s4
                have c2:¬ (A<i∧i<W):=by omega
                ((conv=>whnf);refine bm (fun s6=>?_) (fun s6=>?_))
                ·((conv=>whnf);refine bm (fun s7=>?_) (fun s7=>?_))
                 ·skip
                  have s6:(W:Int)<((W:Int)+m - x):=by simpa [cfgS,std,hM] using s6
                  have s7:((W:Int)+m - x)<b:=by simpa [cfgS,std,hM] using s7
                  have c3:W<(W+Q - i)∧(W+Q - i)<B:=by omega
                  (conv=>whnf)
                  refine⟨0,c,[iv ((a+b).tdiv 2),iv (((a+b).tdiv 2)+m - x),iv b],p,l,D,by rw [((Sw.refl l)).len];rfl,rfl,AllC_cons hC,DirAt_rem hF hD,?_⟩
                  ((conv=>whnf);refine bm (fun t=>?_) (fun t=>?_))
                  ·skip
                   (conv=>whnf)
                   refine⟨rfl,?_⟩
                   show (0,AObj.cells true false 1 (flat elI.fl (symM D n (l) ((a+b).tdiv 2).toNat (((a+b).tdiv 2)+m - x).toNat b.toNat)))::F=_
                   rw [symM]
                   simp only [hst,uA (),uQ (),uB (),u1 (),u2 (),u3 (),u4 (),u5 (),uW (),if_neg n1,if_neg n2,if_neg c1,if_neg c2,if_pos c3]
                  ·exfalso
                   have t:(decide (0≤((a+b).tdiv 2))&&decide (((a+b).tdiv 2)<(((a+b).tdiv 2)+m - x))&&decide ((((a+b).tdiv 2)+m - x)<b)&&decide (b≤(l).length)&&decide (b - ((a+b).tdiv 2)≤n)&&decide ((l).length≤1000000)&&inR D (l)&&allW D)=false:=t
                   rw [hW,((Sw.refl l)).inR hin,((Sw.refl l)).len] at t
                   simp [hM] at t
                   omega
                 ·skip
                  have s7:¬ ((W:Int)+m - x)<b:=by simpa [cfgS,std,hM] using s7
                  have c3:¬ (W<(W+Q - i)∧(W+Q - i)<B):=by omega
                  (conv=>whnf)
                  refine⟨rfl,?_⟩
                  show (0,AObj.cells true false 1 (flat elI.fl (l)))::F=_
                  rw [symM]
                  simp only [hst,uA (),uQ (),uB (),u1 (),u2 (),u3 (),u4 (),u5 (),uW (),if_neg n1,if_neg n2,if_neg c1,if_neg c2,if_neg c3]
                ·skip
                 have s6:¬ (W:Int)<((W:Int)+m - x):=by simpa [cfgS,std,hM] using s6
                 have c3:¬ (W<(W+Q - i)∧(W+Q - i)<B):=by omega
                 (conv=>whnf)
                 refine⟨rfl,?_⟩
                 show (0,AObj.cells true false 1 (flat elI.fl (l)))::F=_
                 rw [symM]
                 simp only [hst,uA (),uQ (),uB (),u1 (),u2 (),u3 (),u4 (),u5 (),uW (),if_neg n1,if_neg n2,if_neg c1,if_neg c2,if_neg c3]
           ·exfalso;simp [cfgS,std,fitsK,hM] at g10;omega
          ·exfalso;simp [cfgS,std,fitsK,hM] at g9;omega
         ·have g8:¬ (a+b).tdiv 2<m:=by simpa [cfgS,std] using g8
          have hc:¬ (a.toNat+b.toNat) / 2<m.toNat:=by omega
          ((conv=>whnf);refine bm (fun g10=>?_) (fun g10=>?_))
          ·skip
           (conv=>whnf)
           refine⟨fun q e h nx'=>∃ (i j k:Nat) (x y:Int),x=i∧y=j∧a.toNat≤i∧i≤j∧j≤m.toNat∧j - i≤k∧q=j - i∧bsG (fun c=>ltD D (atI l ((a.toNat+b.toNat) / 2+m.toNat - 1 - c)) (atI l c)) (m.toNat - a.toNat) a.toNat m.toNat=bsG (fun c=>ltD D (atI l ((a.toNat+b.toNat) / 2+m.toNat - 1 - c)) (atI l c)) k i j∧e=e266e l.length c a m b ((a+b).tdiv 2) ((a+b).tdiv 2+m) ((a+b).tdiv 2+m - 1) x y p∧h=(0,.cells true false 1 (flat elI.fl l))::F∧nx'=nx,⟨m.toNat - a.toNat,?_⟩,?_⟩
           ·refine Into_fr (e0:=e266e l.length c a m b ((a+b).tdiv 2) ((a+b).tdiv 2+m) ((a+b).tdiv 2+m - 1) a m p) (o0:=.cells true false 1 (flat elI.fl l)) (n0:=nx) hF ⟨a.toNat,m.toNat,_,_,_,by omega,by omega,Nat.le_refl _,by omega,Nat.le_refl _,Nat.le_refl _,rfl,rfl,rfl,rfl,rfl⟩ ?_ (ObjRen_g (flat_g _ _)) (Nat.le_refl _)
            unfold e266e
            refine List.forall_mem_cons.2 ⟨env_sl hF.1 rfl,List.forall_mem_cons.2 ⟨env_cm hp rfl,?_⟩⟩
            ((repeat'(refine List.forall_mem_cons.2 ⟨⟨rfl,?_⟩,?_⟩;(first|exact scT_g rfl|exact⟨by decide,rfl⟩|exact⟨by decide,fun h=>(by cases h)⟩)));exact fun _ h=>(by cases h))
           ·rintro q e h nx' ⟨i,j,k,x,y,hx,hy,hi0,hij,hj,hk,rfl,hbs,rfl,rfl,rfl⟩
            unfold e266e
            ((conv=>whnf);refine bm (fun h1=>?_) (fun h1=>?_))
            ·have h1:i<j:=by simp [cfgS,std] at h1;omega
             obtain⟨k',rfl⟩:∃ k',k=k'+1:=⟨k - 1,by omega⟩
             rw [bsG_s h1] at hbs
             have qh:(x+y).tdiv 2=(((i+j) / 2:Nat):Int):=by rw [Int.tdiv_eq_ediv_of_nonneg (by omega)];omega
             ((conv=>whnf);refine bm (fun q1=>?_) (fun q1=>?_))
             ·((conv=>whnf);refine bm (fun q2=>?_) (fun q2=>?_))
              ·((conv=>whnf);refine bm (fun q3=>?_) (fun q3=>?_))
               ·((conv=>whnf);refine bm (fun q4=>?_) (fun q4=>?_))
                ·((conv=>whnf);refine bm (fun q5a=>?_) (fun q5a=>?_));rotate_left;(exfalso;simp [cfgS,std,fitsK,hM,qh] at q5a;omega)
                 ((conv=>whnf);refine bm (fun q5=>?_) (fun q5=>?_))
                 ·(conv=>whnf)
                  refine boV (getI l (i:=((a.toNat+b.toNat) / 2+m.toNat - 1 - (i+j) / 2)) (by omega) ?_) ?_
                  ·show _+Int.toNat (((a+b).tdiv 2+m - 1 - (x+y).tdiv 2))*1=_;rw [qh];omega
                  ((conv=>whnf);refine bm (fun q6=>?_) (fun q6=>?_))
                  ·(conv=>whnf)
                   refine boV (getI l (i:=(i+j) / 2) (by omega) ?_) ?_
                   ·show _+Int.toNat ((x+y).tdiv 2)*1=_;rw [qh];omega
                   (conv=>whnf)
                   refine⟨atI l (((a.toNat+b.toNat) / 2+m.toNat - 1 - (i+j) / 2)),atI l ((i+j) / 2),p,D,rfl,DirAt_q hF hD,?_⟩
                   ((conv=>whnf);refine bm (fun q7=>?_) (fun q7=>?_))
                   ·((conv=>whnf);refine bm (fun q8=>?_) (fun q8=>?_))
                    ·have q8:ltD D (atI l ((a.toNat+b.toNat) / 2+m.toNat - 1 - (i+j) / 2)) (atI l ((i+j) / 2))=false:=by have q8:(!(ltD D (atI l ((a.toNat+b.toNat) / 2+m.toNat - 1 - (i+j) / 2)) (atI l ((i+j) / 2))))=true:=q8;simpa using q8
                     ((conv=>whnf);refine bm (fun q9=>?_) (fun q9=>?_))
                     ·(conv=>whnf)
                      refine⟨j - ((i+j) / 2+1),by omega,?_⟩
                      refine Into_fr (e0:=e266e l.length c a m b ((a+b).tdiv 2) ((a+b).tdiv 2+m) ((a+b).tdiv 2+m - 1) ((x+y).tdiv 2+1) y p) (o0:=.cells true false 1 (flat elI.fl l)) (n0:=nx') hF ⟨(i+j) / 2+1,j,k',_,_,by rw [qh];omega,hy,by omega,by omega,by omega,by omega,rfl,by rw [hbs,if_neg (by simp [q8])],rfl,rfl,rfl⟩ ?_ (ObjRen_g (flat_g _ _)) (Nat.le_refl _)
                      unfold e266e
                      refine List.forall_mem_cons.2 ⟨env_sl hF.1 rfl,List.forall_mem_cons.2 ⟨env_cm hp rfl,?_⟩⟩
                      ((repeat'(refine List.forall_mem_cons.2 ⟨⟨rfl,?_⟩,?_⟩;(first|exact scT_g rfl|exact⟨by decide,rfl⟩|exact⟨by decide,fun h=>(by cases h)⟩)));exact fun _ h=>(by cases h))
                     ·exfalso;simp [cfgS,std,fitsK,qh] at q9;omega
                    ·have q8:ltD D (atI l ((a.toNat+b.toNat) / 2+m.toNat - 1 - (i+j) / 2)) (atI l ((i+j) / 2))=true:=by have q8:(!(ltD D (atI l ((a.toNat+b.toNat) / 2+m.toNat - 1 - (i+j) / 2)) (atI l ((i+j) / 2))))=false:=q8;simpa using q8
                     (conv=>whnf)
                     refine⟨(i+j) / 2 - i,by omega,?_⟩
                     refine Into_fr (e0:=e266e l.length c a m b ((a+b).tdiv 2) ((a+b).tdiv 2+m) ((a+b).tdiv 2+m - 1) x ((x+y).tdiv 2) p) (o0:=.cells true false 1 (flat elI.fl l)) (n0:=nx') hF ⟨i,(i+j) / 2,k',_,_,hx,qh,hi0,by omega,by omega,by omega,rfl,by rw [hbs,if_pos (by simp [q8])],rfl,rfl,rfl⟩ ?_ (ObjRen_g (flat_g _ _)) (Nat.le_refl _)
                     unfold e266e
                     refine List.forall_mem_cons.2 ⟨env_sl hF.1 rfl,List.forall_mem_cons.2 ⟨env_cm hp rfl,?_⟩⟩
                     ((repeat'(refine List.forall_mem_cons.2 ⟨⟨rfl,?_⟩,?_⟩;(first|exact scT_g rfl|exact⟨by decide,rfl⟩|exact⟨by decide,fun h=>(by cases h)⟩)));exact fun _ h=>(by cases h))
                   ·exfalso
                    have q7:ok209 D (atI l (((a.toNat+b.toNat) / 2+m.toNat - 1 - (i+j) / 2))) (atI l ((i+j) / 2))=false:=q7
                    rw [okc _ _ (by omega) (by omega)] at q7
                    cases q7
                  ·exfalso;simp [cfgS,std,hM,qh] at q6;omega
                 ·exfalso;simp [cfgS,std,hM,qh] at q5;omega
                ·exfalso;simp [cfgS,std,hM,fitsK,qh] at q4;omega
               ·exfalso;simp [cfgS,std] at q3;omega
              ·exfalso;simp [cfgS,std,fitsK] at q2;omega
             ·exfalso;simp [cfgS,std,fitsK] at q1;omega
            ·have h1:i=j:=by simp [cfgS,std] at h1;omega
             subst h1
             rw [bsG_end] at hbs
             skip
             have hst:stM D l a.toNat m.toNat b.toNat=i:=by unfold stM;simp only [if_neg hc];exact hbs
             have low:=stM_low (D:=D) (L:=l) (a:=a.toNat) (m:=m.toNat) (b:=b.toNat) (by omega) (by omega)
             clear hbs hk hj hi0 hc g8
             obtain⟨A,eA⟩:∃ A,a.toNat=A:=⟨_,rfl⟩
             obtain⟨Q,eQ⟩:∃ Q,m.toNat=Q:=⟨_,rfl⟩
             obtain⟨B,eB⟩:∃ B,b.toNat=B:=⟨_,rfl⟩
             obtain⟨W,eW⟩:∃ W,(A+B) / 2=W:=⟨_,rfl⟩
             rw [eA,eQ,eB] at hst
             rw [eA,eQ,eB] at low
             rw [hst,eW] at low
             rw [eA,eB,eW] at hM
             have zA:a=A:=by omega
             have zQ:m=Q:=by omega
             have zB:b=B:=by omega
             have uA:∀ _:Unit,a.toNat=A:=fun _=>eA
             have uQ:∀ _:Unit,m.toNat=Q:=fun _=>eQ
             have uB:∀ _:Unit,b.toNat=B:=fun _=>eB
             have uW:∀ _:Unit,(A+B) / 2=W:=fun _=>eW
             have zW:A+1≤W∧W+1≤B:=by omega
             clear eA eQ eB eW
             have u1:∀ _:Unit,x.toNat=i:=fun _=>by omega
             have u2:∀ _:Unit,((a+b).tdiv 2).toNat=W:=fun _=>by rw [hM];omega
             have u3:∀ _:Unit,(m - x).toNat=Q - i:=fun _=>by omega
             have u4:∀ _:Unit,(((a+b).tdiv 2)+m - x).toNat=(W+Q - i):=fun _=>by rw [hM];omega
             have u5:∀ _:Unit,((((a+b).tdiv 2)+m - x) - m).toNat=(W+Q - i) - Q:=fun _=>by rw [hM];omega
             ((conv=>whnf);refine bm (fun s1=>?_) (fun s1=>?_));rotate_left;(exfalso;simp [cfgS,std,fitsK,hM] at s1;omega)
             have n1:¬ Q - A=1:=by omega
             have n2:¬ B - Q=1:=by omega
             ((conv=>whnf);refine bm (fun s2=>?_) (fun s2=>?_))
             ·((conv=>whnf);refine bm (fun s3=>?_) (fun s3=>?_))
              ·skip
               have s2:x<m:=by simpa [cfgS,std,hM] using s2
               have s3:m<((W:Int)+m - x):=by simpa [cfgS,std,hM] using s3
               have c1:i<Q∧Q<(W+Q - i):=by omega
               (conv=>whnf)
               refine⟨0,c,[iv x,iv m,iv (((a+b).tdiv 2)+m - x)],p,l,D,rfl,rfl,AllC_cons hC,DirAt_rem hF hD,?_⟩
               ((conv=>whnf);refine bm (fun t=>?_) (fun t=>?_))
               ·have sw1:Sw l (rotG m.toNat ((m - x).toNat+((((a+b).tdiv 2)+m - x) - m).toNat) l (m - x).toNat ((((a+b).tdiv 2)+m - x) - m).toNat):=Sw_rot _ _ _ _ _ (by simp only [uA (),uQ (),uB (),u1 (),u2 (),u3 (),u4 (),u5 ()];omega) (by simp only [uA (),uQ (),uB (),u1 (),u2 (),u3 (),u4 (),u5 ()];omega)
                ((conv=>whnf);refine bm (fun s4=>?_) (fun s4=>?_))
                ·((conv=>whnf);refine bm (fun s5=>?_) (fun s5=>?_))
                 ·skip
                  have s4:a<x:=by simpa [cfgS,std,hM] using s4
                  have s5:x<(W:Int):=by simpa [cfgS,std,hM] using s5
                  have c2:A<i∧i<W:=by omega
                  (conv=>whnf)
                  refine⟨0,c,[iv a,iv x,iv ((a+b).tdiv 2)],p,rotG m.toNat ((m - x).toNat+((((a+b).tdiv 2)+m - x) - m).toNat) l (m - x).toNat ((((a+b).tdiv 2)+m - x) - m).toNat,D,by rw [(sw1).len];rfl,rfl,AllC_cons hC,DirAt_rem hF hD,?_⟩
                  ((conv=>whnf);refine bm (fun t=>?_) (fun t=>?_))
                  ·skip
                   have sw2:Sw l (symM D n (rotG m.toNat ((m - x).toNat+((((a+b).tdiv 2)+m - x) - m).toNat) l (m - x).toNat ((((a+b).tdiv 2)+m - x) - m).toNat) a.toNat x.toNat ((a+b).tdiv 2).toNat):=(sw1).trans (Sw_sym D n _ _ _ _ (by simp only [uA (),uQ (),uB (),u1 (),u2 (),u3 (),u4 (),u5 ()];omega) (by simp only [uA (),uQ (),uB (),u1 (),u2 (),u3 (),u4 (),u5 ()];omega) (by rw [(sw1).len];simp only [uA (),uQ (),uB (),u1 (),u2 (),u3 (),u4 (),u5 ()];omega))
                   ((conv=>whnf);refine bm (fun s6=>?_) (fun s6=>?_))
                   ·((conv=>whnf);refine bm (fun s7=>?_) (fun s7=>?_))
                    ·skip
                     have s6:(W:Int)<((W:Int)+m - x):=by simpa [cfgS,std,hM] using s6
                     have s7:((W:Int)+m - x)<b:=by simpa [cfgS,std,hM] using s7
                     have c3:W<(W+Q - i)∧(W+Q - i)<B:=by omega
                     (conv=>whnf)
                     refine⟨0,c,[iv ((a+b).tdiv 2),iv (((a+b).tdiv 2)+m - x),iv b],p,symM D n (rotG m.toNat ((m - x).toNat+((((a+b).tdiv 2)+m - x) - m).toNat) l (m - x).toNat ((((a+b).tdiv 2)+m - x) - m).toNat) a.toNat x.toNat ((a+b).tdiv 2).toNat,D,by rw [(sw2).len];rfl,rfl,AllC_cons hC,DirAt_rem hF hD,?_⟩
                     ((conv=>whnf);refine bm (fun t=>?_) (fun t=>?_))
                     ·skip
                      (conv=>whnf)
                      refine⟨rfl,?_⟩
                      show (0,AObj.cells true false 1 (flat elI.fl (symM D n (symM D n (rotG m.toNat ((m - x).toNat+((((a+b).tdiv 2)+m - x) - m).toNat) l (m - x).toNat ((((a+b).tdiv 2)+m - x) - m).toNat) a.toNat x.toNat ((a+b).tdiv 2).toNat) ((a+b).tdiv 2).toNat (((a+b).tdiv 2)+m - x).toNat b.toNat)))::F=_
                      rw [symM]
                      simp only [hst,uA (),uQ (),uB (),u1 (),u2 (),u3 (),u4 (),u5 (),uW (),if_neg n1,if_neg n2,if_pos c1,if_pos c2,if_pos c3]
                     ·exfalso
                      have t:(decide (0≤((a+b).tdiv 2))&&decide (((a+b).tdiv 2)<(((a+b).tdiv 2)+m - x))&&decide ((((a+b).tdiv 2)+m - x)<b)&&decide (b≤(symM D n (rotG m.toNat ((m - x).toNat+((((a+b).tdiv 2)+m - x) - m).toNat) l (m - x).toNat ((((a+b).tdiv 2)+m - x) - m).toNat) a.toNat x.toNat ((a+b).tdiv 2).toNat).length)&&decide (b - ((a+b).tdiv 2)≤n)&&decide ((symM D n (rotG m.toNat ((m - x).toNat+((((a+b).tdiv 2)+m - x) - m).toNat) l (m - x).toNat ((((a+b).tdiv 2)+m - x) - m).toNat) a.toNat x.toNat ((a+b).tdiv 2).toNat).length≤1000000)&&inR D (symM D n (rotG m.toNat ((m - x).toNat+((((a+b).tdiv 2)+m - x) - m).toNat) l (m - x).toNat ((((a+b).tdiv 2)+m - x) - m).toNat) a.toNat x.toNat ((a+b).tdiv 2).toNat)&&allW D)=false:=t
                      rw [hW,(sw2).inR hin,(sw2).len] at t
                      simp [hM] at t
                      omega
                    ·skip
                     have s7:¬ ((W:Int)+m - x)<b:=by simpa [cfgS,std,hM] using s7
                     have c3:¬ (W<(W+Q - i)∧(W+Q - i)<B):=by omega
                     (conv=>whnf)
                     refine⟨rfl,?_⟩
                     show (0,AObj.cells true false 1 (flat elI.fl (symM D n (rotG m.toNat ((m - x).toNat+((((a+b).tdiv 2)+m - x) - m).toNat) l (m - x).toNat ((((a+b).tdiv 2)+m - x) - m).toNat) a.toNat x.toNat ((a+b).tdiv 2).toNat)))::F=_
                     rw [symM]
                     simp only [hst,uA (),uQ (),uB (),u1 (),u2 (),u3 (),u4 (),u5 (),uW (),if_neg n1,if_neg n2,if_pos c1,if_pos c2,if_neg c3]
                   ·skip
                    have s6:¬ (W:Int)<((W:Int)+m - x):=by simpa [cfgS,std,hM] using s6
                    have c3:¬ (W<(W+Q - i)∧(W+Q - i)<B):=by omega
                    (conv=>whnf)
                    refine⟨rfl,?_⟩
                    show (0,AObj.cells true false 1 (flat elI.fl (symM D n (rotG m.toNat ((m - x).toNat+((((a+b).tdiv 2)+m - x) - m).toNat) l (m - x).toNat ((((a+b).tdiv 2)+m - x) - m).toNat) a.toNat x.toNat ((a+b).tdiv 2).toNat)))::F=_
                    rw [symM]
                    simp only [hst,uA (),uQ (),uB (),u1 (),u2 (),u3 (),u4 (),u5 (),uW (),if_neg n1,if_neg n2,if_pos c1,if_pos c2,if_neg c3]
                  ·exfalso
                   have t:(decide (0≤a)&&decide (a<x)&&decide (x<((a+b).tdiv 2))&&decide (((a+b).tdiv 2)≤(rotG m.toNat ((m - x).toNat+((((a+b).tdiv 2)+m - x) - m).toNat) l (m - x).toNat ((((a+b).tdiv 2)+m - x) - m).toNat).length)&&decide (((a+b).tdiv 2) - a≤n)&&decide ((rotG m.toNat ((m - x).toNat+((((a+b).tdiv 2)+m - x) - m).toNat) l (m - x).toNat ((((a+b).tdiv 2)+m - x) - m).toNat).length≤1000000)&&inR D (rotG m.toNat ((m - x).toNat+((((a+b).tdiv 2)+m - x) - m).toNat) l (m - x).toNat ((((a+b).tdiv 2)+m - x) - m).toNat)&&allW D)=false:=t
                   rw [hW,(sw1).inR hin,(sw1).len] at t
                   simp [hM] at t
                   omega
                 ·skip
                  have s5:¬ x<(W:Int):=by simpa [cfgS,std,hM] using s5
                  have c2:¬ (A<i∧i<W):=by omega
                  ((conv=>whnf);refine bm (fun s6=>?_) (fun s6=>?_))
                  ·((conv=>whnf);refine bm (fun s7=>?_) (fun s7=>?_))
                   ·skip
                    have s6:(W:Int)<((W:Int)+m - x):=by simpa [cfgS,std,hM] using s6
                    have s7:((W:Int)+m - x)<b:=by simpa [cfgS,std,hM] using s7
                    have c3:W<(W+Q - i)∧(W+Q - i)<B:=by omega
                    (conv=>whnf)
                    refine⟨0,c,[iv ((a+b).tdiv 2),iv (((a+b).tdiv 2)+m - x),iv b],p,rotG m.toNat ((m - x).toNat+((((a+b).tdiv 2)+m - x) - m).toNat) l (m - x).toNat ((((a+b).tdiv 2)+m - x) - m).toNat,D,by rw [(sw1).len];rfl,rfl,AllC_cons hC,DirAt_rem hF hD,?_⟩
                    ((conv=>whnf);refine bm (fun t=>?_) (fun t=>?_))
                    ·skip
                     (conv=>whnf)
                     refine⟨rfl,?_⟩
                     show (0,AObj.cells true false 1 (flat elI.fl (symM D n (rotG m.toNat ((m - x).toNat+((((a+b).tdiv 2)+m - x) - m).toNat) l (m - x).toNat ((((a+b).tdiv 2)+m - x) - m).toNat) ((a+b).tdiv 2).toNat (((a+b).tdiv 2)+m - x).toNat b.toNat)))::F=_
                     rw [symM]
                     simp only [hst,uA (),uQ (),uB (),u1 (),u2 (),u3 (),u4 (),u5 (),uW (),if_neg n1,if_neg n2,if_pos c1,if_neg c2,if_pos c3]
                    ·exfalso
                     have t:(decide (0≤((a+b).tdiv 2))&&decide (((a+b).tdiv 2)<(((a+b).tdiv 2)+m - x))&&decide ((((a+b).tdiv 2)+m - x)<b)&&decide (b≤(rotG m.toNat ((m - x).toNat+((((a+b).tdiv 2)+m - x) - m).toNat) l (m - x).toNat ((((a+b).tdiv 2)+m - x) - m).toNat).length)&&decide (b - ((a+b).tdiv 2)≤n)&&decide ((rotG m.toNat ((m - x).toNat+((((a+b).tdiv 2)+m - x) - m).toNat) l (m - x).toNat ((((a+b).tdiv 2)+m - x) - m).toNat).length≤1000000)&&inR D (rotG m.toNat ((m - x).toNat+((((a+b).tdiv 2)+m - x) - m).toNat) l (m - x).toNat ((((a+b).tdiv 2)+m - x) - m).toNat)&&allW D)=false:=t
                     rw [hW,(sw1).inR hin,(sw1).len] at t
                     simp [hM] at t
                     omega
                   ·skip
                    have s7:¬ ((W:Int)+m - x)<b:=by simpa [cfgS,std,hM] using s7
                    have c3:¬ (W<(W+Q - i)∧(W+Q - i)<B):=by omega
                    (conv=>whnf)
                    refine⟨rfl,?_⟩
                    show (0,AObj.cells true false 1 (flat elI.fl (rotG m.toNat ((m - x).toNat+((((a+b).tdiv 2)+m - x) - m).toNat) l (m - x).toNat ((((a+b).tdiv 2)+m - x) - m).toNat)))::F=_
                    rw [symM]
                    simp only [hst,uA (),uQ (),uB (),u1 (),u2 (),u3 (),u4 (),u5 (),uW (),if_neg n1,if_neg n2,if_pos c1,if_neg c2,if_neg c3]
                  ·skip
                   have s6:¬ (W:Int)<((W:Int)+m - x):=by simpa [cfgS,std,hM] using s6
                   have c3:¬ (W<(W+Q - i)∧(W+Q - i)<B):=by omega
                   (conv=>whnf)
                   refine⟨rfl,?_⟩
                   show (0,AObj.cells true false 1 (flat elI.fl (rotG m.toNat ((m - x).toNat+((((a+b).tdiv 2)+m - x) - m).toNat) l (m - x).toNat ((((a+b).tdiv 2)+m - x) - m).toNat)))::F=_
                   rw [symM]
                   simp only [hst,uA (),uQ (),uB (),u1 (),u2 (),u3 (),u4 (),u5 (),uW (),if_neg n1,if_neg n2,if_pos c1,if_neg c2,if_neg c3]
                ·skip
                 have s4:¬ a<x:=by simpa [cfgS,std,hM] using s4
                 have c2:¬ (A<i∧i<W):=by omega
                 ((conv=>whnf);refine bm (fun s6=>?_) (fun s6=>?_))
                 ·((conv=>whnf);refine bm (fun s7=>?_) (fun s7=>?_))
                  ·skip
                   have s6:(W:Int)<((W:Int)+m - x):=by simpa [cfgS,std,hM] using s6
                   have s7:((W:Int)+m - x)<b:=by simpa [cfgS,std,hM] using s7
                   have c3:W<(W+Q - i)∧(W+Q - i)<B:=by omega
                   (conv=>whnf)
                   refine⟨0,c,[iv ((a+b).tdiv 2),iv (((a+b).tdiv 2)+m - x),iv b],p,rotG m.toNat ((m - x).toNat+((((a+b).tdiv 2)+m - x) - m).toNat) l (m - x).toNat ((((a+b).tdiv 2)+m - x) - m).toNat,D,by rw [(sw1).len];rfl,rfl,AllC_cons hC,DirAt_rem hF hD,?_⟩
                   ((conv=>whnf);refine bm (fun t=>?_) (fun t=>?_))
                   ·skip
                    (conv=>whnf)
                    refine⟨rfl,?_⟩
                    show (0,AObj.cells true false 1 (flat elI.fl (symM D n (rotG m.toNat ((m - x).toNat+((((a+b).tdiv 2)+m - x) - m).toNat) l (m - x).toNat ((((a+b).tdiv 2)+m - x) - m).toNat) ((a+b).tdiv 2).toNat (((a+b).tdiv 2)+m - x).toNat b.toNat)))::F=_
                    rw [symM]
                    simp only [hst,uA (),uQ (),uB (),u1 (),u2 (),u3 (),u4 (),u5 (),uW (),if_neg n1,if_neg n2,if_pos c1,if_neg c2,if_pos c3]
                   ·exfalso
                    have t:(decide (0≤((a+b).tdiv 2))&&decide (((a+b).tdiv 2)<(((a+b).tdiv 2)+m - x))&&decide ((((a+b).tdiv 2)+m - x)<b)&&decide (b≤(rotG m.toNat ((m - x).toNat+((((a+b).tdiv 2)+m - x) - m).toNat) l (m - x).toNat ((((a+b).tdiv 2)+m - x) - m).toNat).length)&&decide (b - ((a+b).tdiv 2)≤n)&&decide ((rotG m.toNat ((m - x).toNat+((((a+b).tdiv 2)+m - x) - m).toNat) l (m - x).toNat ((((a+b).tdiv 2)+m - x) - m).toNat).length≤1000000)&&inR D (rotG m.toNat ((m - x).toNat+((((a+b).tdiv 2)+m - x) - m).toNat) l (m - x).toNat ((((a+b).tdiv 2)+m - x) - m).toNat)&&allW D)=false:=t
                    rw [hW,(sw1).inR hin,(sw1).len] at t
                    simp [hM] at t
                    omega
                  ·skip
                   have s7:¬ ((W:Int)+m - x)<b:=by simpa [cfgS,std,hM] using s7
                   have c3:¬ (W<(W+Q - i)∧(W+Q - i)<B):=by omega
                   (conv=>whnf)
                   refine⟨rfl,?_⟩
                   show (0,AObj.cells true false 1 (flat elI.fl (rotG m.toNat ((m - x).toNat+((((a+b).tdiv 2)+m - x) - m).toNat) l (m - x).toNat ((((a+b).tdiv 2)+m - x) - m).toNat)))::F=_
                   rw [symM]
                   simp only [hst,uA (),uQ (),uB (),u1 (),u2 (),u3 (),u4 (),u5 (),uW (),if_neg n1,if_neg n2,if_pos c1,if_neg c2,if_neg c3]
                 ·skip
                  have s6:¬ (W:Int)<((W:Int)+m - x):=by simpa [cfgS,std,hM] using s6
                  have c3:¬ (W<(W+Q - i)∧(W+Q - i)<B):=by omega
                  (conv=>whnf)
                  refine⟨rfl,?_⟩
                  show (0,AObj.cells true false 1 (flat elI.fl (rotG m.toNat ((m - x).toNat+((((a+b).tdiv 2)+m - x) - m).toNat) l (m - x).toNat ((((a+b).tdiv 2)+m - x) - m).toNat)))::F=_
                  rw [symM]
                  simp only [hst,uA (),uQ (),uB (),u1 (),u2 (),u3 (),u4 (),u5 (),uW (),if_neg n1,if_neg n2,if_pos c1,if_neg c2,if_neg c3]
               ·exfalso
                have t:(decide (0≤x)&&decide (x<m)&&decide (m<(((a+b).tdiv 2)+m - x))&&decide ((((a+b).tdiv 2)+m - x)≤l.length)&&decide (l.length≤1000000))=false:=t
                simp [hM] at t
                omega
              ·skip
               have s3:¬ m<((W:Int)+m - x):=by simpa [cfgS,std,hM] using s3
               have c1:¬ (i<Q∧Q<(W+Q - i)):=by omega
               ((conv=>whnf);refine bm (fun s4=>?_) (fun s4=>?_))
               ·((conv=>whnf);refine bm (fun s5=>?_) (fun s5=>?_))
                ·skip
                 have s4:a<x:=by simpa [cfgS,std,hM] using s4
                 have s5:x<(W:Int):=by simpa [cfgS,std,hM] using s5
                 have c2:A<i∧i<W:=by omega
                 (conv=>whnf)
                 refine⟨0,c,[iv a,iv x,iv ((a+b).tdiv 2)],p,l,D,by rw [((Sw.refl l)).len];rfl,rfl,AllC_cons hC,DirAt_rem hF hD,?_⟩
                 ((conv=>whnf);refine bm (fun t=>?_) (fun t=>?_))
                 ·skip
                  have sw2:Sw l (symM D n (l) a.toNat x.toNat ((a+b).tdiv 2).toNat):=((Sw.refl l)).trans (Sw_sym D n _ _ _ _ (by simp only [uA (),uQ (),uB (),u1 (),u2 (),u3 (),u4 (),u5 ()];omega) (by simp only [uA (),uQ (),uB (),u1 (),u2 (),u3 (),u4 (),u5 ()];omega) (by rw [((Sw.refl l)).len];simp only [uA (),uQ (),uB (),u1 (),u2 (),u3 (),u4 (),u5 ()];omega))
                  ((conv=>whnf);refine bm (fun s6=>?_) (fun s6=>?_))
                  ·((conv=>whnf);refine bm (fun s7=>?_) (fun s7=>?_))
                   ·skip
                    have s6:(W:Int)<((W:Int)+m - x):=by simpa [cfgS,std,hM] using s6
                    have s7:((W:Int)+m - x)<b:=by simpa [cfgS,std,hM] using s7
                    have c3:W<(W+Q - i)∧(W+Q - i)<B:=by omega
                    (conv=>whnf)
                    refine⟨0,c,[iv ((a+b).tdiv 2),iv (((a+b).tdiv 2)+m - x),iv b],p,symM D n (l) a.toNat x.toNat ((a+b).tdiv 2).toNat,D,by rw [(sw2).len];rfl,rfl,AllC_cons hC,DirAt_rem hF hD,?_⟩
                    ((conv=>whnf);refine bm (fun t=>?_) (fun t=>?_))
                    ·skip
                     (conv=>whnf)
                     refine⟨rfl,?_⟩
                     show (0,AObj.cells true false 1 (flat elI.fl (symM D n (symM D n (l) a.toNat x.toNat ((a+b).tdiv 2).toNat) ((a+b).tdiv 2).toNat (((a+b).tdiv 2)+m - x).toNat b.toNat)))::F=_
                     rw [symM]
                     simp only [hst,uA (),uQ (),uB (),u1 (),u2 (),u3 (),u4 (),u5 (),uW (),if_neg n1,if_neg n2,if_neg c1,if_pos c2,if_pos c3]
                    ·exfalso
                     have t:(decide (0≤((a+b).tdiv 2))&&decide (((a+b).tdiv 2)<(((a+b).tdiv 2)+m - x))&&decide ((((a+b).tdiv 2)+m - x)<b)&&decide (b≤(symM D n (l) a.toNat x.toNat ((a+b).tdiv 2).toNat).length)&&decide (b - ((a+b).tdiv 2)≤n)&&decide ((symM D n (l) a.toNat x.toNat ((a+b).tdiv 2).toNat).length≤1000000)&&inR D (symM D n (l) a.toNat x.toNat ((a+b).tdiv 2).toNat)&&allW D)=false:=t
                     rw [hW,(sw2).inR hin,(sw2).len] at t
                     simp [hM] at t
                     omega
                   ·skip
                    have s7:¬ ((W:Int)+m - x)<b:=by simpa [cfgS,std,hM] using s7
                    have c3:¬ (W<(W+Q - i)∧(W+Q - i)<B):=by omega
                    (conv=>whnf)
                    refine⟨rfl,?_⟩
                    show (0,AObj.cells true false 1 (flat elI.fl (symM D n (l) a.toNat x.toNat ((a+b).tdiv 2).toNat)))::F=_
                    rw [symM]
                    simp only [hst,uA (),uQ (),uB (),u1 (),u2 (),u3 (),u4 (),u5 (),uW (),if_neg n1,if_neg n2,if_neg c1,if_pos c2,if_neg c3]
                  ·skip
                   have s6:¬ (W:Int)<((W:Int)+m - x):=by simpa [cfgS,std,hM] using s6
                   have c3:¬ (W<(W+Q - i)∧(W+Q - i)<B):=by omega
                   (conv=>whnf)
                   refine⟨rfl,?_⟩
                   show (0,AObj.cells true false 1 (flat elI.fl (symM D n (l) a.toNat x.toNat ((a+b).tdiv 2).toNat)))::F=_
                   rw [symM]
                   simp only [hst,uA (),uQ (),uB (),u1 (),u2 (),u3 (),u4 (),u5 (),uW (),if_neg n1,if_neg n2,if_neg c1,if_pos c2,if_neg c3]
                 ·exfalso
                  have t:(decide (0≤a)&&decide (a<x)&&decide (x<((a+b).tdiv 2))&&decide (((a+b).tdiv 2)≤(l).length)&&decide (((a+b).tdiv 2) - a≤n)&&decide ((l).length≤1000000)&&inR D (l)&&allW D)=false:=t
                  rw [hW,((Sw.refl l)).inR hin,((Sw.refl l)).len] at t
                  simp [hM] at t
                  omega
                ·skip
                 have s5:¬ x<(W:Int):=by simpa [cfgS,std,hM] using s5
                 have c2:¬ (A<i∧i<W):=by omega
                 ((conv=>whnf);refine bm (fun s6=>?_) (fun s6=>?_))
                 ·((conv=>whnf);refine bm (fun s7=>?_) (fun s7=>?_))
                  ·skip
                   have s6:(W:Int)<((W:Int)+m - x):=by simpa [cfgS,std,hM] using s6
                   have s7:((W:Int)+m - x)<b:=by simpa [cfgS,std,hM] using s7
                   have c3:W<(W+Q - i)∧(W+Q - i)<B:=by omega
                   (conv=>whnf)
                   refine⟨0,c,[iv ((a+b).tdiv 2),iv (((a+b).tdiv 2)+m - x),iv b],p,l,D,by rw [((Sw.refl l)).len];rfl,rfl,AllC_cons hC,DirAt_rem hF hD,?_⟩
                   ((conv=>whnf);refine bm (fun t=>?_) (fun t=>?_))
                   ·skip
                    (conv=>whnf)
                    refine⟨rfl,?_⟩
                    show (0,AObj.cells true false 1 (flat elI.fl (symM D n (l) ((a+b).tdiv 2).toNat (((a+b).tdiv 2)+m - x).toNat b.toNat)))::F=_
                    rw [symM]
                    simp only [hst,uA (),uQ (),uB (),u1 (),u2 (),u3 (),u4 (),u5 (),uW (),if_neg n1,if_neg n2,if_neg c1,if_neg c2,if_pos c3]
                   ·exfalso
                    have t:(decide (0≤((a+b).tdiv 2))&&decide (((a+b).tdiv 2)<(((a+b).tdiv 2)+m - x))&&decide ((((a+b).tdiv 2)+m - x)<b)&&decide (b≤(l).length)&&decide (b - ((a+b).tdiv 2)≤n)&&decide ((l).length≤1000000)&&inR D (l)&&allW D)=false:=t
                    rw [hW,((Sw.refl l)).inR hin,((Sw.refl l)).len] at t
                    simp [hM] at t
                    omega
                  ·skip
                   have s7:¬ ((W:Int)+m - x)<b:=by simpa [cfgS,std,hM] using s7
                   have c3:¬ (W<(W+Q - i)∧(W+Q - i)<B):=by omega
                   (conv=>whnf)
                   refine⟨rfl,?_⟩
                   show (0,AObj.cells true false 1 (flat elI.fl (l)))::F=_
                   rw [symM]
                   simp only [hst,uA (),uQ (),uB (),u1 (),u2 (),u3 (),u4 (),u5 (),uW (),if_neg n1,if_neg n2,if_neg c1,if_neg c2,if_neg c3]
                 ·skip
                  have s6:¬ (W:Int)<((W:Int)+m - x):=by simpa [cfgS,std,hM] using s6
                  have c3:¬ (W<(W+Q - i)∧(W+Q - i)<B):=by omega
                  (conv=>whnf)
                  refine⟨rfl,?_⟩
                  show (0,AObj.cells true false 1 (flat elI.fl (l)))::F=_
                  rw [symM]
                  simp only [hst,uA (),uQ (),uB (),u1 (),u2 (),u3 (),u4 (),u5 (),uW (),if_neg n1,if_neg n2,if_neg c1,if_neg c2,if_neg c3]
               ·skip
                have s4:¬ a<x:=by simpa [cfgS,std,hM] using s4
                have c2:¬ (A<i∧i<W):=by omega
                ((conv=>whnf);refine bm (fun s6=>?_) (fun s6=>?_))
                ·((conv=>whnf);refine bm (fun s7=>?_) (fun s7=>?_))
                 ·skip
                  have s6:(W:Int)<((W:Int)+m - x):=by simpa [cfgS,std,hM] using s6
                  have s7:((W:Int)+m - x)<b:=by simpa [cfgS,std,hM] using s7
                  have c3:W<(W+Q - i)∧(W+Q - i)<B:=by omega
                  (conv=>whnf)
                  refine⟨0,c,[iv ((a+b).tdiv 2),iv (((a+b).tdiv 2)+m - x),iv b],p,l,D,by rw [((Sw.refl l)).len];rfl,rfl,AllC_cons hC,DirAt_rem hF hD,?_⟩
                  ((conv=>whnf);refine bm (fun t=>?_) (fun t=>?_))
                  ·skip
                   (conv=>whnf)
                   refine⟨rfl,?_⟩
                   show (0,AObj.cells true false 1 (flat elI.fl (symM D n (l) ((a+b).tdiv 2).toNat (((a+b).tdiv 2)+m - x).toNat b.toNat)))::F=_
                   rw [symM]
                   simp only [hst,uA (),uQ (),uB (),u1 (),u2 (),u3 (),u4 (),u5 (),uW (),if_neg n1,if_neg n2,if_neg c1,if_neg c2,if_pos c3]
                  ·exfalso
                   have t:(decide (0≤((a+b).tdiv 2))&&decide (((a+b).tdiv 2)<(((a+b).tdiv 2)+m - x))&&decide ((((a+b).tdiv 2)+m - x)<b)&&decide (b≤(l).length)&&decide (b - ((a+b).tdiv 2)≤n)&&decide ((l).length≤1000000)&&inR D (l)&&allW D)=false:=t
                   rw [hW,((Sw.refl l)).inR hin,((Sw.refl l)).len] at t
                   simp [hM] at t
                   omega
                 ·skip
                  have s7:¬ ((W:Int)+m - x)<b:=by simpa [cfgS,std,hM] using s7
                  have c3:¬ (W<(W+Q - i)∧(W+Q - i)<B):=by omega
                  (conv=>whnf)
                  refine⟨rfl,?_⟩
                  show (0,AObj.cells true false 1 (flat elI.fl (l)))::F=_
                  rw [symM]
                  simp only [hst,uA (),uQ (),uB (),u1 (),u2 (),u3 (),u4 (),u5 (),uW (),if_neg n1,if_neg n2,if_neg c1,if_neg c2,if_neg c3]
                ·skip
                 have s6:¬ (W:Int)<((W:Int)+m - x):=by simpa [cfgS,std,hM] using s6
                 have c3:¬ (W<(W+Q - i)∧(W+Q - i)<B):=by omega
                 (conv=>whnf)
                 refine⟨rfl,?_⟩
                 show (0,AObj.cells true false 1 (flat elI.fl (l)))::F=_
                 rw [symM]
                 simp only [hst,uA (),uQ (),uB (),u1 (),u2 (),u3 (),u4 (),u5 (),uW (),if_neg n1,if_neg n2,if_neg c1,if_neg c2,if_neg c3]
             ·skip
              have s2:¬ x<m:=by simpa [cfgS,std,hM] using s2
              have c1:¬ (i<Q∧Q<(W+Q - i)):=by omega
              ((conv=>whnf);refine bm (fun s4=>?_) (fun s4=>?_))
              ·((conv=>whnf);refine bm (fun s5=>?_) (fun s5=>?_))
               ·skip
                have s4:a<x:=by simpa [cfgS,std,hM] using s4
                have s5:x<(W:Int):=by simpa [cfgS,std,hM] using s5
                have c2:A<i∧i<W:=by omega
                (conv=>whnf)
                refine⟨0,c,[iv a,iv x,iv ((a+b).tdiv 2)],p,l,D,by rw [((Sw.refl l)).len];rfl,rfl,AllC_cons hC,DirAt_rem hF hD,?_⟩
                ((conv=>whnf);refine bm (fun t=>?_) (fun t=>?_))
                ·skip
                 have sw2:Sw l (symM D n (l) a.toNat x.toNat ((a+b).tdiv 2).toNat):=((Sw.refl l)).trans (Sw_sym D n _ _ _ _ (by simp only [uA (),uQ (),uB (),u1 (),u2 (),u3 (),u4 (),u5 ()];omega) (by simp only [uA (),uQ (),uB (),u1 (),u2 (),u3 (),u4 (),u5 ()];omega) (by rw [((Sw.refl l)).len];simp only [uA (),uQ (),uB (),u1 (),u2 (),u3 (),u4 (),u5 ()];omega))
                 ((conv=>whnf);refine bm (fun s6=>?_) (fun s6=>?_))
                 ·((conv=>whnf);refine bm (fun s7=>?_) (fun s7=>?_))
                  ·skip
                   have s6:(W:Int)<((W:Int)+m - x):=by simpa [cfgS,std,hM] using s6
                   have s7:((W:Int)+m - x)<b:=by simpa [cfgS,std,hM] using s7
                   have c3:W<(W+Q - i)∧(W+Q - i)<B:=by omega
                   (conv=>whnf)
                   refine⟨0,c,[iv ((a+b).tdiv 2),iv (((a+b).tdiv 2)+m - x),iv b],p,symM D n (l) a.toNat x.toNat ((a+b).tdiv 2).toNat,D,by rw [(sw2).len];rfl,rfl,AllC_cons hC,DirAt_rem hF hD,?_⟩
                   ((conv=>whnf);refine bm (fun t=>?_) (fun t=>?_))
                   ·skip
                    (conv=>whnf)
                    refine⟨rfl,?_⟩
                    show (0,AObj.cells true false 1 (flat elI.fl (symM D n (symM D n (l) a.toNat x.toNat ((a+b).tdiv 2).toNat) ((a+b).tdiv 2).toNat (((a+b).tdiv 2)+m - x).toNat b.toNat)))::F=_
                    rw [symM]
                    simp only [hst,uA (),uQ (),uB (),u1 (),u2 (),u3 (),u4 (),u5 (),uW (),if_neg n1,if_neg n2,if_neg c1,if_pos c2,if_pos c3]
                   ·exfalso
                    have t:(decide (0≤((a+b).tdiv 2))&&decide (((a+b).tdiv 2)<(((a+b).tdiv 2)+m - x))&&decide ((((a+b).tdiv 2)+m - x)<b)&&decide (b≤(symM D n (l) a.toNat x.toNat ((a+b).tdiv 2).toNat).length)&&decide (b - ((a+b).tdiv 2)≤n)&&decide ((symM D n (l) a.toNat x.toNat ((a+b).tdiv 2).toNat).length≤1000000)&&inR D (symM D n (l) a.toNat x.toNat ((a+b).tdiv 2).toNat)&&allW D)=false:=t
                    rw [hW,(sw2).inR hin,(sw2).len] at t
                    simp [hM] at t
                    omega
                  ·skip
                   have s7:¬ ((W:Int)+m - x)<b:=by simpa [cfgS,std,hM] using s7
                   have c3:¬ (W<(W+Q - i)∧(W+Q - i)<B):=by omega
                   (conv=>whnf)
                   refine⟨rfl,?_⟩
                   show (0,AObj.cells true false 1 (flat elI.fl (symM D n (l) a.toNat x.toNat ((a+b).tdiv 2).toNat)))::F=_
                   rw [symM]
                   simp only [hst,uA (),uQ (),uB (),u1 (),u2 (),u3 (),u4 (),u5 (),uW (),if_neg n1,if_neg n2,if_neg c1,if_pos c2,if_neg c3]
                 ·skip
                  have s6:¬ (W:Int)<((W:Int)+m - x):=by simpa [cfgS,std,hM] using s6
                  have c3:¬ (W<(W+Q - i)∧(W+Q - i)<B):=by omega
                  (conv=>whnf)
                  refine⟨rfl,?_⟩
                  show (0,AObj.cells true false 1 (flat elI.fl (symM D n (l) a.toNat x.toNat ((a+b).tdiv 2).toNat)))::F=_
                  rw [symM]
                  simp only [hst,uA (),uQ (),uB (),u1 (),u2 (),u3 (),u4 (),u5 (),uW (),if_neg n1,if_neg n2,if_neg c1,if_pos c2,if_neg c3]
                ·exfalso
                 have t:(decide (0≤a)&&decide (a<x)&&decide (x<((a+b).tdiv 2))&&decide (((a+b).tdiv 2)≤(l).length)&&decide (((a+b).tdiv 2) - a≤n)&&decide ((l).length≤1000000)&&inR D (l)&&allW D)=false:=t
                 rw [hW,((Sw.refl l)).inR hin,((Sw.refl l)).len] at t
                 simp [hM] at t
                 omega
               ·skip
                have s5:¬ x<(W:Int):=by simpa [cfgS,std,hM] using s5
                have c2:¬ (A<i∧i<W):=by omega
                ((conv=>whnf);refine bm (fun s6=>?_) (fun s6=>?_))
                ·((conv=>whnf);refine bm (fun s7=>?_) (fun s7=>?_))
                 ·skip
                  have s6:(W:Int)<((W:Int)+m - x):=by simpa [cfgS,std,hM] using s6
                  have s7:((W:Int)+m - x)<b:=by simpa [cfgS,std,hM] using s7
                  have c3:W<(W+Q - i)∧(W+Q - i)<B:=by omega
                  (conv=>whnf)
                  refine⟨0,c,[iv ((a+b).tdiv 2),iv (((a+b).tdiv 2)+m - x),iv b],p,l,D,by rw [((Sw.refl l)).len];rfl,rfl,AllC_cons hC,DirAt_rem hF hD,?_⟩
                  ((conv=>whnf);refine bm (fun t=>?_) (fun t=>?_))
                  ·skip
                   (conv=>whnf)
                   refine⟨rfl,?_⟩
                   show (0,AObj.cells true false 1 (flat elI.fl (symM D n (l) ((a+b).tdiv 2).toNat (((a+b).tdiv 2)+m - x).toNat b.toNat)))::F=_
                   rw [symM]
                   simp only [hst,uA (),uQ (),uB (),u1 (),u2 (),u3 (),u4 (),u5 (),uW (),if_neg n1,if_neg n2,if_neg c1,if_neg c2,if_pos c3]
                  ·exfalso
                   have t:(decide (0≤((a+b).tdiv 2))&&decide (((a+b).tdiv 2)<(((a+b).tdiv 2)+m - x))&&decide ((((a+b).tdiv 2)+m - x)<b)&&decide (b≤(l).length)&&decide (b - ((a+b).tdiv 2)≤n)&&decide ((l).length≤1000000)&&inR D (l)&&allW D)=false:=t
                   rw [hW,((Sw.refl l)).inR hin,((Sw.refl l)).len] at t
                   simp [hM] at t
                   omega
                 ·skip
                  have s7:¬ ((W:Int)+m - x)<b:=by simpa [cfgS,std,hM] using s7
                  have c3:¬ (W<(W+Q - i)∧(W+Q - i)<B):=by omega
                  (conv=>whnf)
                  refine⟨rfl,?_⟩
                  show (0,AObj.cells true false 1 (flat elI.fl (l)))::F=_
                  rw [symM]
                  simp only [hst,uA (),uQ (),uB (),u1 (),u2 (),u3 (),u4 (),u5 (),uW (),if_neg n1,if_neg n2,if_neg c1,if_neg c2,if_neg c3]
                ·skip
                 have s6:¬ (W:Int)<((W:Int)+m - x):=by simpa [cfgS,std,hM] using s6
                 have c3:¬ (W<(W+Q - i)∧(W+Q - i)<B):=by omega
                 (conv=>whnf)
                 refine⟨rfl,?_⟩
                 show (0,AObj.cells true false 1 (flat elI.fl (l)))::F=_
                 rw [symM]
                 simp only [hst,uA (),uQ (),uB (),u1 (),u2 (),u3 (),u4 (),u5 (),uW (),if_neg n1,if_neg n2,if_neg c1,if_neg c2,if_neg c3]
              ·skip
               have s4:¬ a<x:=by simpa [cfgS,std,hM] using s4
               have c2:¬ (A<i∧i<W):=by omega
               ((conv=>whnf);refine bm (fun s6=>?_) (fun s6=>?_))
               ·((conv=>whnf);refine bm (fun s7=>?_) (fun s7=>?_))
                ·skip
                 have s6:(W:Int)<((W:Int)+m - x):=by simpa [cfgS,std,hM] using s6
                 have s7:((W:Int)+m - x)<b:=by simpa [cfgS,std,hM] using s7
                 have c3:W<(W+Q - i)∧(W+Q - i)<B:=by omega
                 (conv=>whnf)
                 refine⟨0,c,[iv ((a+b).tdiv 2),iv (((a+b).tdiv 2)+m - x),iv b],p,l,D,by rw [((Sw.refl l)).len];rfl,rfl,AllC_cons hC,DirAt_rem hF hD,?_⟩
                 ((conv=>whnf);refine bm (fun t=>?_) (fun t=>?_))
                 ·skip
                  (conv=>whnf)
                  refine⟨rfl,?_⟩
                  show (0,AObj.cells true false 1 (flat elI.fl (symM D n (l) ((a+b).tdiv 2).toNat (((a+b).tdiv 2)+m - x).toNat b.toNat)))::F=_
                  rw [symM]
                  simp only [hst,uA (),uQ (),uB (),u1 (),u2 (),u3 (),u4 (),u5 (),uW (),if_neg n1,if_neg n2,if_neg c1,if_neg c2,if_pos c3]
                 ·exfalso
                  have t:(decide (0≤((a+b).tdiv 2))&&decide (((a+b).tdiv 2)<(((a+b).tdiv 2)+m - x))&&decide ((((a+b).tdiv 2)+m - x)<b)&&decide (b≤(l).length)&&decide (b - ((a+b).tdiv 2)≤n)&&decide ((l).length≤1000000)&&inR D (l)&&allW D)=false:=t
                  rw [hW,((Sw.refl l)).inR hin,((Sw.refl l)).len] at t
                  simp [hM] at t
                  omega
                ·skip
                 have s7:¬ ((W:Int)+m - x)<b:=by simpa [cfgS,std,hM] using s7
                 have c3:¬ (W<(W+Q - i)∧(W+Q - i)<B):=by omega
                 (conv=>whnf)
                 refine⟨rfl,?_⟩
                 show (0,AObj.cells true false 1 (flat elI.fl (l)))::F=_
                 rw [symM]
                 simp only [hst,uA (),uQ (),uB (),u1 (),u2 (),u3 (),u4 (),u5 (),uW (),if_neg n1,if_neg n2,if_neg c1,if_neg c2,if_neg c3]
               ·skip
                have s6:¬ (W:Int)<((W:Int)+m - x):=by simpa [cfgS,std,hM] using s6
                have c3:¬ (W<(W+Q - i)∧(W+Q - i)<B):=by omega
                (conv=>whnf)
                refine⟨rfl,?_⟩
                show (0,AObj.cells true false 1 (flat elI.fl (l)))::F=_
                rw [symM]
                simp only [hst,uA (),uQ (),uB (),u1 (),u2 (),u3 (),u4 (),u5 (),uW (),if_neg n1,if_neg n2,if_neg c1,if_neg c2,if_neg c3]
          ·exfalso;simp [cfgS,std,fitsK,hM] at g10;omega
        ·exfalso;simp [cfgS,std,fitsK,hM] at g7;omega
       ·exfalso;simp [cfgS,std,fitsK,hM] at g6;omega
      ·exfalso;simp [cfgS,std,fitsK] at g5;omega
    ·exfalso;simp [cfgS,std,fitsK] at g3;omega
  ·exfalso;simp [cfgS,std,fitsK] at g1;omega
end Go.Aw
end
