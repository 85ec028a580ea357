/-
  Parts of a proof. No condition.
-/
import Derived.Test.YtjahkcbdecgbhaaGreatQAx
set_option linter.unusedSimpArgs false
set_option linter.unusedVariables false
noncomputable section
namespace Go.Aw
set_option maxRecDepth 100000
set_option maxHeartbeats 4000000
def aCQ (n:Nat)(D:List Dt)(l:List Int)(r:List Value)(c:Nat):Option (Bool × List Int):=match r with
 |[.int .i64 a,.int .i64 m,.int .i64 b]=>some (decide (0≤a)&&decide (a<m)&&decide (m<b)&&decide (b≤l.length)&&decide (b - a≤n)&&decide (l.length≤1000000)&&fH D l&&fW D,aU D n l a.toNat m.toNat b.toNat)
 |_=>none
theorem Q3 {n:Nat}{D:List Dt}{l:List Int}{r:List Value}{c:Nat}{l':List Int}(h:aCQ n D l r c=some (true,l')):∃ a m b:Int,r=[iv a,iv m,iv b]∧0≤a∧a<m∧m<b∧b≤l.length∧b - a≤n∧l.length≤1000000∧fH D l=true∧fW D=true∧l'=aU D n l a.toNat m.toNat b.toNat:=by
 unfold aCQ at h;split at h
 ·rename_i a m b;injection h with h;injection h with h1 h2;simp only [Bool.and_eq_true,decide_eq_true_eq] at h1;obtain⟨⟨⟨⟨⟨⟨⟨p1,p2⟩,p3⟩,p4⟩,p5⟩,p6⟩,p7⟩,p8⟩:=h1;exact⟨a,m,b,rfl,p1,p2,p3,p4,p5,p6,p7,p8,h2.symm⟩
 ·cases h
theorem VV {f:Nat→Bool}{k i j:Nat}(h:i<j):wQ f (k+1) i j=if f ((i+j) / 2)=true then wQ f k i ((i+j) / 2) else wQ f k ((i+j) / 2+1) j:=by
 conv=>lhs;unfold wQ
 rw [if_pos h]
def CO (N c:Nat)(a i j:Int)(p:Nat):List (Nat × Value):=[(0,.slice (some ⟨0,0,none⟩) N c),(4,mJ p),(1,iv a),(10,iv i),(11,iv j)]
def KB (N c:Nat)(i k:Int):List (Nat × Value):=[(0,.slice (some ⟨0,0,none⟩) N c),(10,iv i),(13,iv k)]
def CH (N c:Nat)(m i j:Int)(p:Nat):List (Nat × Value):=[(0,.slice (some ⟨0,0,none⟩) N c),(4,mJ p),(2,iv m),(14,iv i),(15,iv j)]
def JU (N c:Nat)(i k:Int):List (Nat × Value):=[(0,.slice (some ⟨0,0,none⟩) N c),(14,iv i),(17,iv k)]
def mS (N c:Nat)(a m b mid nn p1 i j:Int)(p:Nat):List (Nat × Value):=[(0,.slice (some ⟨0,0,none⟩) N c),(4,mJ p),(1,iv a),(2,iv m),(3,iv b),(18,iv mid),(19,iv nn),(22,iv p1),(20,iv i),(21,iv j)]
theorem aG8:∀ n,cH Go.Proofs.Tryz.prog 266 (RH (aCQ n))
 |0=>sT (aL (xl:=[]) .nil) fun D l r c l' hs=>by
  obtain⟨a,m,b,rfl,ha,ham,hmb,hb,hn,_⟩:=Q3 hs;omega
 |n+1=>sT (aL (xl:=[aBd,(266,RH (aCQ n)),VD]) (.cons aJS (.cons (aG8 n) (.cons aFQ .nil)))) fun D l r c l' hs=>by
  obtain⟨a,m,b,rfl,ha,ham,hmb,hb,hn,hl,hin,hW,rfl⟩:=Q3 hs;clear hs;refine⟨rfl,fun F nx p hF hC hD=>?_⟩;have hp:=yV hF hD;have hl1:(flat aN.fl l).length=l.length:=(by rw [bD];exact Nat.mul_one _);have okc:∀ x y:Nat,x<l.length→y<l.length→tP D (aK l x) (aK l y)=true:=fun x y hx hy=>by
   have i1:=jV hin hx;have i2:=jV hin hy;rw [tP,hW,decide_eq_true i1.1,decide_eq_true i1.2,decide_eq_true i2.1,decide_eq_true i2.2];rfl
  ((conv=>whnf);refine bm (fun g1=>?_) (fun g1=>?_))
  ·((conv=>whnf);refine bm (fun g2=>?_) (fun g2=>?_))
   ·have g2:m - a=1:=(by simpa [aA,aB] using g2);(conv=>whnf);refine⟨fun q e h nx'=>∃ (i j k:Nat) (x y:Int),x=i∧y=j∧m.toNat≤i∧i≤j∧j≤b.toNat∧j - i≤k∧q=j - i∧wQ (fun h=>!(jW D (aK l h) (aK l a.toNat))) (b.toNat - m.toNat) m.toNat b.toNat=wQ (fun h=>!(jW D (aK l h) (aK l a.toNat))) k i j∧e=CO l.length c a x y p∧h=(0,.cells true false 1 (flat aN.fl l))::F∧nx'=nx,⟨b.toNat - m.toNat,?_⟩,?_⟩
    ·refine bL (e0:=CO l.length c a m b p) (o0:=.cells true false 1 (flat aN.fl l)) (n0:=nx) hF ⟨m.toNat,b.toNat,_,_,_,by omega,by omega,Nat.le_refl _,by omega,Nat.le_refl _,Nat.le_refl _,rfl,rfl,rfl,rfl,rfl⟩ ?_ (aO (aG _ _)) (Nat.le_refl _);unfold CO;refine List.forall_mem_cons.2 ⟨cV hF.1 rfl,List.forall_mem_cons.2 ⟨dP hp rfl,?_⟩⟩;((repeat' refine iE rfl rfl ?_);exact iN)
    ·rintro q e h nx' ⟨i,j,k,x,y,hx,hy,hi0,hij,hj,hk,rfl,hbs,rfl,rfl,rfl⟩;unfold CO;((conv=>whnf);refine bm (fun h1=>?_) (fun h1=>?_))
     ·have h1:i<j:=(by simp [aA,aB] at h1;omega);obtain⟨k',rfl⟩:∃ k',k=k'+1:=⟨k - 1,by omega⟩;rw [VV h1] at hbs;have qh:(x+y).tdiv 2=(((i+j) / 2:Nat):Int):=(by rw [Int.tdiv_eq_ediv_of_nonneg (by omega)];omega);((conv=>whnf);refine bm (fun q1=>?_) (fun q1=>?_))
      ·((conv=>whnf);refine bm (fun q2=>?_) (fun q2=>?_))
       ·((conv=>whnf);refine bm (fun q3=>?_) (fun q3=>?_))
        ·((conv=>whnf);refine bm (fun q4=>?_) (fun q4=>?_))
         ·((conv=>whnf);refine bm (fun q5=>?_) (fun q5=>?_))
          ·(conv=>whnf);refine gI (eK l (i:=(i+j) / 2) (by omega) ?_) ?_
           ·show _+Int.toNat ((x+y).tdiv 2)*1=_;rw [qh];omega
           ((conv=>whnf);refine bm (fun q6=>?_) (fun q6=>?_))
           ·(conv=>whnf);refine gI (eK l (i:=a.toNat) (by omega) ?_) ?_
            ·show _+Int.toNat (a)*1=_;omega
            (conv=>whnf);refine⟨aK l ((i+j) / 2),aK l (a.toNat),p,D,rfl,AM hF hD,?_⟩;((conv=>whnf);refine bm (fun q7=>?_) (fun q7=>?_))
            ·((conv=>whnf);refine bm (fun q8=>?_) (fun q8=>?_))
             ·have q8:jW D (aK l ((i+j) / 2)) (aK l (a.toNat))=true:=q8;((conv=>whnf);refine bm (fun q9=>?_) (fun q9=>?_))
              ·(conv=>whnf);refine⟨j - ((i+j) / 2+1),by omega,?_⟩;refine bL (e0:=CO l.length c a ((x+y).tdiv 2+1) y p) (o0:=.cells true false 1 (flat aN.fl l)) (n0:=nx') hF ⟨(i+j) / 2+1,j,k',_,_,by rw [qh];omega,hy,by omega,by omega,by omega,by omega,rfl,by rw [hbs,if_neg (by simp [q8])],rfl,rfl,rfl⟩ ?_ (aO (aG _ _)) (Nat.le_refl _);unfold CO;refine List.forall_mem_cons.2 ⟨cV hF.1 rfl,List.forall_mem_cons.2 ⟨dP hp rfl,?_⟩⟩;((repeat' refine iE rfl rfl ?_);exact iN)
              ·exfalso;simp [aA,aB,aI,qh] at q9;omega
             ·have q8:jW D (aK l ((i+j) / 2)) (aK l (a.toNat))=false:=q8;(conv=>whnf);refine⟨(i+j) / 2 - i,by omega,?_⟩;refine bL (e0:=CO l.length c a x ((x+y).tdiv 2) p) (o0:=.cells true false 1 (flat aN.fl l)) (n0:=nx') hF ⟨i,(i+j) / 2,k',_,_,hx,qh,hi0,by omega,by omega,by omega,rfl,by rw [hbs,if_pos (by simp [q8])],rfl,rfl,rfl⟩ ?_ (aO (aG _ _)) (Nat.le_refl _);unfold CO;refine List.forall_mem_cons.2 ⟨cV hF.1 rfl,List.forall_mem_cons.2 ⟨dP hp rfl,?_⟩⟩;((repeat' refine iE rfl rfl ?_);exact iN)
            ·exfalso;have q7:tP D (aK l ((i+j) / 2)) (aK l (a.toNat))=false:=q7;rw [okc _ _ (by omega) (by omega)] at q7;cases q7
           ·exfalso;simp [aA,aB,qh] at q6;omega
          ·exfalso;simp [aA,aB,qh] at q5;omega
         ·exfalso;simp [aA,aB,aI,qh] at q4;omega
        ·exfalso;simp [aA,aB] at q3;omega
       ·exfalso;simp [aA,aB,aI] at q2;omega
      ·exfalso;simp [aA,aB,aI] at q1;omega
     ·have h1:i=j:=(by simp [aA,aB] at h1;omega);subst h1;rw [DM] at hbs;(conv=>whnf);refine⟨fun q e h nx''=>∃ (t:Nat) (z:Int),z=a.toNat+t∧t≤(i - 1 - a.toNat)∧q=(i - 1 - a.toNat) - t∧e=KB l.length c x (z)∧h=(0,.cells true false 1 (flat aN.fl (ZM l a.toNat t)))::F∧nx''=nx',⟨(i - 1 - a.toNat),?_⟩,?_⟩
      ·refine bL (e0:=KB l.length c x (a)) (o0:=.cells true false 1 (flat aN.fl l)) (n0:=nx') hF ⟨0,_,by omega,Nat.zero_le _,rfl,rfl,rfl,rfl⟩ ?_ (aO (aG _ _)) (Nat.le_refl _);unfold KB;refine List.forall_mem_cons.2 ⟨cV hF.1 rfl,?_⟩;((repeat' refine iE rfl rfl ?_);exact iN)
      ·rintro q e h nx'' ⟨t,z,hz,ht,rfl,rfl,rfl,rfl⟩;have sw:=aCr l a.toNat t (by omega);have sl:=sw.len;have nxt:ZM l a.toNat (t+1)=m7 (ZM l a.toNat t) (a.toNat+t) (a.toNat+t+1):=rfl;generalize hs0:ZM l a.toNat t=L at sl nxt;have hl1:(flat aN.fl L).length=L.length:=(by rw [bD];exact Nat.mul_one _);unfold KB;((conv=>whnf);refine bm (fun r1=>?_) (fun r1=>?_))
       ·skip
        ((conv=>whnf);refine bm (fun r2=>?_) (fun r2=>?_))
        ·have r2:t<(i - 1 - a.toNat):=(by simp [aA,aB] at r2;omega);have bQ:=DQ (L:=L) (x:=a.toNat+t) (y:=a.toNat+t+1) (o1:=0+z.toNat*1) (o2:=0+(z+1).toNat*1) (by omega) (by omega) (by omega) (by omega)
         repeat' first
          |(((conv=>whnf);refine bm (fun g=>?_) (fun g=>?_)))
          |((conv=>whnf)
            refine gI (eK L (i:=a.toNat+t) (by omega) ?_) ?_
            ·show _+Int.toNat z*1=_;omega)
          |((conv=>whnf)
            refine gI (eK L (i:=a.toNat+t+1) (by omega) ?_) ?_
            ·show _+Int.toNat (z+1)*1=_;omega)
         all_goals first
          |(exfalso;simp [aA,aB,aI] at g;omega)
          |(have g:(0+z.toNat*1+1).ble (flat aN.fl L).length=false:=g
            rw [hl1] at g;exact eV g (by omega))
          |(have g:(0+(z+1).toNat*1+1).ble (c8 (flat aN.fl L) (0+z.toNat*1) [iv (aK L (a.toNat+t+1))]).length=false:=g
            rw [dL (by rw [hl1];show 0+z.toNat*1+1≤L.length;omega),hl1] at g;exact eV g (by omega))
          |skip
         (conv=>whnf);refine⟨(i - 1 - a.toNat) - (t+1),by omega,?_⟩;refine bL (e0:=KB l.length c x (z+1)) (o0:=.cells true false 1 (flat aN.fl (m7 L (a.toNat+t) (a.toNat+t+1)))) (n0:=nx'') hF ⟨t+1,z+1,by omega,by omega,rfl,rfl,by rw [nxt],rfl⟩ ?_ (aZ (aG _ _) bQ) (Nat.le_refl _);unfold KB;refine List.forall_mem_cons.2 ⟨cV hF.1 rfl,?_⟩;((repeat' refine iE rfl rfl ?_);exact iN)
        ·have r2:t=(i - 1 - a.toNat):=(by simp [aA,aB] at r2;omega);(conv=>whnf);refine⟨rfl,?_⟩;rw [← hs0,r2,aU,if_pos (by omega),hbs]
       ·exfalso;simp [aA,aB,aI] at r1;omega
   ·have g2:¬ m - a=1:=(by simpa [aA,aB] using g2);((conv=>whnf);refine bm (fun g3=>?_) (fun g3=>?_))
    ·((conv=>whnf);refine bm (fun g4=>?_) (fun g4=>?_))
     ·have g4:b - m=1:=(by simpa [aA,aB] using g4);(conv=>whnf);refine⟨fun q e h nx'=>∃ (i j k:Nat) (x y:Int),x=i∧y=j∧a.toNat≤i∧i≤j∧j≤m.toNat∧j - i≤k∧q=j - i∧wQ (fun h=>jW D (aK l m.toNat) (aK l h)) (m.toNat - a.toNat) a.toNat m.toNat=wQ (fun h=>jW D (aK l m.toNat) (aK l h)) k i j∧e=CH l.length c m x y p∧h=(0,.cells true false 1 (flat aN.fl l))::F∧nx'=nx,⟨m.toNat - a.toNat,?_⟩,?_⟩
      ·refine bL (e0:=CH l.length c m a m p) (o0:=.cells true false 1 (flat aN.fl l)) (n0:=nx) hF ⟨a.toNat,m.toNat,_,_,_,by omega,by omega,Nat.le_refl _,by omega,Nat.le_refl _,Nat.le_refl _,rfl,rfl,rfl,rfl,rfl⟩ ?_ (aO (aG _ _)) (Nat.le_refl _);unfold CH;refine List.forall_mem_cons.2 ⟨cV hF.1 rfl,List.forall_mem_cons.2 ⟨dP hp rfl,?_⟩⟩;((repeat' refine iE rfl rfl ?_);exact iN)
      ·rintro q e h nx' ⟨i,j,k,x,y,hx,hy,hi0,hij,hj,hk,rfl,hbs,rfl,rfl,rfl⟩;unfold CH;((conv=>whnf);refine bm (fun h1=>?_) (fun h1=>?_))
       ·have h1:i<j:=(by simp [aA,aB] at h1;omega);obtain⟨k',rfl⟩:∃ k',k=k'+1:=⟨k - 1,by omega⟩;rw [VV h1] at hbs;have qh:(x+y).tdiv 2=(((i+j) / 2:Nat):Int):=(by rw [Int.tdiv_eq_ediv_of_nonneg (by omega)];omega);((conv=>whnf);refine bm (fun q1=>?_) (fun q1=>?_))
        ·((conv=>whnf);refine bm (fun q2=>?_) (fun q2=>?_))
         ·((conv=>whnf);refine bm (fun q3=>?_) (fun q3=>?_))
          ·((conv=>whnf);refine bm (fun q4=>?_) (fun q4=>?_))
           ·((conv=>whnf);refine bm (fun q5=>?_) (fun q5=>?_))
            ·(conv=>whnf);refine gI (eK l (i:=m.toNat) (by omega) ?_) ?_
             ·show _+Int.toNat (m)*1=_;omega
             ((conv=>whnf);refine bm (fun q6=>?_) (fun q6=>?_))
             ·(conv=>whnf);refine gI (eK l (i:=(i+j) / 2) (by omega) ?_) ?_
              ·show _+Int.toNat ((x+y).tdiv 2)*1=_;rw [qh];omega
              (conv=>whnf);refine⟨aK l (m.toNat),aK l ((i+j) / 2),p,D,rfl,AM hF hD,?_⟩;((conv=>whnf);refine bm (fun q7=>?_) (fun q7=>?_))
              ·((conv=>whnf);refine bm (fun q8=>?_) (fun q8=>?_))
               ·have q8:jW D (aK l m.toNat) (aK l ((i+j) / 2))=false:=(by have q8:(!(jW D (aK l m.toNat) (aK l ((i+j) / 2))))=true:=q8;simpa using q8);((conv=>whnf);refine bm (fun q9=>?_) (fun q9=>?_))
                ·(conv=>whnf);refine⟨j - ((i+j) / 2+1),by omega,?_⟩;refine bL (e0:=CH l.length c m ((x+y).tdiv 2+1) y p) (o0:=.cells true false 1 (flat aN.fl l)) (n0:=nx') hF ⟨(i+j) / 2+1,j,k',_,_,by rw [qh];omega,hy,by omega,by omega,by omega,by omega,rfl,by rw [hbs,if_neg (by simp [q8])],rfl,rfl,rfl⟩ ?_ (aO (aG _ _)) (Nat.le_refl _);unfold CH;refine List.forall_mem_cons.2 ⟨cV hF.1 rfl,List.forall_mem_cons.2 ⟨dP hp rfl,?_⟩⟩;((repeat' refine iE rfl rfl ?_);exact iN)
                ·exfalso;simp [aA,aB,aI,qh] at q9;omega
               ·have q8:jW D (aK l m.toNat) (aK l ((i+j) / 2))=true:=(by have q8:(!(jW D (aK l m.toNat) (aK l ((i+j) / 2))))=false:=q8;simpa using q8);(conv=>whnf);refine⟨(i+j) / 2 - i,by omega,?_⟩;refine bL (e0:=CH l.length c m x ((x+y).tdiv 2) p) (o0:=.cells true false 1 (flat aN.fl l)) (n0:=nx') hF ⟨i,(i+j) / 2,k',_,_,hx,qh,hi0,by omega,by omega,by omega,rfl,by rw [hbs,if_pos (by simp [q8])],rfl,rfl,rfl⟩ ?_ (aO (aG _ _)) (Nat.le_refl _);unfold CH;refine List.forall_mem_cons.2 ⟨cV hF.1 rfl,List.forall_mem_cons.2 ⟨dP hp rfl,?_⟩⟩;((repeat' refine iE rfl rfl ?_);exact iN)
              ·exfalso;have q7:tP D (aK l (m.toNat)) (aK l ((i+j) / 2))=false:=q7;rw [okc _ _ (by omega) (by omega)] at q7;cases q7
             ·exfalso;simp [aA,aB,qh] at q6;omega
            ·exfalso;simp [aA,aB,qh] at q5;omega
           ·exfalso;simp [aA,aB,aI,qh] at q4;omega
          ·exfalso;simp [aA,aB] at q3;omega
         ·exfalso;simp [aA,aB,aI] at q2;omega
        ·exfalso;simp [aA,aB,aI] at q1;omega
       ·have h1:i=j:=(by simp [aA,aB] at h1;omega);subst h1;rw [DM] at hbs;(conv=>whnf);refine⟨fun q e h nx''=>∃ (t:Nat) (z:Int),z=m.toNat - t∧t≤(m.toNat - i)∧q=(m.toNat - i) - t∧e=JU l.length c x (z)∧h=(0,.cells true false 1 (flat aN.fl (YB l m.toNat t)))::F∧nx''=nx',⟨(m.toNat - i),?_⟩,?_⟩
        ·refine bL (e0:=JU l.length c x (m)) (o0:=.cells true false 1 (flat aN.fl l)) (n0:=nx') hF ⟨0,_,by omega,Nat.zero_le _,rfl,rfl,rfl,rfl⟩ ?_ (aO (aG _ _)) (Nat.le_refl _);unfold JU;refine List.forall_mem_cons.2 ⟨cV hF.1 rfl,?_⟩;((repeat' refine iE rfl rfl ?_);exact iN)
        ·rintro q e h nx'' ⟨t,z,hz,ht,rfl,rfl,rfl,rfl⟩;have sw:=aAP l m.toNat (by omega) t;have sl:=sw.len;have nxt:YB l m.toNat (t+1)=m7 (YB l m.toNat t) (m.toNat - t) (m.toNat - t - 1):=rfl;generalize hs0:YB l m.toNat t=L at sl nxt;have hl1:(flat aN.fl L).length=L.length:=(by rw [bD];exact Nat.mul_one _);unfold JU;((conv=>whnf);refine bm (fun r2=>?_) (fun r2=>?_))
         ·have r2:t<(m.toNat - i):=(by simp [aA,aB] at r2;omega);have bQ:=DQ (L:=L) (x:=m.toNat - t) (y:=m.toNat - t - 1) (o1:=0+z.toNat*1) (o2:=0+(z - 1).toNat*1) (by omega) (by omega) (by omega) (by omega)
          repeat' first
           |(((conv=>whnf);refine bm (fun g=>?_) (fun g=>?_)))
           |((conv=>whnf)
             refine gI (eK L (i:=m.toNat - t) (by omega) ?_) ?_
             ·show _+Int.toNat z*1=_;omega)
           |((conv=>whnf)
             refine gI (eK L (i:=m.toNat - t - 1) (by omega) ?_) ?_
             ·show _+Int.toNat (z - 1)*1=_;omega)
          all_goals first
           |(exfalso;simp [aA,aB,aI] at g;omega)
           |(have g:(0+z.toNat*1+1).ble (flat aN.fl L).length=false:=g
             rw [hl1] at g;exact eV g (by omega))
           |(have g:(0+(z - 1).toNat*1+1).ble (c8 (flat aN.fl L) (0+z.toNat*1) [iv (aK L (m.toNat - t - 1))]).length=false:=g
             rw [dL (by rw [hl1];show 0+z.toNat*1+1≤L.length;omega),hl1] at g;exact eV g (by omega))
           |skip
          (conv=>whnf);refine⟨(m.toNat - i) - (t+1),by omega,?_⟩;refine bL (e0:=JU l.length c x (z - 1)) (o0:=.cells true false 1 (flat aN.fl (m7 L (m.toNat - t) (m.toNat - t - 1)))) (n0:=nx'') hF ⟨t+1,z - 1,by omega,by omega,rfl,rfl,by rw [nxt],rfl⟩ ?_ (aZ (aG _ _) bQ) (Nat.le_refl _);unfold JU;refine List.forall_mem_cons.2 ⟨cV hF.1 rfl,?_⟩;((repeat' refine iE rfl rfl ?_);exact iN)
         ·have r2:t=(m.toNat - i):=(by simp [aA,aB] at r2;omega);(conv=>whnf);refine⟨rfl,?_⟩;rw [← hs0,r2,aU,if_neg (by omega),if_pos (by omega),hbs]
     ·have g4:¬ b - m=1:=(by simpa [aA,aB] using g4);have hM:(a+b).tdiv 2=(((a.toNat+b.toNat) / 2:Nat):Int):=(by rw [Int.tdiv_eq_ediv_of_nonneg (by omega)];omega);((conv=>whnf);refine bm (fun g5=>?_) (fun g5=>?_))
      ·((conv=>whnf);refine bm (fun g5b=>?_) (fun g5b=>?_));rotate_left;(exfalso;simp [aA,aB,aI] at g5b;omega);((conv=>whnf);refine bm (fun g5c=>?_) (fun g5c=>?_));rotate_left;(exfalso;simp [aA,aB,aI] at g5c;omega);((conv=>whnf);refine bm (fun g6=>?_) (fun g6=>?_))
       ·((conv=>whnf);refine bm (fun g7=>?_) (fun g7=>?_))
        ·((conv=>whnf);refine bm (fun g8=>?_) (fun g8=>?_))
         ·have g8:(a+b).tdiv 2<m:=(by simpa [aA,aB] using g8);have hc:(a.toNat+b.toNat) / 2<m.toNat:=(by omega);((conv=>whnf);refine bm (fun g9=>?_) (fun g9=>?_))
          ·((conv=>whnf);refine bm (fun g10=>?_) (fun g10=>?_))
           ·skip
            (conv=>whnf);refine⟨fun q e h nx'=>∃ (i j k:Nat) (x y:Int),x=i∧y=j∧((a.toNat+b.toNat) / 2+m.toNat - b.toNat)≤i∧i≤j∧j≤((a.toNat+b.toNat) / 2)∧j - i≤k∧q=j - i∧wQ (fun c=>jW D (aK l ((a.toNat+b.toNat) / 2+m.toNat - 1 - c)) (aK l c)) (((a.toNat+b.toNat) / 2) - ((a.toNat+b.toNat) / 2+m.toNat - b.toNat)) ((a.toNat+b.toNat) / 2+m.toNat - b.toNat) ((a.toNat+b.toNat) / 2)=wQ (fun c=>jW D (aK l ((a.toNat+b.toNat) / 2+m.toNat - 1 - c)) (aK l c)) k i j∧e=mS l.length c a m b ((a+b).tdiv 2) ((a+b).tdiv 2+m) ((a+b).tdiv 2+m - 1) x y p∧h=(0,.cells true false 1 (flat aN.fl l))::F∧nx'=nx,⟨((a.toNat+b.toNat) / 2) - ((a.toNat+b.toNat) / 2+m.toNat - b.toNat),?_⟩,?_⟩
            ·refine bL (e0:=mS l.length c a m b ((a+b).tdiv 2) ((a+b).tdiv 2+m) ((a+b).tdiv 2+m - 1) ((a+b).tdiv 2+m - b) ((a+b).tdiv 2) p) (o0:=.cells true false 1 (flat aN.fl l)) (n0:=nx) hF ⟨((a.toNat+b.toNat) / 2+m.toNat - b.toNat),((a.toNat+b.toNat) / 2),_,_,_,by omega,by omega,Nat.le_refl _,by omega,Nat.le_refl _,Nat.le_refl _,rfl,rfl,rfl,rfl,rfl⟩ ?_ (aO (aG _ _)) (Nat.le_refl _);unfold mS;refine List.forall_mem_cons.2 ⟨cV hF.1 rfl,List.forall_mem_cons.2 ⟨dP hp rfl,?_⟩⟩;((repeat' refine iE rfl rfl ?_);exact iN)
            ·rintro q e h nx' ⟨i,j,k,x,y,hx,hy,hi0,hij,hj,hk,rfl,hbs,rfl,rfl,rfl⟩;unfold mS;((conv=>whnf);refine bm (fun h1=>?_) (fun h1=>?_))
             ·have h1:i<j:=(by simp [aA,aB] at h1;omega);obtain⟨k',rfl⟩:∃ k',k=k'+1:=⟨k - 1,by omega⟩;rw [VV h1] at hbs;have qh:(x+y).tdiv 2=(((i+j) / 2:Nat):Int):=(by rw [Int.tdiv_eq_ediv_of_nonneg (by omega)];omega);((conv=>whnf);refine bm (fun q1=>?_) (fun q1=>?_))
              ·((conv=>whnf);refine bm (fun q2=>?_) (fun q2=>?_))
               ·((conv=>whnf);refine bm (fun q3=>?_) (fun q3=>?_))
                ·((conv=>whnf);refine bm (fun q4=>?_) (fun q4=>?_))
                 ·((conv=>whnf);refine bm (fun q5a=>?_) (fun q5a=>?_));rotate_left;(exfalso;simp [aA,aB,aI,hM,qh] at q5a;omega);((conv=>whnf);refine bm (fun q5=>?_) (fun q5=>?_))
                  ·(conv=>whnf);refine gI (eK l (i:=((a.toNat+b.toNat) / 2+m.toNat - 1 - (i+j) / 2)) (by omega) ?_) ?_
                   ·show _+Int.toNat (((a+b).tdiv 2+m - 1 - (x+y).tdiv 2))*1=_;rw [qh];omega
                   ((conv=>whnf);refine bm (fun q6=>?_) (fun q6=>?_))
                   ·(conv=>whnf);refine gI (eK l (i:=(i+j) / 2) (by omega) ?_) ?_
                    ·show _+Int.toNat ((x+y).tdiv 2)*1=_;rw [qh];omega
                    (conv=>whnf);refine⟨aK l (((a.toNat+b.toNat) / 2+m.toNat - 1 - (i+j) / 2)),aK l ((i+j) / 2),p,D,rfl,AM hF hD,?_⟩;((conv=>whnf);refine bm (fun q7=>?_) (fun q7=>?_))
                    ·((conv=>whnf);refine bm (fun q8=>?_) (fun q8=>?_))
                     ·have q8:jW D (aK l ((a.toNat+b.toNat) / 2+m.toNat - 1 - (i+j) / 2)) (aK l ((i+j) / 2))=false:=(by have q8:(!(jW D (aK l ((a.toNat+b.toNat) / 2+m.toNat - 1 - (i+j) / 2)) (aK l ((i+j) / 2))))=true:=q8;simpa using q8);((conv=>whnf);refine bm (fun q9=>?_) (fun q9=>?_))
                      ·(conv=>whnf);refine⟨j - ((i+j) / 2+1),by omega,?_⟩;refine bL (e0:=mS l.length c a m b ((a+b).tdiv 2) ((a+b).tdiv 2+m) ((a+b).tdiv 2+m - 1) ((x+y).tdiv 2+1) y p) (o0:=.cells true false 1 (flat aN.fl l)) (n0:=nx') hF ⟨(i+j) / 2+1,j,k',_,_,by rw [qh];omega,hy,by omega,by omega,by omega,by omega,rfl,by rw [hbs,if_neg (by simp [q8])],rfl,rfl,rfl⟩ ?_ (aO (aG _ _)) (Nat.le_refl _);unfold mS;refine List.forall_mem_cons.2 ⟨cV hF.1 rfl,List.forall_mem_cons.2 ⟨dP hp rfl,?_⟩⟩;((repeat' refine iE rfl rfl ?_);exact iN)
                      ·exfalso;simp [aA,aB,aI,qh] at q9;omega
                     ·have q8:jW D (aK l ((a.toNat+b.toNat) / 2+m.toNat - 1 - (i+j) / 2)) (aK l ((i+j) / 2))=true:=(by have q8:(!(jW D (aK l ((a.toNat+b.toNat) / 2+m.toNat - 1 - (i+j) / 2)) (aK l ((i+j) / 2))))=false:=q8;simpa using q8);(conv=>whnf);refine⟨(i+j) / 2 - i,by omega,?_⟩;refine bL (e0:=mS l.length c a m b ((a+b).tdiv 2) ((a+b).tdiv 2+m) ((a+b).tdiv 2+m - 1) x ((x+y).tdiv 2) p) (o0:=.cells true false 1 (flat aN.fl l)) (n0:=nx') hF ⟨i,(i+j) / 2,k',_,_,hx,qh,hi0,by omega,by omega,by omega,rfl,by rw [hbs,if_pos (by simp [q8])],rfl,rfl,rfl⟩ ?_ (aO (aG _ _)) (Nat.le_refl _);unfold mS;refine List.forall_mem_cons.2 ⟨cV hF.1 rfl,List.forall_mem_cons.2 ⟨dP hp rfl,?_⟩⟩;((repeat' refine iE rfl rfl ?_);exact iN)
                    ·exfalso;have q7:tP D (aK l (((a.toNat+b.toNat) / 2+m.toNat - 1 - (i+j) / 2))) (aK l ((i+j) / 2))=false:=q7;rw [okc _ _ (by omega) (by omega)] at q7;cases q7
                   ·exfalso;simp [aA,aB,hM,qh] at q6;omega
                  ·exfalso;simp [aA,aB,hM,qh] at q5;omega
                 ·exfalso;simp [aA,aB,hM,aI,qh] at q4;omega
                ·exfalso;simp [aA,aB] at q3;omega
               ·exfalso;simp [aA,aB,aI] at q2;omega
              ·exfalso;simp [aA,aB,aI] at q1;omega
             ·have h1:i=j:=(by simp [aA,aB] at h1;omega);subst h1;rw [DM] at hbs
              skip
              have hst:stM D l a.toNat m.toNat b.toNat=i:=(by unfold stM;simp only [if_pos hc];exact hbs);have low:=zR (D:=D) (L:=l) (a:=a.toNat) (m:=m.toNat) (b:=b.toNat) (by omega) (by omega);clear hbs hk hj hi0 hc g8;obtain⟨A,eA⟩:∃ A,a.toNat=A:=⟨_,rfl⟩;obtain⟨Q,eQ⟩:∃ Q,m.toNat=Q:=⟨_,rfl⟩;obtain⟨B,eB⟩:∃ B,b.toNat=B:=⟨_,rfl⟩;obtain⟨W,eW⟩:∃ W,(A+B) / 2=W:=⟨_,rfl⟩;rw [eA,eQ,eB] at hst;rw [eA,eQ,eB] at low;rw [hst,eW] at low;rw [eA,eB,eW] at hM;have zA:a=A:=(by omega);have zQ:m=Q:=(by omega);have zB:b=B:=(by omega);have uA:∀ _:Unit,a.toNat=A:=fun _=>eA;have uQ:∀ _:Unit,m.toNat=Q:=fun _=>eQ;have uB:∀ _:Unit,b.toNat=B:=fun _=>eB;have uW:∀ _:Unit,(A+B) / 2=W:=fun _=>eW;have zW:A+1≤W∧W+1≤B:=(by omega);clear eA eQ eB eW;have u1:∀ _:Unit,x.toNat=i:=fun _=>(by omega);have u2:∀ _:Unit,((a+b).tdiv 2).toNat=W:=fun _=>(by rw [hM];omega);have u3:∀ _:Unit,(m - x).toNat=Q - i:=fun _=>(by omega);have u4:∀ _:Unit,(((a+b).tdiv 2)+m - x).toNat=(W+Q - i):=fun _=>(by rw [hM];omega);have u5:∀ _:Unit,((((a+b).tdiv 2)+m - x) - m).toNat=(W+Q - i) - Q:=fun _=>(by rw [hM];omega);((conv=>whnf);refine bm (fun s1=>?_) (fun s1=>?_));rotate_left;(exfalso;simp [aA,aB,aI,hM] at s1;omega);have n1:¬ Q - A=1:=(by omega);have n2:¬ B - Q=1:=(by omega);((conv=>whnf);refine bm (fun s2=>?_) (fun s2=>?_))
              ·((conv=>whnf);refine bm (fun s3=>?_) (fun s3=>?_))
               ·skip
                have s2:x<m:=(by simpa [aA,aB,hM] using s2);have s3:m<((W:Int)+m - x):=(by simpa [aA,aB,hM] using s3);have c1:i<Q∧Q<(W+Q - i):=(by omega);(conv=>whnf);refine⟨0,c,[iv x,iv m,iv (((a+b).tdiv 2)+m - x)],p,l,D,rfl,rfl,aV hC,a8 hF hD,?_⟩;((conv=>whnf);refine bm (fun t=>?_) (fun t=>?_))
                ·have sw1:Sw l (bX m.toNat ((m - x).toNat+((((a+b).tdiv 2)+m - x) - m).toNat) l (m - x).toNat ((((a+b).tdiv 2)+m - x) - m).toNat):=uI _ _ _ _ _ (by simp only [uA (),uQ (),uB (),u1 (),u2 (),u3 (),u4 (),u5 ()];omega) (by simp only [uA (),uQ (),uB (),u1 (),u2 (),u3 (),u4 (),u5 ()];omega);((conv=>whnf);refine bm (fun s4=>?_) (fun s4=>?_))
                 ·((conv=>whnf);refine bm (fun s5=>?_) (fun s5=>?_))
                  ·skip
                   have s4:a<x:=(by simpa [aA,aB,hM] using s4);have s5:x<(W:Int):=(by simpa [aA,aB,hM] using s5);have c2:A<i∧i<W:=(by omega);(conv=>whnf);refine⟨0,c,[iv a,iv x,iv ((a+b).tdiv 2)],p,bX m.toNat ((m - x).toNat+((((a+b).tdiv 2)+m - x) - m).toNat) l (m - x).toNat ((((a+b).tdiv 2)+m - x) - m).toNat,D,by rw [(sw1).len];rfl,rfl,aV hC,a8 hF hD,?_⟩;((conv=>whnf);refine bm (fun t=>?_) (fun t=>?_))
                   ·skip
                    have sw2:Sw l (aU D n (bX m.toNat ((m - x).toNat+((((a+b).tdiv 2)+m - x) - m).toNat) l (m - x).toNat ((((a+b).tdiv 2)+m - x) - m).toNat) a.toNat x.toNat ((a+b).tdiv 2).toNat):=(sw1).trans (mK D n _ _ _ _ (by simp only [uA (),uQ (),uB (),u1 (),u2 (),u3 (),u4 (),u5 ()];omega) (by simp only [uA (),uQ (),uB (),u1 (),u2 (),u3 (),u4 (),u5 ()];omega) (by rw [(sw1).len];simp only [uA (),uQ (),uB (),u1 (),u2 (),u3 (),u4 (),u5 ()];omega));((conv=>whnf);refine bm (fun s6=>?_) (fun s6=>?_))
                    ·((conv=>whnf);refine bm (fun s7=>?_) (fun s7=>?_))
                     ·skip
                      have s6:(W:Int)<((W:Int)+m - x):=(by simpa [aA,aB,hM] using s6);have s7:((W:Int)+m - x)<b:=(by simpa [aA,aB,hM] using s7);have c3:W<(W+Q - i)∧(W+Q - i)<B:=(by omega);(conv=>whnf);refine⟨0,c,[iv ((a+b).tdiv 2),iv (((a+b).tdiv 2)+m - x),iv b],p,aU D n (bX m.toNat ((m - x).toNat+((((a+b).tdiv 2)+m - x) - m).toNat) l (m - x).toNat ((((a+b).tdiv 2)+m - x) - m).toNat) a.toNat x.toNat ((a+b).tdiv 2).toNat,D,by rw [(sw2).len];rfl,rfl,aV hC,a8 hF hD,?_⟩;((conv=>whnf);refine bm (fun t=>?_) (fun t=>?_))
                      ·skip
                       (conv=>whnf);refine⟨rfl,?_⟩;show (0,aX.cells true false 1 (flat aN.fl (aU D n (aU D n (bX m.toNat ((m - x).toNat+((((a+b).tdiv 2)+m - x) - m).toNat) l (m - x).toNat ((((a+b).tdiv 2)+m - x) - m).toNat) a.toNat x.toNat ((a+b).tdiv 2).toNat) ((a+b).tdiv 2).toNat (((a+b).tdiv 2)+m - x).toNat b.toNat)))::F=_;rw [aU];simp only [hst,uA (),uQ (),uB (),u1 (),u2 (),u3 (),u4 (),u5 (),uW (),if_neg n1,if_neg n2,if_pos c1,if_pos c2,if_pos c3]
                      ·exfalso;have t:(decide (0≤((a+b).tdiv 2))&&decide (((a+b).tdiv 2)<(((a+b).tdiv 2)+m - x))&&decide ((((a+b).tdiv 2)+m - x)<b)&&decide (b≤(aU D n (bX m.toNat ((m - x).toNat+((((a+b).tdiv 2)+m - x) - m).toNat) l (m - x).toNat ((((a+b).tdiv 2)+m - x) - m).toNat) a.toNat x.toNat ((a+b).tdiv 2).toNat).length)&&decide (b - ((a+b).tdiv 2)≤n)&&decide ((aU D n (bX m.toNat ((m - x).toNat+((((a+b).tdiv 2)+m - x) - m).toNat) l (m - x).toNat ((((a+b).tdiv 2)+m - x) - m).toNat) a.toNat x.toNat ((a+b).tdiv 2).toNat).length≤1000000)&&fH D (aU D n (bX m.toNat ((m - x).toNat+((((a+b).tdiv 2)+m - x) - m).toNat) l (m - x).toNat ((((a+b).tdiv 2)+m - x) - m).toNat) a.toNat x.toNat ((a+b).tdiv 2).toNat)&&fW D)=false:=t;rw [hW,(sw2).fH hin,(sw2).len] at t;simp [hM] at t;omega
                     ·skip
                      have s7:¬ ((W:Int)+m - x)<b:=(by simpa [aA,aB,hM] using s7);have c3:¬ (W<(W+Q - i)∧(W+Q - i)<B):=(by omega);(conv=>whnf);refine⟨rfl,?_⟩;show (0,aX.cells true false 1 (flat aN.fl (aU D n (bX m.toNat ((m - x).toNat+((((a+b).tdiv 2)+m - x) - m).toNat) l (m - x).toNat ((((a+b).tdiv 2)+m - x) - m).toNat) a.toNat x.toNat ((a+b).tdiv 2).toNat)))::F=_;rw [aU];simp only [hst,uA (),uQ (),uB (),u1 (),u2 (),u3 (),u4 (),u5 (),uW (),if_neg n1,if_neg n2,if_pos c1,if_pos c2,if_neg c3]
                    ·skip
                     have s6:¬ (W:Int)<((W:Int)+m - x):=(by simpa [aA,aB,hM] using s6);have c3:¬ (W<(W+Q - i)∧(W+Q - i)<B):=(by omega);(conv=>whnf);refine⟨rfl,?_⟩;show (0,aX.cells true false 1 (flat aN.fl (aU D n (bX m.toNat ((m - x).toNat+((((a+b).tdiv 2)+m - x) - m).toNat) l (m - x).toNat ((((a+b).tdiv 2)+m - x) - m).toNat) a.toNat x.toNat ((a+b).tdiv 2).toNat)))::F=_;rw [aU];simp only [hst,uA (),uQ (),uB (),u1 (),u2 (),u3 (),u4 (),u5 (),uW (),if_neg n1,if_neg n2,if_pos c1,if_pos c2,if_neg c3]
                   ·exfalso;have t:(decide (0≤a)&&decide (a<x)&&decide (x<((a+b).tdiv 2))&&decide (((a+b).tdiv 2)≤(bX m.toNat ((m - x).toNat+((((a+b).tdiv 2)+m - x) - m).toNat) l (m - x).toNat ((((a+b).tdiv 2)+m - x) - m).toNat).length)&&decide (((a+b).tdiv 2) - a≤n)&&decide ((bX m.toNat ((m - x).toNat+((((a+b).tdiv 2)+m - x) - m).toNat) l (m - x).toNat ((((a+b).tdiv 2)+m - x) - m).toNat).length≤1000000)&&fH D (bX m.toNat ((m - x).toNat+((((a+b).tdiv 2)+m - x) - m).toNat) l (m - x).toNat ((((a+b).tdiv 2)+m - x) - m).toNat)&&fW D)=false:=t;rw [hW,(sw1).fH hin,(sw1).len] at t;simp [hM] at t;omega
                  ·skip
                   have s5:¬ x<(W:Int):=(by simpa [aA,aB,hM] using s5);have c2:¬ (A<i∧i<W):=(by omega);((conv=>whnf);refine bm (fun s6=>?_) (fun s6=>?_))
                   ·((conv=>whnf);refine bm (fun s7=>?_) (fun s7=>?_))
                    ·skip
                     have s6:(W:Int)<((W:Int)+m - x):=(by simpa [aA,aB,hM] using s6);have s7:((W:Int)+m - x)<b:=(by simpa [aA,aB,hM] using s7);have c3:W<(W+Q - i)∧(W+Q - i)<B:=(by omega);(conv=>whnf);refine⟨0,c,[iv ((a+b).tdiv 2),iv (((a+b).tdiv 2)+m - x),iv b],p,bX m.toNat ((m - x).toNat+((((a+b).tdiv 2)+m - x) - m).toNat) l (m - x).toNat ((((a+b).tdiv 2)+m - x) - m).toNat,D,by rw [(sw1).len];rfl,rfl,aV hC,a8 hF hD,?_⟩;((conv=>whnf);refine bm (fun t=>?_) (fun t=>?_))
                     ·skip
                      (conv=>whnf);refine⟨rfl,?_⟩;show (0,aX.cells true false 1 (flat aN.fl (aU D n (bX m.toNat ((m - x).toNat+((((a+b).tdiv 2)+m - x) - m).toNat) l (m - x).toNat ((((a+b).tdiv 2)+m - x) - m).toNat) ((a+b).tdiv 2).toNat (((a+b).tdiv 2)+m - x).toNat b.toNat)))::F=_;rw [aU];simp only [hst,uA (),uQ (),uB (),u1 (),u2 (),u3 (),u4 (),u5 (),uW (),if_neg n1,if_neg n2,if_pos c1,if_neg c2,if_pos c3]
                     ·exfalso;have t:(decide (0≤((a+b).tdiv 2))&&decide (((a+b).tdiv 2)<(((a+b).tdiv 2)+m - x))&&decide ((((a+b).tdiv 2)+m - x)<b)&&decide (b≤(bX m.toNat ((m - x).toNat+((((a+b).tdiv 2)+m - x) - m).toNat) l (m - x).toNat ((((a+b).tdiv 2)+m - x) - m).toNat).length)&&decide (b - ((a+b).tdiv 2)≤n)&&decide ((bX m.toNat ((m - x).toNat+((((a+b).tdiv 2)+m - x) - m).toNat) l (m - x).toNat ((((a+b).tdiv 2)+m - x) - m).toNat).length≤1000000)&&fH D (bX m.toNat ((m - x).toNat+((((a+b).tdiv 2)+m - x) - m).toNat) l (m - x).toNat ((((a+b).tdiv 2)+m - x) - m).toNat)&&fW D)=false:=t;rw [hW,(sw1).fH hin,(sw1).len] at t;simp [hM] at t;omega
                    ·skip
                     have s7:¬ ((W:Int)+m - x)<b:=(by simpa [aA,aB,hM] using s7);have c3:¬ (W<(W+Q - i)∧(W+Q - i)<B):=(by omega);(conv=>whnf);refine⟨rfl,?_⟩;show (0,aX.cells true false 1 (flat aN.fl (bX m.toNat ((m - x).toNat+((((a+b).tdiv 2)+m - x) - m).toNat) l (m - x).toNat ((((a+b).tdiv 2)+m - x) - m).toNat)))::F=_;rw [aU];simp only [hst,uA (),uQ (),uB (),u1 (),u2 (),u3 (),u4 (),u5 (),uW (),if_neg n1,if_neg n2,if_pos c1,if_neg c2,if_neg c3]
                   ·skip
                    have s6:¬ (W:Int)<((W:Int)+m - x):=(by simpa [aA,aB,hM] using s6);have c3:¬ (W<(W+Q - i)∧(W+Q - i)<B):=(by omega);(conv=>whnf);refine⟨rfl,?_⟩;show (0,aX.cells true false 1 (flat aN.fl (bX m.toNat ((m - x).toNat+((((a+b).tdiv 2)+m - x) - m).toNat) l (m - x).toNat ((((a+b).tdiv 2)+m - x) - m).toNat)))::F=_;rw [aU];simp only [hst,uA (),uQ (),uB (),u1 (),u2 (),u3 (),u4 (),u5 (),uW (),if_neg n1,if_neg n2,if_pos c1,if_neg c2,if_neg c3]
                 ·skip
                  have s4:¬ a<x:=(by simpa [aA,aB,hM] using s4);have c2:¬ (A<i∧i<W):=(by omega);((conv=>whnf);refine bm (fun s6=>?_) (fun s6=>?_))
                  ·((conv=>whnf);refine bm (fun s7=>?_) (fun s7=>?_))
                   ·skip
                    have s6:(W:Int)<((W:Int)+m - x):=(by simpa [aA,aB,hM] using s6);have s7:((W:Int)+m - x)<b:=(by simpa [aA,aB,hM] using s7);have c3:W<(W+Q - i)∧(W+Q - i)<B:=(by omega);(conv=>whnf);refine⟨0,c,[iv ((a+b).tdiv 2),iv (((a+b).tdiv 2)+m - x),iv b],p,bX m.toNat ((m - x).toNat+((((a+b).tdiv 2)+m - x) - m).toNat) l (m - x).toNat ((((a+b).tdiv 2)+m - x) - m).toNat,D,by rw [(sw1).len];rfl,rfl,aV hC,a8 hF hD,?_⟩;((conv=>whnf);refine bm (fun t=>?_) (fun t=>?_))
                    ·skip
                     (conv=>whnf);refine⟨rfl,?_⟩;show (0,aX.cells true false 1 (flat aN.fl (aU D n (bX m.toNat ((m - x).toNat+((((a+b).tdiv 2)+m - x) - m).toNat) l (m - x).toNat ((((a+b).tdiv 2)+m - x) - m).toNat) ((a+b).tdiv 2).toNat (((a+b).tdiv 2)+m - x).toNat b.toNat)))::F=_;rw [aU];simp only [hst,uA (),uQ (),uB (),u1 (),u2 (),u3 (),u4 (),u5 (),uW (),if_neg n1,if_neg n2,if_pos c1,if_neg c2,if_pos c3]
                    ·exfalso;have t:(decide (0≤((a+b).tdiv 2))&&decide (((a+b).tdiv 2)<(((a+b).tdiv 2)+m - x))&&decide ((((a+b).tdiv 2)+m - x)<b)&&decide (b≤(bX m.toNat ((m - x).toNat+((((a+b).tdiv 2)+m - x) - m).toNat) l (m - x).toNat ((((a+b).tdiv 2)+m - x) - m).toNat).length)&&decide (b - ((a+b).tdiv 2)≤n)&&decide ((bX m.toNat ((m - x).toNat+((((a+b).tdiv 2)+m - x) - m).toNat) l (m - x).toNat ((((a+b).tdiv 2)+m - x) - m).toNat).length≤1000000)&&fH D (bX m.toNat ((m - x).toNat+((((a+b).tdiv 2)+m - x) - m).toNat) l (m - x).toNat ((((a+b).tdiv 2)+m - x) - m).toNat)&&fW D)=false:=t;rw [hW,(sw1).fH hin,(sw1).len] at t;simp [hM] at t;omega
                   ·skip
                    have s7:¬ ((W:Int)+m - x)<b:=(by simpa [aA,aB,hM] using s7);have c3:¬ (W<(W+Q - i)∧(W+Q - i)<B):=(by omega);(conv=>whnf);refine⟨rfl,?_⟩;show (0,aX.cells true false 1 (flat aN.fl (bX m.toNat ((m - x).toNat+((((a+b).tdiv 2)+m - x) - m).toNat) l (m - x).toNat ((((a+b).tdiv 2)+m - x) - m).toNat)))::F=_;rw [aU];simp only [hst,uA (),uQ (),uB (),u1 (),u2 (),u3 (),u4 (),u5 (),uW (),if_neg n1,if_neg n2,if_pos c1,if_neg c2,if_neg c3]
                  ·skip
                   have s6:¬ (W:Int)<((W:Int)+m - x):=(by simpa [aA,aB,hM] using s6);have c3:¬ (W<(W+Q - i)∧(W+Q - i)<B):=(by omega);(conv=>whnf);refine⟨rfl,?_⟩;show (0,aX.cells true false 1 (flat aN.fl (bX m.toNat ((m - x).toNat+((((a+b).tdiv 2)+m - x) - m).toNat) l (m - x).toNat ((((a+b).tdiv 2)+m - x) - m).toNat)))::F=_;rw [aU];simp only [hst,uA (),uQ (),uB (),u1 (),u2 (),u3 (),u4 (),u5 (),uW (),if_neg n1,if_neg n2,if_pos c1,if_neg c2,if_neg c3]
                ·exfalso;have t:(decide (0≤x)&&decide (x<m)&&decide (m<(((a+b).tdiv 2)+m - x))&&decide ((((a+b).tdiv 2)+m - x)≤l.length)&&decide (l.length≤1000000))=false:=t;simp [hM] at t;omega
               ·skip
                have s3:¬ m<((W:Int)+m - x):=(by simpa [aA,aB,hM] using s3);have c1:¬ (i<Q∧Q<(W+Q - i)):=(by omega);((conv=>whnf);refine bm (fun s4=>?_) (fun s4=>?_))
                ·((conv=>whnf);refine bm (fun s5=>?_) (fun s5=>?_))
                 ·skip
                  have s4:a<x:=(by simpa [aA,aB,hM] using s4);have s5:x<(W:Int):=(by simpa [aA,aB,hM] using s5);have c2:A<i∧i<W:=(by omega);(conv=>whnf);refine⟨0,c,[iv a,iv x,iv ((a+b).tdiv 2)],p,l,D,by rw [((Sw.refl l)).len];rfl,rfl,aV hC,a8 hF hD,?_⟩;((conv=>whnf);refine bm (fun t=>?_) (fun t=>?_))
                  ·skip
                   have sw2:Sw l (aU D n (l) a.toNat x.toNat ((a+b).tdiv 2).toNat):=((Sw.refl l)).trans (mK D n _ _ _ _ (by simp only [uA (),uQ (),uB (),u1 (),u2 (),u3 (),u4 (),u5 ()];omega) (by simp only [uA (),uQ (),uB (),u1 (),u2 (),u3 (),u4 (),u5 ()];omega) (by rw [((Sw.refl l)).len];simp only [uA (),uQ (),uB (),u1 (),u2 (),u3 (),u4 (),u5 ()];omega));((conv=>whnf);refine bm (fun s6=>?_) (fun s6=>?_))
                   ·((conv=>whnf);refine bm (fun s7=>?_) (fun s7=>?_))
                    ·skip
                     have s6:(W:Int)<((W:Int)+m - x):=(by simpa [aA,aB,hM] using s6);have s7:((W:Int)+m - x)<b:=(by simpa [aA,aB,hM] using s7);have c3:W<(W+Q - i)∧(W+Q - i)<B:=(by omega);(conv=>whnf);refine⟨0,c,[iv ((a+b).tdiv 2),iv (((a+b).tdiv 2)+m - x),iv b],p,aU D n (l) a.toNat x.toNat ((a+b).tdiv 2).toNat,D,by rw [(sw2).len];rfl,rfl,aV hC,a8 hF hD,?_⟩;((conv=>whnf);refine bm (fun t=>?_) (fun t=>?_))
                     ·skip
                      (conv=>whnf);refine⟨rfl,?_⟩;show (0,aX.cells true false 1 (flat aN.fl (aU D n (aU D n (l) a.toNat x.toNat ((a+b).tdiv 2).toNat) ((a+b).tdiv 2).toNat (((a+b).tdiv 2)+m - x).toNat b.toNat)))::F=_;rw [aU];simp only [hst,uA (),uQ (),uB (),u1 (),u2 (),u3 (),u4 (),u5 (),uW (),if_neg n1,if_neg n2,if_neg c1,if_pos c2,if_pos c3]
                     ·exfalso;have t:(decide (0≤((a+b).tdiv 2))&&decide (((a+b).tdiv 2)<(((a+b).tdiv 2)+m - x))&&decide ((((a+b).tdiv 2)+m - x)<b)&&decide (b≤(aU D n (l) a.toNat x.toNat ((a+b).tdiv 2).toNat).length)&&decide (b - ((a+b).tdiv 2)≤n)&&decide ((aU D n (l) a.toNat x.toNat ((a+b).tdiv 2).toNat).length≤1000000)&&fH D (aU D n (l) a.toNat x.toNat ((a+b).tdiv 2).toNat)&&fW D)=false:=t;rw [hW,(sw2).fH hin,(sw2).len] at t;simp [hM] at t;omega
                    ·skip
                     have s7:¬ ((W:Int)+m - x)<b:=(by simpa [aA,aB,hM] using s7);have c3:¬ (W<(W+Q - i)∧(W+Q - i)<B):=(by omega);(conv=>whnf);refine⟨rfl,?_⟩;show (0,aX.cells true false 1 (flat aN.fl (aU D n (l) a.toNat x.toNat ((a+b).tdiv 2).toNat)))::F=_;rw [aU];simp only [hst,uA (),uQ (),uB (),u1 (),u2 (),u3 (),u4 (),u5 (),uW (),if_neg n1,if_neg n2,if_neg c1,if_pos c2,if_neg c3]
                   ·skip
                    have s6:¬ (W:Int)<((W:Int)+m - x):=(by simpa [aA,aB,hM] using s6);have c3:¬ (W<(W+Q - i)∧(W+Q - i)<B):=(by omega);(conv=>whnf);refine⟨rfl,?_⟩;show (0,aX.cells true false 1 (flat aN.fl (aU D n (l) a.toNat x.toNat ((a+b).tdiv 2).toNat)))::F=_;rw [aU];simp only [hst,uA (),uQ (),uB (),u1 (),u2 (),u3 (),u4 (),u5 (),uW (),if_neg n1,if_neg n2,if_neg c1,if_pos c2,if_neg c3]
                  ·exfalso;have t:(decide (0≤a)&&decide (a<x)&&decide (x<((a+b).tdiv 2))&&decide (((a+b).tdiv 2)≤(l).length)&&decide (((a+b).tdiv 2) - a≤n)&&decide ((l).length≤1000000)&&fH D (l)&&fW D)=false:=t;rw [hW,((Sw.refl l)).fH hin,((Sw.refl l)).len] at t;simp [hM] at t;omega
                 ·skip
                  have s5:¬ x<(W:Int):=(by simpa [aA,aB,hM] using s5);have c2:¬ (A<i∧i<W):=(by omega);((conv=>whnf);refine bm (fun s6=>?_) (fun s6=>?_))
                  ·((conv=>whnf);refine bm (fun s7=>?_) (fun s7=>?_))
                   ·skip
                    have s6:(W:Int)<((W:Int)+m - x):=(by simpa [aA,aB,hM] using s6);have s7:((W:Int)+m - x)<b:=(by simpa [aA,aB,hM] using s7);have c3:W<(W+Q - i)∧(W+Q - i)<B:=(by omega);(conv=>whnf);refine⟨0,c,[iv ((a+b).tdiv 2),iv (((a+b).tdiv 2)+m - x),iv b],p,l,D,by rw [((Sw.refl l)).len];rfl,rfl,aV hC,a8 hF hD,?_⟩;((conv=>whnf);refine bm (fun t=>?_) (fun t=>?_))
                    ·skip
                     (conv=>whnf);refine⟨rfl,?_⟩;show (0,aX.cells true false 1 (flat aN.fl (aU D n (l) ((a+b).tdiv 2).toNat (((a+b).tdiv 2)+m - x).toNat b.toNat)))::F=_;rw [aU];simp only [hst,uA (),uQ (),uB (),u1 (),u2 (),u3 (),u4 (),u5 (),uW (),if_neg n1,if_neg n2,if_neg c1,if_neg c2,if_pos c3]
                    ·exfalso;have t:(decide (0≤((a+b).tdiv 2))&&decide (((a+b).tdiv 2)<(((a+b).tdiv 2)+m - x))&&decide ((((a+b).tdiv 2)+m - x)<b)&&decide (b≤(l).length)&&decide (b - ((a+b).tdiv 2)≤n)&&decide ((l).length≤1000000)&&fH D (l)&&fW D)=false:=t;rw [hW,((Sw.refl l)).fH hin,((Sw.refl l)).len] at t;simp [hM] at t;omega
                   ·skip
                    have s7:¬ ((W:Int)+m - x)<b:=(by simpa [aA,aB,hM] using s7);have c3:¬ (W<(W+Q - i)∧(W+Q - i)<B):=(by omega);(conv=>whnf);refine⟨rfl,?_⟩;show (0,aX.cells true false 1 (flat aN.fl (l)))::F=_;rw [aU];simp only [hst,uA (),uQ (),uB (),u1 (),u2 (),u3 (),u4 (),u5 (),uW (),if_neg n1,if_neg n2,if_neg c1,if_neg c2,if_neg c3]
                  ·skip
                   have s6:¬ (W:Int)<((W:Int)+m - x):=(by simpa [aA,aB,hM] using s6);have c3:¬ (W<(W+Q - i)∧(W+Q - i)<B):=(by omega);(conv=>whnf);refine⟨rfl,?_⟩;show (0,aX.cells true false 1 (flat aN.fl (l)))::F=_;rw [aU];simp only [hst,uA (),uQ (),uB (),u1 (),u2 (),u3 (),u4 (),u5 (),uW (),if_neg n1,if_neg n2,if_neg c1,if_neg c2,if_neg c3]
                ·skip
                 have s4:¬ a<x:=(by simpa [aA,aB,hM] using s4);have c2:¬ (A<i∧i<W):=(by omega);((conv=>whnf);refine bm (fun s6=>?_) (fun s6=>?_))
                 ·((conv=>whnf);refine bm (fun s7=>?_) (fun s7=>?_))
                  ·skip
                   have s6:(W:Int)<((W:Int)+m - x):=(by simpa [aA,aB,hM] using s6);have s7:((W:Int)+m - x)<b:=(by simpa [aA,aB,hM] using s7);have c3:W<(W+Q - i)∧(W+Q - i)<B:=(by omega);(conv=>whnf);refine⟨0,c,[iv ((a+b).tdiv 2),iv (((a+b).tdiv 2)+m - x),iv b],p,l,D,by rw [((Sw.refl l)).len];rfl,rfl,aV hC,a8 hF hD,?_⟩;((conv=>whnf);refine bm (fun t=>?_) (fun t=>?_))
                   ·skip
                    (conv=>whnf);refine⟨rfl,?_⟩;show (0,aX.cells true false 1 (flat aN.fl (aU D n (l) ((a+b).tdiv 2).toNat (((a+b).tdiv 2)+m - x).toNat b.toNat)))::F=_;rw [aU];simp only [hst,uA (),uQ (),uB (),u1 (),u2 (),u3 (),u4 (),u5 (),uW (),if_neg n1,if_neg n2,if_neg c1,if_neg c2,if_pos c3]
                   ·exfalso;have t:(decide (0≤((a+b).tdiv 2))&&decide (((a+b).tdiv 2)<(((a+b).tdiv 2)+m - x))&&decide ((((a+b).tdiv 2)+m - x)<b)&&decide (b≤(l).length)&&decide (b - ((a+b).tdiv 2)≤n)&&decide ((l).length≤1000000)&&fH D (l)&&fW D)=false:=t;rw [hW,((Sw.refl l)).fH hin,((Sw.refl l)).len] at t;simp [hM] at t;omega
                  ·skip
                   have s7:¬ ((W:Int)+m - x)<b:=(by simpa [aA,aB,hM] using s7);have c3:¬ (W<(W+Q - i)∧(W+Q - i)<B):=(by omega);(conv=>whnf);refine⟨rfl,?_⟩;show (0,aX.cells true false 1 (flat aN.fl (l)))::F=_;rw [aU];simp only [hst,uA (),uQ (),uB (),u1 (),u2 (),u3 (),u4 (),u5 (),uW (),if_neg n1,if_neg n2,if_neg c1,if_neg c2,if_neg c3]
                 ·skip
                  have s6:¬ (W:Int)<((W:Int)+m - x):=(by simpa [aA,aB,hM] using s6);have c3:¬ (W<(W+Q - i)∧(W+Q - i)<B):=(by omega);(conv=>whnf);refine⟨rfl,?_⟩;show (0,aX.cells true false 1 (flat aN.fl (l)))::F=_;rw [aU];simp only [hst,uA (),uQ (),uB (),u1 (),u2 (),u3 (),u4 (),u5 (),uW (),if_neg n1,if_neg n2,if_neg c1,if_neg c2,if_neg c3]
              ·skip
               have s2:¬ x<m:=(by simpa [aA,aB,hM] using s2);have c1:¬ (i<Q∧Q<(W+Q - i)):=(by omega);((conv=>whnf);refine bm (fun s4=>?_) (fun s4=>?_))
               ·((conv=>whnf);refine bm (fun s5=>?_) (fun s5=>?_))
                ·skip
                 have s4:a<x:=(by simpa [aA,aB,hM] using s4);have s5:x<(W:Int):=(by simpa [aA,aB,hM] using s5);have c2:A<i∧i<W:=(by omega);(conv=>whnf);refine⟨0,c,[iv a,iv x,iv ((a+b).tdiv 2)],p,l,D,by rw [((Sw.refl l)).len];rfl,rfl,aV hC,a8 hF hD,?_⟩;((conv=>whnf);refine bm (fun t=>?_) (fun t=>?_))
                 ·skip
                  have sw2:Sw l (aU D n (l) a.toNat x.toNat ((a+b).tdiv 2).toNat):=((Sw.refl l)).trans (mK D n _ _ _ _ (by simp only [uA (),uQ (),uB (),u1 (),u2 (),u3 (),u4 (),u5 ()];omega) (by simp only [uA (),uQ (),uB (),u1 (),u2 (),u3 (),u4 (),u5 ()];omega) (by rw [((Sw.refl l)).len];simp only [uA (),uQ (),uB (),u1 (),u2 (),u3 (),u4 (),u5 ()];omega));((conv=>whnf);refine bm (fun s6=>?_) (fun s6=>?_))
                  ·((conv=>whnf);refine bm (fun s7=>?_) (fun s7=>?_))
                   ·skip
                    have s6:(W:Int)<((W:Int)+m - x):=(by simpa [aA,aB,hM] using s6);have s7:((W:Int)+m - x)<b:=(by simpa [aA,aB,hM] using s7);have c3:W<(W+Q - i)∧(W+Q - i)<B:=(by omega);(conv=>whnf);refine⟨0,c,[iv ((a+b).tdiv 2),iv (((a+b).tdiv 2)+m - x),iv b],p,aU D n (l) a.toNat x.toNat ((a+b).tdiv 2).toNat,D,by rw [(sw2).len];rfl,rfl,aV hC,a8 hF hD,?_⟩;((conv=>whnf);refine bm (fun t=>?_) (fun t=>?_))
                    ·skip
                     (conv=>whnf);refine⟨rfl,?_⟩;show (0,aX.cells true false 1 (flat aN.fl (aU D n (aU D n (l) a.toNat x.toNat ((a+b).tdiv 2).toNat) ((a+b).tdiv 2).toNat (((a+b).tdiv 2)+m - x).toNat b.toNat)))::F=_;rw [aU];simp only [hst,uA (),uQ (),uB (),u1 (),u2 (),u3 (),u4 (),u5 (),uW (),if_neg n1,if_neg n2,if_neg c1,if_pos c2,if_pos c3]
                    ·exfalso;have t:(decide (0≤((a+b).tdiv 2))&&decide (((a+b).tdiv 2)<(((a+b).tdiv 2)+m - x))&&decide ((((a+b).tdiv 2)+m - x)<b)&&decide (b≤(aU D n (l) a.toNat x.toNat ((a+b).tdiv 2).toNat).length)&&decide (b - ((a+b).tdiv 2)≤n)&&decide ((aU D n (l) a.toNat x.toNat ((a+b).tdiv 2).toNat).length≤1000000)&&fH D (aU D n (l) a.toNat x.toNat ((a+b).tdiv 2).toNat)&&fW D)=false:=t;rw [hW,(sw2).fH hin,(sw2).len] at t;simp [hM] at t;omega
                   ·skip
                    have s7:¬ ((W:Int)+m - x)<b:=(by simpa [aA,aB,hM] using s7);have c3:¬ (W<(W+Q - i)∧(W+Q - i)<B):=(by omega);(conv=>whnf);refine⟨rfl,?_⟩;show (0,aX.cells true false 1 (flat aN.fl (aU D n (l) a.toNat x.toNat ((a+b).tdiv 2).toNat)))::F=_;rw [aU];simp only [hst,uA (),uQ (),uB (),u1 (),u2 (),u3 (),u4 (),u5 (),uW (),if_neg n1,if_neg n2,if_neg c1,if_pos c2,if_neg c3]
                  ·skip
                   have s6:¬ (W:Int)<((W:Int)+m - x):=(by simpa [aA,aB,hM] using s6);have c3:¬ (W<(W+Q - i)∧(W+Q - i)<B):=(by omega);(conv=>whnf);refine⟨rfl,?_⟩;show (0,aX.cells true false 1 (flat aN.fl (aU D n (l) a.toNat x.toNat ((a+b).tdiv 2).toNat)))::F=_;rw [aU];simp only [hst,uA (),uQ (),uB (),u1 (),u2 (),u3 (),u4 (),u5 (),uW (),if_neg n1,if_neg n2,if_neg c1,if_pos c2,if_neg c3]
                 ·exfalso;have t:(decide (0≤a)&&decide (a<x)&&decide (x<((a+b).tdiv 2))&&decide (((a+b).tdiv 2)≤(l).length)&&decide (((a+b).tdiv 2) - a≤n)&&decide ((l).length≤1000000)&&fH D (l)&&fW D)=false:=t;rw [hW,((Sw.refl l)).fH hin,((Sw.refl l)).len] at t;simp [hM] at t;omega
                ·skip
                 have s5:¬ x<(W:Int):=(by simpa [aA,aB,hM] using s5);have c2:¬ (A<i∧i<W):=(by omega);((conv=>whnf);refine bm (fun s6=>?_) (fun s6=>?_))
                 ·((conv=>whnf);refine bm (fun s7=>?_) (fun s7=>?_))
                  ·skip
                   have s6:(W:Int)<((W:Int)+m - x):=(by simpa [aA,aB,hM] using s6);have s7:((W:Int)+m - x)<b:=(by simpa [aA,aB,hM] using s7);have c3:W<(W+Q - i)∧(W+Q - i)<B:=(by omega);(conv=>whnf);refine⟨0,c,[iv ((a+b).tdiv 2),iv (((a+b).tdiv 2)+m - x),iv b],p,l,D,by rw [((Sw.refl l)).len];rfl,rfl,aV hC,a8 hF hD,?_⟩;((conv=>whnf);refine bm (fun t=>?_) (fun t=>?_))
                   ·skip
                    (conv=>whnf);refine⟨rfl,?_⟩;show (0,aX.cells true false 1 (flat aN.fl (aU D n (l) ((a+b).tdiv 2).toNat (((a+b).tdiv 2)+m - x).toNat b.toNat)))::F=_;rw [aU];simp only [hst,uA (),uQ (),uB (),u1 (),u2 (),u3 (),u4 (),u5 (),uW (),if_neg n1,if_neg n2,if_neg c1,if_neg c2,if_pos c3]
                   ·exfalso;have t:(decide (0≤((a+b).tdiv 2))&&decide (((a+b).tdiv 2)<(((a+b).tdiv 2)+m - x))&&decide ((((a+b).tdiv 2)+m - x)<b)&&decide (b≤(l).length)&&decide (b - ((a+b).tdiv 2)≤n)&&decide ((l).length≤1000000)&&fH D (l)&&fW D)=false:=t;rw [hW,((Sw.refl l)).fH hin,((Sw.refl l)).len] at t;simp [hM] at t;omega
                  ·skip
                   have s7:¬ ((W:Int)+m - x)<b:=(by simpa [aA,aB,hM] using s7);have c3:¬ (W<(W+Q - i)∧(W+Q - i)<B):=(by omega);(conv=>whnf);refine⟨rfl,?_⟩;show (0,aX.cells true false 1 (flat aN.fl (l)))::F=_;rw [aU];simp only [hst,uA (),uQ (),uB (),u1 (),u2 (),u3 (),u4 (),u5 (),uW (),if_neg n1,if_neg n2,if_neg c1,if_neg c2,if_neg c3]
                 ·skip
                  have s6:¬ (W:Int)<((W:Int)+m - x):=(by simpa [aA,aB,hM] using s6);have c3:¬ (W<(W+Q - i)∧(W+Q - i)<B):=(by omega);(conv=>whnf);refine⟨rfl,?_⟩;show (0,aX.cells true false 1 (flat aN.fl (l)))::F=_;rw [aU];simp only [hst,uA (),uQ (),uB (),u1 (),u2 (),u3 (),u4 (),u5 (),uW (),if_neg n1,if_neg n2,if_neg c1,if_neg c2,if_neg c3]
               ·skip
                have s4:¬ a<x:=(by simpa [aA,aB,hM] using s4);have c2:¬ (A<i∧i<W):=(by omega);((conv=>whnf);refine bm (fun s6=>?_) (fun s6=>?_))
                ·((conv=>whnf);refine bm (fun s7=>?_) (fun s7=>?_))
                 ·skip
                  have s6:(W:Int)<((W:Int)+m - x):=(by simpa [aA,aB,hM] using s6);have s7:((W:Int)+m - x)<b:=(by simpa [aA,aB,hM] using s7);have c3:W<(W+Q - i)∧(W+Q - i)<B:=(by omega);(conv=>whnf);refine⟨0,c,[iv ((a+b).tdiv 2),iv (((a+b).tdiv 2)+m - x),iv b],p,l,D,by rw [((Sw.refl l)).len];rfl,rfl,aV hC,a8 hF hD,?_⟩;((conv=>whnf);refine bm (fun t=>?_) (fun t=>?_))
                  ·skip
                   (conv=>whnf);refine⟨rfl,?_⟩;show (0,aX.cells true false 1 (flat aN.fl (aU D n (l) ((a+b).tdiv 2).toNat (((a+b).tdiv 2)+m - x).toNat b.toNat)))::F=_;rw [aU];simp only [hst,uA (),uQ (),uB (),u1 (),u2 (),u3 (),u4 (),u5 (),uW (),if_neg n1,if_neg n2,if_neg c1,if_neg c2,if_pos c3]
                  ·exfalso;have t:(decide (0≤((a+b).tdiv 2))&&decide (((a+b).tdiv 2)<(((a+b).tdiv 2)+m - x))&&decide ((((a+b).tdiv 2)+m - x)<b)&&decide (b≤(l).length)&&decide (b - ((a+b).tdiv 2)≤n)&&decide ((l).length≤1000000)&&fH D (l)&&fW D)=false:=t;rw [hW,((Sw.refl l)).fH hin,((Sw.refl l)).len] at t;simp [hM] at t;omega
                 ·skip
                  have s7:¬ ((W:Int)+m - x)<b:=(by simpa [aA,aB,hM] using s7);have c3:¬ (W<(W+Q - i)∧(W+Q - i)<B):=(by omega);(conv=>whnf);refine⟨rfl,?_⟩;show (0,aX.cells true false 1 (flat aN.fl (l)))::F=_;rw [aU];simp only [hst,uA (),uQ (),uB (),u1 (),u2 (),u3 (),u4 (),u5 (),uW (),if_neg n1,if_neg n2,if_neg c1,if_neg c2,if_neg c3]
                ·skip
                 have s6:¬ (W:Int)<((W:Int)+m - x):=(by simpa [aA,aB,hM] using s6);have c3:¬ (W<(W+Q - i)∧(W+Q - i)<B):=(by omega);(conv=>whnf);refine⟨rfl,?_⟩;show (0,aX.cells true false 1 (flat aN.fl (l)))::F=_;rw [aU];simp only [hst,uA (),uQ (),uB (),u1 (),u2 (),u3 (),u4 (),u5 (),uW (),if_neg n1,if_neg n2,if_neg c1,if_neg c2,if_neg c3]
           ·exfalso;simp [aA,aB,aI,hM] at g10;omega
          ·exfalso;simp [aA,aB,aI,hM] at g9;omega
         ·have g8:¬ (a+b).tdiv 2<m:=(by simpa [aA,aB] using g8);have hc:¬ (a.toNat+b.toNat) / 2<m.toNat:=(by omega);((conv=>whnf);refine bm (fun g10=>?_) (fun g10=>?_))
          ·skip
           (conv=>whnf);refine⟨fun q e h nx'=>∃ (i j k:Nat) (x y:Int),x=i∧y=j∧a.toNat≤i∧i≤j∧j≤m.toNat∧j - i≤k∧q=j - i∧wQ (fun c=>jW D (aK l ((a.toNat+b.toNat) / 2+m.toNat - 1 - c)) (aK l c)) (m.toNat - a.toNat) a.toNat m.toNat=wQ (fun c=>jW D (aK l ((a.toNat+b.toNat) / 2+m.toNat - 1 - c)) (aK l c)) k i j∧e=mS l.length c a m b ((a+b).tdiv 2) ((a+b).tdiv 2+m) ((a+b).tdiv 2+m - 1) x y p∧h=(0,.cells true false 1 (flat aN.fl l))::F∧nx'=nx,⟨m.toNat - a.toNat,?_⟩,?_⟩
           ·refine bL (e0:=mS l.length c a m b ((a+b).tdiv 2) ((a+b).tdiv 2+m) ((a+b).tdiv 2+m - 1) a m p) (o0:=.cells true false 1 (flat aN.fl l)) (n0:=nx) hF ⟨a.toNat,m.toNat,_,_,_,by omega,by omega,Nat.le_refl _,by omega,Nat.le_refl _,Nat.le_refl _,rfl,rfl,rfl,rfl,rfl⟩ ?_ (aO (aG _ _)) (Nat.le_refl _);unfold mS;refine List.forall_mem_cons.2 ⟨cV hF.1 rfl,List.forall_mem_cons.2 ⟨dP hp rfl,?_⟩⟩;((repeat' refine iE rfl rfl ?_);exact iN)
           ·rintro q e h nx' ⟨i,j,k,x,y,hx,hy,hi0,hij,hj,hk,rfl,hbs,rfl,rfl,rfl⟩;unfold mS;((conv=>whnf);refine bm (fun h1=>?_) (fun h1=>?_))
            ·have h1:i<j:=(by simp [aA,aB] at h1;omega);obtain⟨k',rfl⟩:∃ k',k=k'+1:=⟨k - 1,by omega⟩;rw [VV h1] at hbs;have qh:(x+y).tdiv 2=(((i+j) / 2:Nat):Int):=(by rw [Int.tdiv_eq_ediv_of_nonneg (by omega)];omega);((conv=>whnf);refine bm (fun q1=>?_) (fun q1=>?_))
             ·((conv=>whnf);refine bm (fun q2=>?_) (fun q2=>?_))
              ·((conv=>whnf);refine bm (fun q3=>?_) (fun q3=>?_))
               ·((conv=>whnf);refine bm (fun q4=>?_) (fun q4=>?_))
                ·((conv=>whnf);refine bm (fun q5a=>?_) (fun q5a=>?_));rotate_left;(exfalso;simp [aA,aB,aI,hM,qh] at q5a;omega);((conv=>whnf);refine bm (fun q5=>?_) (fun q5=>?_))
                 ·(conv=>whnf);refine gI (eK l (i:=((a.toNat+b.toNat) / 2+m.toNat - 1 - (i+j) / 2)) (by omega) ?_) ?_
                  ·show _+Int.toNat (((a+b).tdiv 2+m - 1 - (x+y).tdiv 2))*1=_;rw [qh];omega
                  ((conv=>whnf);refine bm (fun q6=>?_) (fun q6=>?_))
                  ·(conv=>whnf);refine gI (eK l (i:=(i+j) / 2) (by omega) ?_) ?_
                   ·show _+Int.toNat ((x+y).tdiv 2)*1=_;rw [qh];omega
                   (conv=>whnf);refine⟨aK l (((a.toNat+b.toNat) / 2+m.toNat - 1 - (i+j) / 2)),aK l ((i+j) / 2),p,D,rfl,AM hF hD,?_⟩;((conv=>whnf);refine bm (fun q7=>?_) (fun q7=>?_))
                   ·((conv=>whnf);refine bm (fun q8=>?_) (fun q8=>?_))
                    ·have q8:jW D (aK l ((a.toNat+b.toNat) / 2+m.toNat - 1 - (i+j) / 2)) (aK l ((i+j) / 2))=false:=(by have q8:(!(jW D (aK l ((a.toNat+b.toNat) / 2+m.toNat - 1 - (i+j) / 2)) (aK l ((i+j) / 2))))=true:=q8;simpa using q8);((conv=>whnf);refine bm (fun q9=>?_) (fun q9=>?_))
                     ·(conv=>whnf);refine⟨j - ((i+j) / 2+1),by omega,?_⟩;refine bL (e0:=mS l.length c a m b ((a+b).tdiv 2) ((a+b).tdiv 2+m) ((a+b).tdiv 2+m - 1) ((x+y).tdiv 2+1) y p) (o0:=.cells true false 1 (flat aN.fl l)) (n0:=nx') hF ⟨(i+j) / 2+1,j,k',_,_,by rw [qh];omega,hy,by omega,by omega,by omega,by omega,rfl,by rw [hbs,if_neg (by simp [q8])],rfl,rfl,rfl⟩ ?_ (aO (aG _ _)) (Nat.le_refl _);unfold mS;refine List.forall_mem_cons.2 ⟨cV hF.1 rfl,List.forall_mem_cons.2 ⟨dP hp rfl,?_⟩⟩;((repeat' refine iE rfl rfl ?_);exact iN)
                     ·exfalso;simp [aA,aB,aI,qh] at q9;omega
                    ·have q8:jW D (aK l ((a.toNat+b.toNat) / 2+m.toNat - 1 - (i+j) / 2)) (aK l ((i+j) / 2))=true:=(by have q8:(!(jW D (aK l ((a.toNat+b.toNat) / 2+m.toNat - 1 - (i+j) / 2)) (aK l ((i+j) / 2))))=false:=q8;simpa using q8);(conv=>whnf);refine⟨(i+j) / 2 - i,by omega,?_⟩;refine bL (e0:=mS l.length c a m b ((a+b).tdiv 2) ((a+b).tdiv 2+m) ((a+b).tdiv 2+m - 1) x ((x+y).tdiv 2) p) (o0:=.cells true false 1 (flat aN.fl l)) (n0:=nx') hF ⟨i,(i+j) / 2,k',_,_,hx,qh,hi0,by omega,by omega,by omega,rfl,by rw [hbs,if_pos (by simp [q8])],rfl,rfl,rfl⟩ ?_ (aO (aG _ _)) (Nat.le_refl _);unfold mS;refine List.forall_mem_cons.2 ⟨cV hF.1 rfl,List.forall_mem_cons.2 ⟨dP hp rfl,?_⟩⟩;((repeat' refine iE rfl rfl ?_);exact iN)
                   ·exfalso;have q7:tP D (aK l (((a.toNat+b.toNat) / 2+m.toNat - 1 - (i+j) / 2))) (aK l ((i+j) / 2))=false:=q7;rw [okc _ _ (by omega) (by omega)] at q7;cases q7
                  ·exfalso;simp [aA,aB,hM,qh] at q6;omega
                 ·exfalso;simp [aA,aB,hM,qh] at q5;omega
                ·exfalso;simp [aA,aB,hM,aI,qh] at q4;omega
               ·exfalso;simp [aA,aB] at q3;omega
              ·exfalso;simp [aA,aB,aI] at q2;omega
             ·exfalso;simp [aA,aB,aI] at q1;omega
            ·have h1:i=j:=(by simp [aA,aB] at h1;omega);subst h1;rw [DM] at hbs
             skip
             have hst:stM D l a.toNat m.toNat b.toNat=i:=(by unfold stM;simp only [if_neg hc];exact hbs);have low:=zR (D:=D) (L:=l) (a:=a.toNat) (m:=m.toNat) (b:=b.toNat) (by omega) (by omega);clear hbs hk hj hi0 hc g8;obtain⟨A,eA⟩:∃ A,a.toNat=A:=⟨_,rfl⟩;obtain⟨Q,eQ⟩:∃ Q,m.toNat=Q:=⟨_,rfl⟩;obtain⟨B,eB⟩:∃ B,b.toNat=B:=⟨_,rfl⟩;obtain⟨W,eW⟩:∃ W,(A+B) / 2=W:=⟨_,rfl⟩;rw [eA,eQ,eB] at hst;rw [eA,eQ,eB] at low;rw [hst,eW] at low;rw [eA,eB,eW] at hM;have zA:a=A:=(by omega);have zQ:m=Q:=(by omega);have zB:b=B:=(by omega);have uA:∀ _:Unit,a.toNat=A:=fun _=>eA;have uQ:∀ _:Unit,m.toNat=Q:=fun _=>eQ;have uB:∀ _:Unit,b.toNat=B:=fun _=>eB;have uW:∀ _:Unit,(A+B) / 2=W:=fun _=>eW;have zW:A+1≤W∧W+1≤B:=(by omega);clear eA eQ eB eW;have u1:∀ _:Unit,x.toNat=i:=fun _=>(by omega);have u2:∀ _:Unit,((a+b).tdiv 2).toNat=W:=fun _=>(by rw [hM];omega);have u3:∀ _:Unit,(m - x).toNat=Q - i:=fun _=>(by omega);have u4:∀ _:Unit,(((a+b).tdiv 2)+m - x).toNat=(W+Q - i):=fun _=>(by rw [hM];omega);have u5:∀ _:Unit,((((a+b).tdiv 2)+m - x) - m).toNat=(W+Q - i) - Q:=fun _=>(by rw [hM];omega);((conv=>whnf);refine bm (fun s1=>?_) (fun s1=>?_));rotate_left;(exfalso;simp [aA,aB,aI,hM] at s1;omega);have n1:¬ Q - A=1:=(by omega);have n2:¬ B - Q=1:=(by omega);((conv=>whnf);refine bm (fun s2=>?_) (fun s2=>?_))
             ·((conv=>whnf);refine bm (fun s3=>?_) (fun s3=>?_))
              ·skip
               have s2:x<m:=(by simpa [aA,aB,hM] using s2);have s3:m<((W:Int)+m - x):=(by simpa [aA,aB,hM] using s3);have c1:i<Q∧Q<(W+Q - i):=(by omega);(conv=>whnf);refine⟨0,c,[iv x,iv m,iv (((a+b).tdiv 2)+m - x)],p,l,D,rfl,rfl,aV hC,a8 hF hD,?_⟩;((conv=>whnf);refine bm (fun t=>?_) (fun t=>?_))
               ·have sw1:Sw l (bX m.toNat ((m - x).toNat+((((a+b).tdiv 2)+m - x) - m).toNat) l (m - x).toNat ((((a+b).tdiv 2)+m - x) - m).toNat):=uI _ _ _ _ _ (by simp only [uA (),uQ (),uB (),u1 (),u2 (),u3 (),u4 (),u5 ()];omega) (by simp only [uA (),uQ (),uB (),u1 (),u2 (),u3 (),u4 (),u5 ()];omega);((conv=>whnf);refine bm (fun s4=>?_) (fun s4=>?_))
                ·((conv=>whnf);refine bm (fun s5=>?_) (fun s5=>?_))
                 ·skip
                  have s4:a<x:=(by simpa [aA,aB,hM] using s4);have s5:x<(W:Int):=(by simpa [aA,aB,hM] using s5);have c2:A<i∧i<W:=(by omega);(conv=>whnf);refine⟨0,c,[iv a,iv x,iv ((a+b).tdiv 2)],p,bX m.toNat ((m - x).toNat+((((a+b).tdiv 2)+m - x) - m).toNat) l (m - x).toNat ((((a+b).tdiv 2)+m - x) - m).toNat,D,by rw [(sw1).len];rfl,rfl,aV hC,a8 hF hD,?_⟩;((conv=>whnf);refine bm (fun t=>?_) (fun t=>?_))
                  ·skip
                   have sw2:Sw l (aU D n (bX m.toNat ((m - x).toNat+((((a+b).tdiv 2)+m - x) - m).toNat) l (m - x).toNat ((((a+b).tdiv 2)+m - x) - m).toNat) a.toNat x.toNat ((a+b).tdiv 2).toNat):=(sw1).trans (mK D n _ _ _ _ (by simp only [uA (),uQ (),uB (),u1 (),u2 (),u3 (),u4 (),u5 ()];omega) (by simp only [uA (),uQ (),uB (),u1 (),u2 (),u3 (),u4 (),u5 ()];omega) (by rw [(sw1).len];simp only [uA (),uQ (),uB (),u1 (),u2 (),u3 (),u4 (),u5 ()];omega));((conv=>whnf);refine bm (fun s6=>?_) (fun s6=>?_))
                   ·((conv=>whnf);refine bm (fun s7=>?_) (fun s7=>?_))
                    ·skip
                     have s6:(W:Int)<((W:Int)+m - x):=(by simpa [aA,aB,hM] using s6);have s7:((W:Int)+m - x)<b:=(by simpa [aA,aB,hM] using s7);have c3:W<(W+Q - i)∧(W+Q - i)<B:=(by omega);(conv=>whnf);refine⟨0,c,[iv ((a+b).tdiv 2),iv (((a+b).tdiv 2)+m - x),iv b],p,aU D n (bX m.toNat ((m - x).toNat+((((a+b).tdiv 2)+m - x) - m).toNat) l (m - x).toNat ((((a+b).tdiv 2)+m - x) - m).toNat) a.toNat x.toNat ((a+b).tdiv 2).toNat,D,by rw [(sw2).len];rfl,rfl,aV hC,a8 hF hD,?_⟩;((conv=>whnf);refine bm (fun t=>?_) (fun t=>?_))
                     ·skip
                      (conv=>whnf);refine⟨rfl,?_⟩;show (0,aX.cells true false 1 (flat aN.fl (aU D n (aU D n (bX m.toNat ((m - x).toNat+((((a+b).tdiv 2)+m - x) - m).toNat) l (m - x).toNat ((((a+b).tdiv 2)+m - x) - m).toNat) a.toNat x.toNat ((a+b).tdiv 2).toNat) ((a+b).tdiv 2).toNat (((a+b).tdiv 2)+m - x).toNat b.toNat)))::F=_;rw [aU];simp only [hst,uA (),uQ (),uB (),u1 (),u2 (),u3 (),u4 (),u5 (),uW (),if_neg n1,if_neg n2,if_pos c1,if_pos c2,if_pos c3]
                     ·exfalso;have t:(decide (0≤((a+b).tdiv 2))&&decide (((a+b).tdiv 2)<(((a+b).tdiv 2)+m - x))&&decide ((((a+b).tdiv 2)+m - x)<b)&&decide (b≤(aU D n (bX m.toNat ((m - x).toNat+((((a+b).tdiv 2)+m - x) - m).toNat) l (m - x).toNat ((((a+b).tdiv 2)+m - x) - m).toNat) a.toNat x.toNat ((a+b).tdiv 2).toNat).length)&&decide (b - ((a+b).tdiv 2)≤n)&&decide ((aU D n (bX m.toNat ((m - x).toNat+((((a+b).tdiv 2)+m - x) - m).toNat) l (m - x).toNat ((((a+b).tdiv 2)+m - x) - m).toNat) a.toNat x.toNat ((a+b).tdiv 2).toNat).length≤1000000)&&fH D (aU D n (bX m.toNat ((m - x).toNat+((((a+b).tdiv 2)+m - x) - m).toNat) l (m - x).toNat ((((a+b).tdiv 2)+m - x) - m).toNat) a.toNat x.toNat ((a+b).tdiv 2).toNat)&&fW D)=false:=t;rw [hW,(sw2).fH hin,(sw2).len] at t;simp [hM] at t;omega
                    ·skip
                     have s7:¬ ((W:Int)+m - x)<b:=(by simpa [aA,aB,hM] using s7);have c3:¬ (W<(W+Q - i)∧(W+Q - i)<B):=(by omega);(conv=>whnf);refine⟨rfl,?_⟩;show (0,aX.cells true false 1 (flat aN.fl (aU D n (bX m.toNat ((m - x).toNat+((((a+b).tdiv 2)+m - x) - m).toNat) l (m - x).toNat ((((a+b).tdiv 2)+m - x) - m).toNat) a.toNat x.toNat ((a+b).tdiv 2).toNat)))::F=_;rw [aU];simp only [hst,uA (),uQ (),uB (),u1 (),u2 (),u3 (),u4 (),u5 (),uW (),if_neg n1,if_neg n2,if_pos c1,if_pos c2,if_neg c3]
                   ·skip
                    have s6:¬ (W:Int)<((W:Int)+m - x):=(by simpa [aA,aB,hM] using s6);have c3:¬ (W<(W+Q - i)∧(W+Q - i)<B):=(by omega);(conv=>whnf);refine⟨rfl,?_⟩;show (0,aX.cells true false 1 (flat aN.fl (aU D n (bX m.toNat ((m - x).toNat+((((a+b).tdiv 2)+m - x) - m).toNat) l (m - x).toNat ((((a+b).tdiv 2)+m - x) - m).toNat) a.toNat x.toNat ((a+b).tdiv 2).toNat)))::F=_;rw [aU];simp only [hst,uA (),uQ (),uB (),u1 (),u2 (),u3 (),u4 (),u5 (),uW (),if_neg n1,if_neg n2,if_pos c1,if_pos c2,if_neg c3]
                  ·exfalso;have t:(decide (0≤a)&&decide (a<x)&&decide (x<((a+b).tdiv 2))&&decide (((a+b).tdiv 2)≤(bX m.toNat ((m - x).toNat+((((a+b).tdiv 2)+m - x) - m).toNat) l (m - x).toNat ((((a+b).tdiv 2)+m - x) - m).toNat).length)&&decide (((a+b).tdiv 2) - a≤n)&&decide ((bX m.toNat ((m - x).toNat+((((a+b).tdiv 2)+m - x) - m).toNat) l (m - x).toNat ((((a+b).tdiv 2)+m - x) - m).toNat).length≤1000000)&&fH D (bX m.toNat ((m - x).toNat+((((a+b).tdiv 2)+m - x) - m).toNat) l (m - x).toNat ((((a+b).tdiv 2)+m - x) - m).toNat)&&fW D)=false:=t;rw [hW,(sw1).fH hin,(sw1).len] at t;simp [hM] at t;omega
                 ·skip
                  have s5:¬ x<(W:Int):=(by simpa [aA,aB,hM] using s5);have c2:¬ (A<i∧i<W):=(by omega);((conv=>whnf);refine bm (fun s6=>?_) (fun s6=>?_))
                  ·((conv=>whnf);refine bm (fun s7=>?_) (fun s7=>?_))
                   ·skip
                    have s6:(W:Int)<((W:Int)+m - x):=(by simpa [aA,aB,hM] using s6);have s7:((W:Int)+m - x)<b:=(by simpa [aA,aB,hM] using s7);have c3:W<(W+Q - i)∧(W+Q - i)<B:=(by omega);(conv=>whnf);refine⟨0,c,[iv ((a+b).tdiv 2),iv (((a+b).tdiv 2)+m - x),iv b],p,bX m.toNat ((m - x).toNat+((((a+b).tdiv 2)+m - x) - m).toNat) l (m - x).toNat ((((a+b).tdiv 2)+m - x) - m).toNat,D,by rw [(sw1).len];rfl,rfl,aV hC,a8 hF hD,?_⟩;((conv=>whnf);refine bm (fun t=>?_) (fun t=>?_))
                    ·skip
                     (conv=>whnf);refine⟨rfl,?_⟩;show (0,aX.cells true false 1 (flat aN.fl (aU D n (bX m.toNat ((m - x).toNat+((((a+b).tdiv 2)+m - x) - m).toNat) l (m - x).toNat ((((a+b).tdiv 2)+m - x) - m).toNat) ((a+b).tdiv 2).toNat (((a+b).tdiv 2)+m - x).toNat b.toNat)))::F=_;rw [aU];simp only [hst,uA (),uQ (),uB (),u1 (),u2 (),u3 (),u4 (),u5 (),uW (),if_neg n1,if_neg n2,if_pos c1,if_neg c2,if_pos c3]
                    ·exfalso;have t:(decide (0≤((a+b).tdiv 2))&&decide (((a+b).tdiv 2)<(((a+b).tdiv 2)+m - x))&&decide ((((a+b).tdiv 2)+m - x)<b)&&decide (b≤(bX m.toNat ((m - x).toNat+((((a+b).tdiv 2)+m - x) - m).toNat) l (m - x).toNat ((((a+b).tdiv 2)+m - x) - m).toNat).length)&&decide (b - ((a+b).tdiv 2)≤n)&&decide ((bX m.toNat ((m - x).toNat+((((a+b).tdiv 2)+m - x) - m).toNat) l (m - x).toNat ((((a+b).tdiv 2)+m - x) - m).toNat).length≤1000000)&&fH D (bX m.toNat ((m - x).toNat+((((a+b).tdiv 2)+m - x) - m).toNat) l (m - x).toNat ((((a+b).tdiv 2)+m - x) - m).toNat)&&fW D)=false:=t;rw [hW,(sw1).fH hin,(sw1).len] at t;simp [hM] at t;omega
                   ·skip
                    have s7:¬ ((W:Int)+m - x)<b:=(by simpa [aA,aB,hM] using s7);have c3:¬ (W<(W+Q - i)∧(W+Q - i)<B):=(by omega);(conv=>whnf);refine⟨rfl,?_⟩;show (0,aX.cells true false 1 (flat aN.fl (bX m.toNat ((m - x).toNat+((((a+b).tdiv 2)+m - x) - m).toNat) l (m - x).toNat ((((a+b).tdiv 2)+m - x) - m).toNat)))::F=_;rw [aU];simp only [hst,uA (),uQ (),uB (),u1 (),u2 (),u3 (),u4 (),u5 (),uW (),if_neg n1,if_neg n2,if_pos c1,if_neg c2,if_neg c3]
                  ·skip
                   have s6:¬ (W:Int)<((W:Int)+m - x):=(by simpa [aA,aB,hM] using s6);have c3:¬ (W<(W+Q - i)∧(W+Q - i)<B):=(by omega);(conv=>whnf);refine⟨rfl,?_⟩;show (0,aX.cells true false 1 (flat aN.fl (bX m.toNat ((m - x).toNat+((((a+b).tdiv 2)+m - x) - m).toNat) l (m - x).toNat ((((a+b).tdiv 2)+m - x) - m).toNat)))::F=_;rw [aU];simp only [hst,uA (),uQ (),uB (),u1 (),u2 (),u3 (),u4 (),u5 (),uW (),if_neg n1,if_neg n2,if_pos c1,if_neg c2,if_neg c3]
                ·skip
                 have s4:¬ a<x:=(by simpa [aA,aB,hM] using s4);have c2:¬ (A<i∧i<W):=(by omega);((conv=>whnf);refine bm (fun s6=>?_) (fun s6=>?_))
                 ·((conv=>whnf);refine bm (fun s7=>?_) (fun s7=>?_))
                  ·skip
                   have s6:(W:Int)<((W:Int)+m - x):=(by simpa [aA,aB,hM] using s6);have s7:((W:Int)+m - x)<b:=(by simpa [aA,aB,hM] using s7);have c3:W<(W+Q - i)∧(W+Q - i)<B:=(by omega);(conv=>whnf);refine⟨0,c,[iv ((a+b).tdiv 2),iv (((a+b).tdiv 2)+m - x),iv b],p,bX m.toNat ((m - x).toNat+((((a+b).tdiv 2)+m - x) - m).toNat) l (m - x).toNat ((((a+b).tdiv 2)+m - x) - m).toNat,D,by rw [(sw1).len];rfl,rfl,aV hC,a8 hF hD,?_⟩;((conv=>whnf);refine bm (fun t=>?_) (fun t=>?_))
                   ·skip
                    (conv=>whnf);refine⟨rfl,?_⟩;show (0,aX.cells true false 1 (flat aN.fl (aU D n (bX m.toNat ((m - x).toNat+((((a+b).tdiv 2)+m - x) - m).toNat) l (m - x).toNat ((((a+b).tdiv 2)+m - x) - m).toNat) ((a+b).tdiv 2).toNat (((a+b).tdiv 2)+m - x).toNat b.toNat)))::F=_;rw [aU];simp only [hst,uA (),uQ (),uB (),u1 (),u2 (),u3 (),u4 (),u5 (),uW (),if_neg n1,if_neg n2,if_pos c1,if_neg c2,if_pos c3]
                   ·exfalso;have t:(decide (0≤((a+b).tdiv 2))&&decide (((a+b).tdiv 2)<(((a+b).tdiv 2)+m - x))&&decide ((((a+b).tdiv 2)+m - x)<b)&&decide (b≤(bX m.toNat ((m - x).toNat+((((a+b).tdiv 2)+m - x) - m).toNat) l (m - x).toNat ((((a+b).tdiv 2)+m - x) - m).toNat).length)&&decide (b - ((a+b).tdiv 2)≤n)&&decide ((bX m.toNat ((m - x).toNat+((((a+b).tdiv 2)+m - x) - m).toNat) l (m - x).toNat ((((a+b).tdiv 2)+m - x) - m).toNat).length≤1000000)&&fH D (bX m.toNat ((m - x).toNat+((((a+b).tdiv 2)+m - x) - m).toNat) l (m - x).toNat ((((a+b).tdiv 2)+m - x) - m).toNat)&&fW D)=false:=t;rw [hW,(sw1).fH hin,(sw1).len] at t;simp [hM] at t;omega
                  ·skip
                   have s7:¬ ((W:Int)+m - x)<b:=(by simpa [aA,aB,hM] using s7);have c3:¬ (W<(W+Q - i)∧(W+Q - i)<B):=(by omega);(conv=>whnf);refine⟨rfl,?_⟩;show (0,aX.cells true false 1 (flat aN.fl (bX m.toNat ((m - x).toNat+((((a+b).tdiv 2)+m - x) - m).toNat) l (m - x).toNat ((((a+b).tdiv 2)+m - x) - m).toNat)))::F=_;rw [aU];simp only [hst,uA (),uQ (),uB (),u1 (),u2 (),u3 (),u4 (),u5 (),uW (),if_neg n1,if_neg n2,if_pos c1,if_neg c2,if_neg c3]
                 ·skip
                  have s6:¬ (W:Int)<((W:Int)+m - x):=(by simpa [aA,aB,hM] using s6);have c3:¬ (W<(W+Q - i)∧(W+Q - i)<B):=(by omega);(conv=>whnf);refine⟨rfl,?_⟩;show (0,aX.cells true false 1 (flat aN.fl (bX m.toNat ((m - x).toNat+((((a+b).tdiv 2)+m - x) - m).toNat) l (m - x).toNat ((((a+b).tdiv 2)+m - x) - m).toNat)))::F=_;rw [aU];simp only [hst,uA (),uQ (),uB (),u1 (),u2 (),u3 (),u4 (),u5 (),uW (),if_neg n1,if_neg n2,if_pos c1,if_neg c2,if_neg c3]
               ·exfalso;have t:(decide (0≤x)&&decide (x<m)&&decide (m<(((a+b).tdiv 2)+m - x))&&decide ((((a+b).tdiv 2)+m - x)≤l.length)&&decide (l.length≤1000000))=false:=t;simp [hM] at t;omega
              ·skip
               have s3:¬ m<((W:Int)+m - x):=(by simpa [aA,aB,hM] using s3);have c1:¬ (i<Q∧Q<(W+Q - i)):=(by omega);((conv=>whnf);refine bm (fun s4=>?_) (fun s4=>?_))
               ·((conv=>whnf);refine bm (fun s5=>?_) (fun s5=>?_))
                ·skip
                 have s4:a<x:=(by simpa [aA,aB,hM] using s4);have s5:x<(W:Int):=(by simpa [aA,aB,hM] using s5);have c2:A<i∧i<W:=(by omega);(conv=>whnf);refine⟨0,c,[iv a,iv x,iv ((a+b).tdiv 2)],p,l,D,by rw [((Sw.refl l)).len];rfl,rfl,aV hC,a8 hF hD,?_⟩;((conv=>whnf);refine bm (fun t=>?_) (fun t=>?_))
                 ·skip
                  have sw2:Sw l (aU D n (l) a.toNat x.toNat ((a+b).tdiv 2).toNat):=((Sw.refl l)).trans (mK D n _ _ _ _ (by simp only [uA (),uQ (),uB (),u1 (),u2 (),u3 (),u4 (),u5 ()];omega) (by simp only [uA (),uQ (),uB (),u1 (),u2 (),u3 (),u4 (),u5 ()];omega) (by rw [((Sw.refl l)).len];simp only [uA (),uQ (),uB (),u1 (),u2 (),u3 (),u4 (),u5 ()];omega));((conv=>whnf);refine bm (fun s6=>?_) (fun s6=>?_))
                  ·((conv=>whnf);refine bm (fun s7=>?_) (fun s7=>?_))
                   ·skip
                    have s6:(W:Int)<((W:Int)+m - x):=(by simpa [aA,aB,hM] using s6);have s7:((W:Int)+m - x)<b:=(by simpa [aA,aB,hM] using s7);have c3:W<(W+Q - i)∧(W+Q - i)<B:=(by omega);(conv=>whnf);refine⟨0,c,[iv ((a+b).tdiv 2),iv (((a+b).tdiv 2)+m - x),iv b],p,aU D n (l) a.toNat x.toNat ((a+b).tdiv 2).toNat,D,by rw [(sw2).len];rfl,rfl,aV hC,a8 hF hD,?_⟩;((conv=>whnf);refine bm (fun t=>?_) (fun t=>?_))
                    ·skip
                     (conv=>whnf);refine⟨rfl,?_⟩;show (0,aX.cells true false 1 (flat aN.fl (aU D n (aU D n (l) a.toNat x.toNat ((a+b).tdiv 2).toNat) ((a+b).tdiv 2).toNat (((a+b).tdiv 2)+m - x).toNat b.toNat)))::F=_;rw [aU];simp only [hst,uA (),uQ (),uB (),u1 (),u2 (),u3 (),u4 (),u5 (),uW (),if_neg n1,if_neg n2,if_neg c1,if_pos c2,if_pos c3]
                    ·exfalso;have t:(decide (0≤((a+b).tdiv 2))&&decide (((a+b).tdiv 2)<(((a+b).tdiv 2)+m - x))&&decide ((((a+b).tdiv 2)+m - x)<b)&&decide (b≤(aU D n (l) a.toNat x.toNat ((a+b).tdiv 2).toNat).length)&&decide (b - ((a+b).tdiv 2)≤n)&&decide ((aU D n (l) a.toNat x.toNat ((a+b).tdiv 2).toNat).length≤1000000)&&fH D (aU D n (l) a.toNat x.toNat ((a+b).tdiv 2).toNat)&&fW D)=false:=t;rw [hW,(sw2).fH hin,(sw2).len] at t;simp [hM] at t;omega
                   ·skip
                    have s7:¬ ((W:Int)+m - x)<b:=(by simpa [aA,aB,hM] using s7);have c3:¬ (W<(W+Q - i)∧(W+Q - i)<B):=(by omega);(conv=>whnf);refine⟨rfl,?_⟩;show (0,aX.cells true false 1 (flat aN.fl (aU D n (l) a.toNat x.toNat ((a+b).tdiv 2).toNat)))::F=_;rw [aU];simp only [hst,uA (),uQ (),uB (),u1 (),u2 (),u3 (),u4 (),u5 (),uW (),if_neg n1,if_neg n2,if_neg c1,if_pos c2,if_neg c3]
                  ·skip
                   have s6:¬ (W:Int)<((W:Int)+m - x):=(by simpa [aA,aB,hM] using s6);have c3:¬ (W<(W+Q - i)∧(W+Q - i)<B):=(by omega);(conv=>whnf);refine⟨rfl,?_⟩;show (0,aX.cells true false 1 (flat aN.fl (aU D n (l) a.toNat x.toNat ((a+b).tdiv 2).toNat)))::F=_;rw [aU];simp only [hst,uA (),uQ (),uB (),u1 (),u2 (),u3 (),u4 (),u5 (),uW (),if_neg n1,if_neg n2,if_neg c1,if_pos c2,if_neg c3]
                 ·exfalso;have t:(decide (0≤a)&&decide (a<x)&&decide (x<((a+b).tdiv 2))&&decide (((a+b).tdiv 2)≤(l).length)&&decide (((a+b).tdiv 2) - a≤n)&&decide ((l).length≤1000000)&&fH D (l)&&fW D)=false:=t;rw [hW,((Sw.refl l)).fH hin,((Sw.refl l)).len] at t;simp [hM] at t;omega
                ·skip
                 have s5:¬ x<(W:Int):=(by simpa [aA,aB,hM] using s5);have c2:¬ (A<i∧i<W):=(by omega);((conv=>whnf);refine bm (fun s6=>?_) (fun s6=>?_))
                 ·((conv=>whnf);refine bm (fun s7=>?_) (fun s7=>?_))
                  ·skip
                   have s6:(W:Int)<((W:Int)+m - x):=(by simpa [aA,aB,hM] using s6);have s7:((W:Int)+m - x)<b:=(by simpa [aA,aB,hM] using s7);have c3:W<(W+Q - i)∧(W+Q - i)<B:=(by omega);(conv=>whnf);refine⟨0,c,[iv ((a+b).tdiv 2),iv (((a+b).tdiv 2)+m - x),iv b],p,l,D,by rw [((Sw.refl l)).len];rfl,rfl,aV hC,a8 hF hD,?_⟩;((conv=>whnf);refine bm (fun t=>?_) (fun t=>?_))
                   ·skip
                    (conv=>whnf);refine⟨rfl,?_⟩;show (0,aX.cells true false 1 (flat aN.fl (aU D n (l) ((a+b).tdiv 2).toNat (((a+b).tdiv 2)+m - x).toNat b.toNat)))::F=_;rw [aU];simp only [hst,uA (),uQ (),uB (),u1 (),u2 (),u3 (),u4 (),u5 (),uW (),if_neg n1,if_neg n2,if_neg c1,if_neg c2,if_pos c3]
                   ·exfalso;have t:(decide (0≤((a+b).tdiv 2))&&decide (((a+b).tdiv 2)<(((a+b).tdiv 2)+m - x))&&decide ((((a+b).tdiv 2)+m - x)<b)&&decide (b≤(l).length)&&decide (b - ((a+b).tdiv 2)≤n)&&decide ((l).length≤1000000)&&fH D (l)&&fW D)=false:=t;rw [hW,((Sw.refl l)).fH hin,((Sw.refl l)).len] at t;simp [hM] at t;omega
                  ·skip
                   have s7:¬ ((W:Int)+m - x)<b:=(by simpa [aA,aB,hM] using s7);have c3:¬ (W<(W+Q - i)∧(W+Q - i)<B):=(by omega);(conv=>whnf);refine⟨rfl,?_⟩;show (0,aX.cells true false 1 (flat aN.fl (l)))::F=_;rw [aU];simp only [hst,uA (),uQ (),uB (),u1 (),u2 (),u3 (),u4 (),u5 (),uW (),if_neg n1,if_neg n2,if_neg c1,if_neg c2,if_neg c3]
                 ·skip
                  have s6:¬ (W:Int)<((W:Int)+m - x):=(by simpa [aA,aB,hM] using s6);have c3:¬ (W<(W+Q - i)∧(W+Q - i)<B):=(by omega);(conv=>whnf);refine⟨rfl,?_⟩;show (0,aX.cells true false 1 (flat aN.fl (l)))::F=_;rw [aU];simp only [hst,uA (),uQ (),uB (),u1 (),u2 (),u3 (),u4 (),u5 (),uW (),if_neg n1,if_neg n2,if_neg c1,if_neg c2,if_neg c3]
               ·skip
                have s4:¬ a<x:=(by simpa [aA,aB,hM] using s4);have c2:¬ (A<i∧i<W):=(by omega);((conv=>whnf);refine bm (fun s6=>?_) (fun s6=>?_))
                ·((conv=>whnf);refine bm (fun s7=>?_) (fun s7=>?_))
                 ·skip
                  have s6:(W:Int)<((W:Int)+m - x):=(by simpa [aA,aB,hM] using s6);have s7:((W:Int)+m - x)<b:=(by simpa [aA,aB,hM] using s7);have c3:W<(W+Q - i)∧(W+Q - i)<B:=(by omega);(conv=>whnf);refine⟨0,c,[iv ((a+b).tdiv 2),iv (((a+b).tdiv 2)+m - x),iv b],p,l,D,by rw [((Sw.refl l)).len];rfl,rfl,aV hC,a8 hF hD,?_⟩;((conv=>whnf);refine bm (fun t=>?_) (fun t=>?_))
                  ·skip
                   (conv=>whnf);refine⟨rfl,?_⟩;show (0,aX.cells true false 1 (flat aN.fl (aU D n (l) ((a+b).tdiv 2).toNat (((a+b).tdiv 2)+m - x).toNat b.toNat)))::F=_;rw [aU];simp only [hst,uA (),uQ (),uB (),u1 (),u2 (),u3 (),u4 (),u5 (),uW (),if_neg n1,if_neg n2,if_neg c1,if_neg c2,if_pos c3]
                  ·exfalso;have t:(decide (0≤((a+b).tdiv 2))&&decide (((a+b).tdiv 2)<(((a+b).tdiv 2)+m - x))&&decide ((((a+b).tdiv 2)+m - x)<b)&&decide (b≤(l).length)&&decide (b - ((a+b).tdiv 2)≤n)&&decide ((l).length≤1000000)&&fH D (l)&&fW D)=false:=t;rw [hW,((Sw.refl l)).fH hin,((Sw.refl l)).len] at t;simp [hM] at t;omega
                 ·skip
                  have s7:¬ ((W:Int)+m - x)<b:=(by simpa [aA,aB,hM] using s7);have c3:¬ (W<(W+Q - i)∧(W+Q - i)<B):=(by omega);(conv=>whnf);refine⟨rfl,?_⟩;show (0,aX.cells true false 1 (flat aN.fl (l)))::F=_;rw [aU];simp only [hst,uA (),uQ (),uB (),u1 (),u2 (),u3 (),u4 (),u5 (),uW (),if_neg n1,if_neg n2,if_neg c1,if_neg c2,if_neg c3]
                ·skip
                 have s6:¬ (W:Int)<((W:Int)+m - x):=(by simpa [aA,aB,hM] using s6);have c3:¬ (W<(W+Q - i)∧(W+Q - i)<B):=(by omega);(conv=>whnf);refine⟨rfl,?_⟩;show (0,aX.cells true false 1 (flat aN.fl (l)))::F=_;rw [aU];simp only [hst,uA (),uQ (),uB (),u1 (),u2 (),u3 (),u4 (),u5 (),uW (),if_neg n1,if_neg n2,if_neg c1,if_neg c2,if_neg c3]
             ·skip
              have s2:¬ x<m:=(by simpa [aA,aB,hM] using s2);have c1:¬ (i<Q∧Q<(W+Q - i)):=(by omega);((conv=>whnf);refine bm (fun s4=>?_) (fun s4=>?_))
              ·((conv=>whnf);refine bm (fun s5=>?_) (fun s5=>?_))
               ·skip
                have s4:a<x:=(by simpa [aA,aB,hM] using s4);have s5:x<(W:Int):=(by simpa [aA,aB,hM] using s5);have c2:A<i∧i<W:=(by omega);(conv=>whnf);refine⟨0,c,[iv a,iv x,iv ((a+b).tdiv 2)],p,l,D,by rw [((Sw.refl l)).len];rfl,rfl,aV hC,a8 hF hD,?_⟩;((conv=>whnf);refine bm (fun t=>?_) (fun t=>?_))
                ·skip
                 have sw2:Sw l (aU D n (l) a.toNat x.toNat ((a+b).tdiv 2).toNat):=((Sw.refl l)).trans (mK D n _ _ _ _ (by simp only [uA (),uQ (),uB (),u1 (),u2 (),u3 (),u4 (),u5 ()];omega) (by simp only [uA (),uQ (),uB (),u1 (),u2 (),u3 (),u4 (),u5 ()];omega) (by rw [((Sw.refl l)).len];simp only [uA (),uQ (),uB (),u1 (),u2 (),u3 (),u4 (),u5 ()];omega));((conv=>whnf);refine bm (fun s6=>?_) (fun s6=>?_))
                 ·((conv=>whnf);refine bm (fun s7=>?_) (fun s7=>?_))
                  ·skip
                   have s6:(W:Int)<((W:Int)+m - x):=(by simpa [aA,aB,hM] using s6);have s7:((W:Int)+m - x)<b:=(by simpa [aA,aB,hM] using s7);have c3:W<(W+Q - i)∧(W+Q - i)<B:=(by omega);(conv=>whnf);refine⟨0,c,[iv ((a+b).tdiv 2),iv (((a+b).tdiv 2)+m - x),iv b],p,aU D n (l) a.toNat x.toNat ((a+b).tdiv 2).toNat,D,by rw [(sw2).len];rfl,rfl,aV hC,a8 hF hD,?_⟩;((conv=>whnf);refine bm (fun t=>?_) (fun t=>?_))
                   ·skip
                    (conv=>whnf);refine⟨rfl,?_⟩;show (0,aX.cells true false 1 (flat aN.fl (aU D n (aU D n (l) a.toNat x.toNat ((a+b).tdiv 2).toNat) ((a+b).tdiv 2).toNat (((a+b).tdiv 2)+m - x).toNat b.toNat)))::F=_;rw [aU];simp only [hst,uA (),uQ (),uB (),u1 (),u2 (),u3 (),u4 (),u5 (),uW (),if_neg n1,if_neg n2,if_neg c1,if_pos c2,if_pos c3]
                   ·exfalso;have t:(decide (0≤((a+b).tdiv 2))&&decide (((a+b).tdiv 2)<(((a+b).tdiv 2)+m - x))&&decide ((((a+b).tdiv 2)+m - x)<b)&&decide (b≤(aU D n (l) a.toNat x.toNat ((a+b).tdiv 2).toNat).length)&&decide (b - ((a+b).tdiv 2)≤n)&&decide ((aU D n (l) a.toNat x.toNat ((a+b).tdiv 2).toNat).length≤1000000)&&fH D (aU D n (l) a.toNat x.toNat ((a+b).tdiv 2).toNat)&&fW D)=false:=t;rw [hW,(sw2).fH hin,(sw2).len] at t;simp [hM] at t;omega
                  ·skip
                   have s7:¬ ((W:Int)+m - x)<b:=(by simpa [aA,aB,hM] using s7);have c3:¬ (W<(W+Q - i)∧(W+Q - i)<B):=(by omega);(conv=>whnf);refine⟨rfl,?_⟩;show (0,aX.cells true false 1 (flat aN.fl (aU D n (l) a.toNat x.toNat ((a+b).tdiv 2).toNat)))::F=_;rw [aU];simp only [hst,uA (),uQ (),uB (),u1 (),u2 (),u3 (),u4 (),u5 (),uW (),if_neg n1,if_neg n2,if_neg c1,if_pos c2,if_neg c3]
                 ·skip
                  have s6:¬ (W:Int)<((W:Int)+m - x):=(by simpa [aA,aB,hM] using s6);have c3:¬ (W<(W+Q - i)∧(W+Q - i)<B):=(by omega);(conv=>whnf);refine⟨rfl,?_⟩;show (0,aX.cells true false 1 (flat aN.fl (aU D n (l) a.toNat x.toNat ((a+b).tdiv 2).toNat)))::F=_;rw [aU];simp only [hst,uA (),uQ (),uB (),u1 (),u2 (),u3 (),u4 (),u5 (),uW (),if_neg n1,if_neg n2,if_neg c1,if_pos c2,if_neg c3]
                ·exfalso;have t:(decide (0≤a)&&decide (a<x)&&decide (x<((a+b).tdiv 2))&&decide (((a+b).tdiv 2)≤(l).length)&&decide (((a+b).tdiv 2) - a≤n)&&decide ((l).length≤1000000)&&fH D (l)&&fW D)=false:=t;rw [hW,((Sw.refl l)).fH hin,((Sw.refl l)).len] at t;simp [hM] at t;omega
               ·skip
                have s5:¬ x<(W:Int):=(by simpa [aA,aB,hM] using s5);have c2:¬ (A<i∧i<W):=(by omega);((conv=>whnf);refine bm (fun s6=>?_) (fun s6=>?_))
                ·((conv=>whnf);refine bm (fun s7=>?_) (fun s7=>?_))
                 ·skip
                  have s6:(W:Int)<((W:Int)+m - x):=(by simpa [aA,aB,hM] using s6);have s7:((W:Int)+m - x)<b:=(by simpa [aA,aB,hM] using s7);have c3:W<(W+Q - i)∧(W+Q - i)<B:=(by omega);(conv=>whnf);refine⟨0,c,[iv ((a+b).tdiv 2),iv (((a+b).tdiv 2)+m - x),iv b],p,l,D,by rw [((Sw.refl l)).len];rfl,rfl,aV hC,a8 hF hD,?_⟩;((conv=>whnf);refine bm (fun t=>?_) (fun t=>?_))
                  ·skip
                   (conv=>whnf);refine⟨rfl,?_⟩;show (0,aX.cells true false 1 (flat aN.fl (aU D n (l) ((a+b).tdiv 2).toNat (((a+b).tdiv 2)+m - x).toNat b.toNat)))::F=_;rw [aU];simp only [hst,uA (),uQ (),uB (),u1 (),u2 (),u3 (),u4 (),u5 (),uW (),if_neg n1,if_neg n2,if_neg c1,if_neg c2,if_pos c3]
                  ·exfalso;have t:(decide (0≤((a+b).tdiv 2))&&decide (((a+b).tdiv 2)<(((a+b).tdiv 2)+m - x))&&decide ((((a+b).tdiv 2)+m - x)<b)&&decide (b≤(l).length)&&decide (b - ((a+b).tdiv 2)≤n)&&decide ((l).length≤1000000)&&fH D (l)&&fW D)=false:=t;rw [hW,((Sw.refl l)).fH hin,((Sw.refl l)).len] at t;simp [hM] at t;omega
                 ·skip
                  have s7:¬ ((W:Int)+m - x)<b:=(by simpa [aA,aB,hM] using s7);have c3:¬ (W<(W+Q - i)∧(W+Q - i)<B):=(by omega);(conv=>whnf);refine⟨rfl,?_⟩;show (0,aX.cells true false 1 (flat aN.fl (l)))::F=_;rw [aU];simp only [hst,uA (),uQ (),uB (),u1 (),u2 (),u3 (),u4 (),u5 (),uW (),if_neg n1,if_neg n2,if_neg c1,if_neg c2,if_neg c3]
                ·skip
                 have s6:¬ (W:Int)<((W:Int)+m - x):=(by simpa [aA,aB,hM] using s6);have c3:¬ (W<(W+Q - i)∧(W+Q - i)<B):=(by omega);(conv=>whnf);refine⟨rfl,?_⟩;show (0,aX.cells true false 1 (flat aN.fl (l)))::F=_;rw [aU];simp only [hst,uA (),uQ (),uB (),u1 (),u2 (),u3 (),u4 (),u5 (),uW (),if_neg n1,if_neg n2,if_neg c1,if_neg c2,if_neg c3]
              ·skip
               have s4:¬ a<x:=(by simpa [aA,aB,hM] using s4);have c2:¬ (A<i∧i<W):=(by omega);((conv=>whnf);refine bm (fun s6=>?_) (fun s6=>?_))
               ·((conv=>whnf);refine bm (fun s7=>?_) (fun s7=>?_))
                ·skip
                 have s6:(W:Int)<((W:Int)+m - x):=(by simpa [aA,aB,hM] using s6);have s7:((W:Int)+m - x)<b:=(by simpa [aA,aB,hM] using s7);have c3:W<(W+Q - i)∧(W+Q - i)<B:=(by omega);(conv=>whnf);refine⟨0,c,[iv ((a+b).tdiv 2),iv (((a+b).tdiv 2)+m - x),iv b],p,l,D,by rw [((Sw.refl l)).len];rfl,rfl,aV hC,a8 hF hD,?_⟩;((conv=>whnf);refine bm (fun t=>?_) (fun t=>?_))
                 ·skip
                  (conv=>whnf);refine⟨rfl,?_⟩;show (0,aX.cells true false 1 (flat aN.fl (aU D n (l) ((a+b).tdiv 2).toNat (((a+b).tdiv 2)+m - x).toNat b.toNat)))::F=_;rw [aU];simp only [hst,uA (),uQ (),uB (),u1 (),u2 (),u3 (),u4 (),u5 (),uW (),if_neg n1,if_neg n2,if_neg c1,if_neg c2,if_pos c3]
                 ·exfalso;have t:(decide (0≤((a+b).tdiv 2))&&decide (((a+b).tdiv 2)<(((a+b).tdiv 2)+m - x))&&decide ((((a+b).tdiv 2)+m - x)<b)&&decide (b≤(l).length)&&decide (b - ((a+b).tdiv 2)≤n)&&decide ((l).length≤1000000)&&fH D (l)&&fW D)=false:=t;rw [hW,((Sw.refl l)).fH hin,((Sw.refl l)).len] at t;simp [hM] at t;omega
                ·skip
                 have s7:¬ ((W:Int)+m - x)<b:=(by simpa [aA,aB,hM] using s7);have c3:¬ (W<(W+Q - i)∧(W+Q - i)<B):=(by omega);(conv=>whnf);refine⟨rfl,?_⟩;show (0,aX.cells true false 1 (flat aN.fl (l)))::F=_;rw [aU];simp only [hst,uA (),uQ (),uB (),u1 (),u2 (),u3 (),u4 (),u5 (),uW (),if_neg n1,if_neg n2,if_neg c1,if_neg c2,if_neg c3]
               ·skip
                have s6:¬ (W:Int)<((W:Int)+m - x):=(by simpa [aA,aB,hM] using s6);have c3:¬ (W<(W+Q - i)∧(W+Q - i)<B):=(by omega);(conv=>whnf);refine⟨rfl,?_⟩;show (0,aX.cells true false 1 (flat aN.fl (l)))::F=_;rw [aU];simp only [hst,uA (),uQ (),uB (),u1 (),u2 (),u3 (),u4 (),u5 (),uW (),if_neg n1,if_neg n2,if_neg c1,if_neg c2,if_neg c3]
          ·exfalso;simp [aA,aB,aI,hM] at g10;omega
        ·exfalso;simp [aA,aB,aI,hM] at g7;omega
       ·exfalso;simp [aA,aB,aI,hM] at g6;omega
      ·exfalso;simp [aA,aB,aI] at g5;omega
    ·exfalso;simp [aA,aB,aI] at g3;omega
  ·exfalso;simp [aA,aB,aI] at g1;omega
end Go.Aw
end
