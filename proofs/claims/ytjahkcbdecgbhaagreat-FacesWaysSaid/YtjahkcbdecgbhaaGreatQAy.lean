/-
  Parts of a proof. No condition.
-/
import Derived.Test.YtjahkcbdecgbhaaGreatQAx
set_option linter.unusedSimpArgs false
set_option linter.unusedVariables false
noncomputable section
namespace Go.Aw
set_option maxRecDepth 100000
set_option maxHeartbeats 4000000
def aAV (n:Nat)(D:List Dt)(l:List Int)(r:List Value)(c:Nat):Option (Bool × List Int):=match r with
 |[.int .i64 a,.int .i64 m,.int .i64 b]=>some (decide (0≤a)&&decide (a<m)&&decide (m<b)&&decide (b≤l.length)&&decide (b - a≤n)&&decide (l.length≤1000000)&&fI D l&&fV D,aZ D n l a.toNat m.toNat b.toNat)
 |_=>none
theorem QQ {n:Nat}{D:List Dt}{l:List Int}{r:List Value}{c:Nat}{l':List Int}(h:aAV n D l r c=some (true,l')):∃ a m b:Int,r=[iv a,iv m,iv b]∧0≤a∧a<m∧m<b∧b≤l.length∧b - a≤n∧l.length≤1000000∧fI D l=true∧fV D=true∧l'=aZ D n l a.toNat m.toNat b.toNat:=by
 unfold aAV at h;split at h
 ·rename_i a m b;injection h with h;injection h with h1 h2;simp only [Bool.and_eq_true,decide_eq_true_eq] at h1;obtain⟨⟨⟨⟨⟨⟨⟨p1,p2⟩,p3⟩,p4⟩,p5⟩,p6⟩,p7⟩,p8⟩:=h1;exact⟨a,m,b,rfl,p1,p2,p3,p4,p5,p6,p7,p8,h2.symm⟩
 ·cases h
theorem WX {f:Nat→Bool}{k i j:Nat}(h:i<j):wY f (k+1) i j=if f ((i+j) / 2)=true then wY f k i ((i+j) / 2) else wY f k ((i+j) / 2+1) j:=by
 conv=>lhs;unfold wY
 rw [if_pos h]
def C2 (N c:Nat)(a i j:Int)(p:Nat):List (Nat × Value):=[(0,.slice (some ⟨0,0,none⟩) N c),(4,mQ p),(1,iv a),(10,iv i),(11,iv j)]
def J0 (N c:Nat)(i k:Int):List (Nat × Value):=[(0,.slice (some ⟨0,0,none⟩) N c),(10,iv i),(13,iv k)]
def CD (N c:Nat)(m i j:Int)(p:Nat):List (Nat × Value):=[(0,.slice (some ⟨0,0,none⟩) N c),(4,mQ p),(2,iv m),(14,iv i),(15,iv j)]
def JS (N c:Nat)(i k:Int):List (Nat × Value):=[(0,.slice (some ⟨0,0,none⟩) N c),(14,iv i),(17,iv k)]
def mU (N c:Nat)(a m b mid nn p1 i j:Int)(p:Nat):List (Nat × Value):=[(0,.slice (some ⟨0,0,none⟩) N c),(4,mQ p),(1,iv a),(2,iv m),(3,iv b),(18,iv mid),(19,iv nn),(22,iv p1),(20,iv i),(21,iv j)]
theorem aFU:∀ n,cT Go.Proofs.Tryz.prog 266 (RP (aAV n))
 |0=>u6 (aL (xl:=[]) .nil) fun D l r c l' hs=>by
  obtain⟨a,m,b,rfl,ha,ham,hmb,hb,hn,_⟩:=QQ hs;omega
 |n+1=>u6 (aL (xl:=[aBO,(266,RP (aAV n)),X6]) (.cons aJU (.cons (aFU n) (.cons aGw .nil)))) fun D l r c l' hs=>by
  obtain⟨a,m,b,rfl,ha,ham,hmb,hb,hn,hl,hin,hW,rfl⟩:=QQ hs;clear hs;refine⟨rfl,fun F nx p hF hC hD=>?_⟩;have hp:=AP hF hD;have hl1:(flat aP.fl l).length=l.length:=(by rw [a7];exact Nat.mul_one _);have okc:∀ x y:Nat,x<l.length→y<l.length→tK D (aD l x) (aD l y)=true:=fun x y hx hy=>by
   have i1:=jY hin hx;have i2:=jY hin hy;rw [tK,hW,decide_eq_true i1.1,decide_eq_true i1.2,decide_eq_true i2.1,decide_eq_true i2.2];rfl
  ((conv=>whnf);apply bm<;>intro g1);rotate_left
  ·exfalso;simp [aA,aC,aF] at g1;omega
  ((conv=>whnf);apply bm<;>intro g2)
  ·have g2:m - a=1:=(by simpa [aA,aC] using g2);(conv=>whnf);refine⟨fun q e h nx'=>∃ (i j k:Nat) (x y:Int),x=i∧y=j∧m.toNat≤i∧i≤j∧j≤b.toNat∧j - i≤k∧q=j - i∧wY (fun h=>!(jZ D (aD l h) (aD l a.toNat))) (b.toNat - m.toNat) m.toNat b.toNat=wY (fun h=>!(jZ D (aD l h) (aD l a.toNat))) k i j∧e=C2 l.length c a x y p∧h=(0,.cells true false 1 (flat aP.fl l))::F∧nx'=nx,⟨b.toNat - m.toNat,?_⟩,?_⟩
   ·refine bM (e0:=C2 l.length c a m b p) (o0:=.cells true false 1 (flat aP.fl l)) (n0:=nx) hF ⟨m.toNat,b.toNat,_,_,_,by omega,by omega,Nat.le_refl _,by omega,Nat.le_refl _,Nat.le_refl _,rfl,rfl,rfl,rfl,rfl⟩ ?_ (aN (aH _ _)) (Nat.le_refl _);unfold C2;refine List.forall_mem_cons.2 ⟨cW hF.1 rfl,List.forall_mem_cons.2 ⟨dQ hp rfl,?_⟩⟩;((repeat' refine iE rfl rfl ?_);exact iN)
   rintro q e h nx' ⟨i,j,k,x,y,hx,hy,hi0,hij,hj,hk,rfl,hbs,rfl,rfl,rfl⟩;unfold C2;((conv=>whnf);apply bm<;>intro h1)
   ·have h1:i<j:=(by simp [aA,aC] at h1;omega);obtain⟨k',rfl⟩:∃ k',k=k'+1:=⟨k - 1,by omega⟩;rw [WX h1] at hbs;have qh:(x+y).tdiv 2=(((i+j) / 2:Nat):Int):=(by rw [Int.tdiv_eq_ediv_of_nonneg (by omega)];omega);((conv=>whnf);apply bm<;>intro q1);rotate_left
    ·exfalso;simp [aA,aC,aF] at q1;omega
    ((conv=>whnf);apply bm<;>intro q2);rotate_left
    ·exfalso;simp [aA,aC,aF] at q2;omega
    ((conv=>whnf);apply bm<;>intro q3);rotate_left
    ·exfalso;simp [aA,aC] at q3;omega
    ((conv=>whnf);apply bm<;>intro q4);rotate_left
    ·exfalso;simp [aA,aC,aF,qh] at q4;omega
    ((conv=>whnf);apply bm<;>intro q5);rotate_left
    ·exfalso;simp [aA,aC,qh] at q5;omega
    (conv=>whnf);refine eC (bY l (i:=(i+j) / 2) (by omega) ?_) ?_
    ·show _+Int.toNat ((x+y).tdiv 2)*1=_;rw [qh];omega
    ((conv=>whnf);apply bm<;>intro q6);rotate_left
    ·exfalso;simp [aA,aC,qh] at q6;omega
    (conv=>whnf);refine eC (bY l (i:=a.toNat) (by omega) ?_) ?_
    ·show _+Int.toNat (a)*1=_;omega
    (conv=>whnf);refine⟨aD l ((i+j) / 2),aD l (a.toNat),p,D,rfl,AI hF hD,?_⟩;((conv=>whnf);apply bm<;>intro q7)
    ·((conv=>whnf);apply bm<;>intro q8)
     ·have q8:jZ D (aD l ((i+j) / 2)) (aD l (a.toNat))=true:=q8;((conv=>whnf);apply bm<;>intro q9)
      ·(conv=>whnf);refine⟨j - ((i+j) / 2+1),by omega,?_⟩;refine bM (e0:=C2 l.length c a ((x+y).tdiv 2+1) y p) (o0:=.cells true false 1 (flat aP.fl l)) (n0:=nx') hF ⟨(i+j) / 2+1,j,k',_,_,by rw [qh];omega,hy,by omega,by omega,by omega,by omega,rfl,by rw [hbs,if_neg (by simp [q8])],rfl,rfl,rfl⟩ ?_ (aN (aH _ _)) (Nat.le_refl _);unfold C2;refine List.forall_mem_cons.2 ⟨cW hF.1 rfl,List.forall_mem_cons.2 ⟨dQ hp rfl,?_⟩⟩;((repeat' refine iE rfl rfl ?_);exact iN)
      exfalso;simp [aA,aC,aF,qh] at q9;omega
     have q8:jZ D (aD l ((i+j) / 2)) (aD l (a.toNat))=false:=q8;(conv=>whnf);refine⟨(i+j) / 2 - i,by omega,?_⟩;refine bM (e0:=C2 l.length c a x ((x+y).tdiv 2) p) (o0:=.cells true false 1 (flat aP.fl l)) (n0:=nx') hF ⟨i,(i+j) / 2,k',_,_,hx,qh,hi0,by omega,by omega,by omega,rfl,by rw [hbs,if_pos (by simp [q8])],rfl,rfl,rfl⟩ ?_ (aN (aH _ _)) (Nat.le_refl _);unfold C2;refine List.forall_mem_cons.2 ⟨cW hF.1 rfl,List.forall_mem_cons.2 ⟨dQ hp rfl,?_⟩⟩;((repeat' refine iE rfl rfl ?_);exact iN)
    exfalso;have q7:tK D (aD l ((i+j) / 2)) (aD l (a.toNat))=false:=q7;rw [okc _ _ (by omega) (by omega)] at q7;cases q7
   have h1:i=j:=(by simp [aA,aC] at h1;omega);subst h1;rw [EU] at hbs;(conv=>whnf);refine⟨fun q e h nx''=>∃ (t:Nat) (z:Int),z=a.toNat+t∧t≤(i - 1 - a.toNat)∧q=(i - 1 - a.toNat) - t∧e=J0 l.length c x (z)∧h=(0,.cells true false 1 (flat aP.fl (ZY l a.toNat t)))::F∧nx''=nx',⟨(i - 1 - a.toNat),?_⟩,?_⟩
   ·refine bM (e0:=J0 l.length c x (a)) (o0:=.cells true false 1 (flat aP.fl l)) (n0:=nx') hF ⟨0,_,by omega,Nat.zero_le _,rfl,rfl,rfl,rfl⟩ ?_ (aN (aH _ _)) (Nat.le_refl _);unfold J0;refine List.forall_mem_cons.2 ⟨cW hF.1 rfl,?_⟩;((repeat' refine iE rfl rfl ?_);exact iN)
   rintro q e h nx'' ⟨t,z,hz,ht,rfl,rfl,rfl,rfl⟩;have sw:=aAy l a.toNat t (by omega);have sl:=sw.len;have nxt:ZY l a.toNat (t+1)=nB (ZY l a.toNat t) (a.toNat+t) (a.toNat+t+1):=rfl;generalize hs0:ZY l a.toNat t=L at sl nxt;have hl1:(flat aP.fl L).length=L.length:=(by rw [a7];exact Nat.mul_one _);unfold J0;((conv=>whnf);apply bm<;>intro r1);rotate_left
   ·exfalso;simp [aA,aC,aF] at r1;omega
   skip
   ((conv=>whnf);apply bm<;>intro r2);rotate_left
   ·have r2:t=(i - 1 - a.toNat):=(by simp [aA,aC] at r2;omega);(conv=>whnf);refine⟨rfl,?_⟩;rw [← hs0,r2,aZ,if_pos (by omega),hbs]
   have r2:t<(i - 1 - a.toNat):=(by simp [aA,aC] at r2;omega);have bZ:=ER (L:=L) (x:=a.toNat+t) (y:=a.toNat+t+1) (o1:=0+z.toNat*1) (o2:=0+(z+1).toNat*1) (by omega) (by omega) (by omega) (by omega)
   repeat' first
    |(((conv=>whnf);apply bm<;>intro g))
    |((conv=>whnf)
      refine eC (bY L (i:=a.toNat+t) (by omega) ?_) ?_
      ·show _+Int.toNat z*1=_;omega)
    |((conv=>whnf)
      refine eC (bY L (i:=a.toNat+t+1) (by omega) ?_) ?_
      ·show _+Int.toNat (z+1)*1=_;omega)
   all_goals first
    |(exfalso;simp [aA,aC,aF] at g;omega)
    |(have g:(0+z.toNat*1+1).ble (flat aP.fl L).length=false:=g
      rw [hl1] at g;exact eZ g (by omega))
    |(have g:(0+(z+1).toNat*1+1).ble (cN (flat aP.fl L) (0+z.toNat*1) [iv (aD L (a.toNat+t+1))]).length=false:=g
      rw [dN (by rw [hl1];show 0+z.toNat*1+1≤L.length;omega),hl1] at g;exact eZ g (by omega))
    |skip
   (conv=>whnf);refine⟨(i - 1 - a.toNat) - (t+1),by omega,?_⟩;refine bM (e0:=J0 l.length c x (z+1)) (o0:=.cells true false 1 (flat aP.fl (nB L (a.toNat+t) (a.toNat+t+1)))) (n0:=nx'') hF ⟨t+1,z+1,by omega,by omega,rfl,rfl,by rw [nxt],rfl⟩ ?_ (aU (aH _ _) bZ) (Nat.le_refl _);unfold J0;refine List.forall_mem_cons.2 ⟨cW hF.1 rfl,?_⟩;((repeat' refine iE rfl rfl ?_);exact iN)
  have g2:¬ m - a=1:=(by simpa [aA,aC] using g2);((conv=>whnf);apply bm<;>intro g3);rotate_left
  ·exfalso;simp [aA,aC,aF] at g3;omega
  ((conv=>whnf);apply bm<;>intro g4)
  ·have g4:b - m=1:=(by simpa [aA,aC] using g4);(conv=>whnf);refine⟨fun q e h nx'=>∃ (i j k:Nat) (x y:Int),x=i∧y=j∧a.toNat≤i∧i≤j∧j≤m.toNat∧j - i≤k∧q=j - i∧wY (fun h=>jZ D (aD l m.toNat) (aD l h)) (m.toNat - a.toNat) a.toNat m.toNat=wY (fun h=>jZ D (aD l m.toNat) (aD l h)) k i j∧e=CD l.length c m x y p∧h=(0,.cells true false 1 (flat aP.fl l))::F∧nx'=nx,⟨m.toNat - a.toNat,?_⟩,?_⟩
   ·refine bM (e0:=CD l.length c m a m p) (o0:=.cells true false 1 (flat aP.fl l)) (n0:=nx) hF ⟨a.toNat,m.toNat,_,_,_,by omega,by omega,Nat.le_refl _,by omega,Nat.le_refl _,Nat.le_refl _,rfl,rfl,rfl,rfl,rfl⟩ ?_ (aN (aH _ _)) (Nat.le_refl _);unfold CD;refine List.forall_mem_cons.2 ⟨cW hF.1 rfl,List.forall_mem_cons.2 ⟨dQ hp rfl,?_⟩⟩;((repeat' refine iE rfl rfl ?_);exact iN)
   rintro q e h nx' ⟨i,j,k,x,y,hx,hy,hi0,hij,hj,hk,rfl,hbs,rfl,rfl,rfl⟩;unfold CD;((conv=>whnf);apply bm<;>intro h1);rotate_left
   ·have h1:i=j:=(by simp [aA,aC] at h1;omega);subst h1;rw [EU] at hbs;(conv=>whnf);refine⟨fun q e h nx''=>∃ (t:Nat) (z:Int),z=m.toNat - t∧t≤(m.toNat - i)∧q=(m.toNat - i) - t∧e=JS l.length c x (z)∧h=(0,.cells true false 1 (flat aP.fl (ZG l m.toNat t)))::F∧nx''=nx',⟨(m.toNat - i),?_⟩,?_⟩
    ·refine bM (e0:=JS l.length c x (m)) (o0:=.cells true false 1 (flat aP.fl l)) (n0:=nx') hF ⟨0,_,by omega,Nat.zero_le _,rfl,rfl,rfl,rfl⟩ ?_ (aN (aH _ _)) (Nat.le_refl _);unfold JS;refine List.forall_mem_cons.2 ⟨cW hF.1 rfl,?_⟩;((repeat' refine iE rfl rfl ?_);exact iN)
    rintro q e h nx'' ⟨t,z,hz,ht,rfl,rfl,rfl,rfl⟩;have sw:=aAE l m.toNat (by omega) t;have sl:=sw.len;have nxt:ZG l m.toNat (t+1)=nB (ZG l m.toNat t) (m.toNat - t) (m.toNat - t - 1):=rfl;generalize hs0:ZG l m.toNat t=L at sl nxt;have hl1:(flat aP.fl L).length=L.length:=(by rw [a7];exact Nat.mul_one _);unfold JS;((conv=>whnf);apply bm<;>intro r2)
    ·have r2:t<(m.toNat - i):=(by simp [aA,aC] at r2;omega);have bZ:=ER (L:=L) (x:=m.toNat - t) (y:=m.toNat - t - 1) (o1:=0+z.toNat*1) (o2:=0+(z - 1).toNat*1) (by omega) (by omega) (by omega) (by omega)
     repeat' first
      |(((conv=>whnf);apply bm<;>intro g))
      |((conv=>whnf)
        refine eC (bY L (i:=m.toNat - t) (by omega) ?_) ?_
        ·show _+Int.toNat z*1=_;omega)
      |((conv=>whnf)
        refine eC (bY L (i:=m.toNat - t - 1) (by omega) ?_) ?_
        ·show _+Int.toNat (z - 1)*1=_;omega)
     all_goals first
      |(exfalso;simp [aA,aC,aF] at g;omega)
      |(have g:(0+z.toNat*1+1).ble (flat aP.fl L).length=false:=g
        rw [hl1] at g;exact eZ g (by omega))
      |(have g:(0+(z - 1).toNat*1+1).ble (cN (flat aP.fl L) (0+z.toNat*1) [iv (aD L (m.toNat - t - 1))]).length=false:=g
        rw [dN (by rw [hl1];show 0+z.toNat*1+1≤L.length;omega),hl1] at g;exact eZ g (by omega))
      |skip
     (conv=>whnf);refine⟨(m.toNat - i) - (t+1),by omega,?_⟩;refine bM (e0:=JS l.length c x (z - 1)) (o0:=.cells true false 1 (flat aP.fl (nB L (m.toNat - t) (m.toNat - t - 1)))) (n0:=nx'') hF ⟨t+1,z - 1,by omega,by omega,rfl,rfl,by rw [nxt],rfl⟩ ?_ (aU (aH _ _) bZ) (Nat.le_refl _);unfold JS;refine List.forall_mem_cons.2 ⟨cW hF.1 rfl,?_⟩;((repeat' refine iE rfl rfl ?_);exact iN)
    have r2:t=(m.toNat - i):=(by simp [aA,aC] at r2;omega);(conv=>whnf);refine⟨rfl,?_⟩;rw [← hs0,r2,aZ,if_neg (by omega),if_pos (by omega),hbs]
   have h1:i<j:=(by simp [aA,aC] at h1;omega);obtain⟨k',rfl⟩:∃ k',k=k'+1:=⟨k - 1,by omega⟩;rw [WX h1] at hbs;have qh:(x+y).tdiv 2=(((i+j) / 2:Nat):Int):=(by rw [Int.tdiv_eq_ediv_of_nonneg (by omega)];omega);((conv=>whnf);apply bm<;>intro q1);rotate_left
   ·exfalso;simp [aA,aC,aF] at q1;omega
   ((conv=>whnf);apply bm<;>intro q2);rotate_left
   ·exfalso;simp [aA,aC,aF] at q2;omega
   ((conv=>whnf);apply bm<;>intro q3);rotate_left
   ·exfalso;simp [aA,aC] at q3;omega
   ((conv=>whnf);apply bm<;>intro q4);rotate_left
   ·exfalso;simp [aA,aC,aF,qh] at q4;omega
   ((conv=>whnf);apply bm<;>intro q5);rotate_left
   ·exfalso;simp [aA,aC,qh] at q5;omega
   (conv=>whnf);refine eC (bY l (i:=m.toNat) (by omega) ?_) ?_
   ·show _+Int.toNat (m)*1=_;omega
   ((conv=>whnf);apply bm<;>intro q6);rotate_left
   ·exfalso;simp [aA,aC,qh] at q6;omega
   (conv=>whnf);refine eC (bY l (i:=(i+j) / 2) (by omega) ?_) ?_
   ·show _+Int.toNat ((x+y).tdiv 2)*1=_;rw [qh];omega
   (conv=>whnf);refine⟨aD l (m.toNat),aD l ((i+j) / 2),p,D,rfl,AI hF hD,?_⟩;((conv=>whnf);apply bm<;>intro q7)
   ·((conv=>whnf);apply bm<;>intro q8)
    ·have q8:jZ D (aD l m.toNat) (aD l ((i+j) / 2))=false:=(by have q8:(!(jZ D (aD l m.toNat) (aD l ((i+j) / 2))))=true:=q8;simpa using q8);((conv=>whnf);apply bm<;>intro q9)
     ·(conv=>whnf);refine⟨j - ((i+j) / 2+1),by omega,?_⟩;refine bM (e0:=CD l.length c m ((x+y).tdiv 2+1) y p) (o0:=.cells true false 1 (flat aP.fl l)) (n0:=nx') hF ⟨(i+j) / 2+1,j,k',_,_,by rw [qh];omega,hy,by omega,by omega,by omega,by omega,rfl,by rw [hbs,if_neg (by simp [q8])],rfl,rfl,rfl⟩ ?_ (aN (aH _ _)) (Nat.le_refl _);unfold CD;refine List.forall_mem_cons.2 ⟨cW hF.1 rfl,List.forall_mem_cons.2 ⟨dQ hp rfl,?_⟩⟩;((repeat' refine iE rfl rfl ?_);exact iN)
     exfalso;simp [aA,aC,aF,qh] at q9;omega
    have q8:jZ D (aD l m.toNat) (aD l ((i+j) / 2))=true:=(by have q8:(!(jZ D (aD l m.toNat) (aD l ((i+j) / 2))))=false:=q8;simpa using q8);(conv=>whnf);refine⟨(i+j) / 2 - i,by omega,?_⟩;refine bM (e0:=CD l.length c m x ((x+y).tdiv 2) p) (o0:=.cells true false 1 (flat aP.fl l)) (n0:=nx') hF ⟨i,(i+j) / 2,k',_,_,hx,qh,hi0,by omega,by omega,by omega,rfl,by rw [hbs,if_pos (by simp [q8])],rfl,rfl,rfl⟩ ?_ (aN (aH _ _)) (Nat.le_refl _);unfold CD;refine List.forall_mem_cons.2 ⟨cW hF.1 rfl,List.forall_mem_cons.2 ⟨dQ hp rfl,?_⟩⟩;((repeat' refine iE rfl rfl ?_);exact iN)
   exfalso;have q7:tK D (aD l (m.toNat)) (aD l ((i+j) / 2))=false:=q7;rw [okc _ _ (by omega) (by omega)] at q7;cases q7
  have g4:¬ b - m=1:=(by simpa [aA,aC] using g4);have hM:(a+b).tdiv 2=(((a.toNat+b.toNat) / 2:Nat):Int):=(by rw [Int.tdiv_eq_ediv_of_nonneg (by omega)];omega);((conv=>whnf);apply bm<;>intro g5);rotate_left
  ·exfalso;simp [aA,aC,aF] at g5;omega
  ((conv=>whnf);apply bm<;>intro g5b);rotate_left;(exfalso;simp [aA,aC,aF] at g5b;omega);((conv=>whnf);apply bm<;>intro g5c);rotate_left;(exfalso;simp [aA,aC,aF] at g5c;omega);((conv=>whnf);apply bm<;>intro g6);rotate_left
  ·exfalso;simp [aA,aC,aF,hM] at g6;omega
  ((conv=>whnf);apply bm<;>intro g7);rotate_left
  ·exfalso;simp [aA,aC,aF,hM] at g7;omega
  ((conv=>whnf);apply bm<;>intro g8);rotate_left
  ·have g8:¬ (a+b).tdiv 2<m:=(by simpa [aA,aC] using g8);have hc:¬ (a.toNat+b.toNat) / 2<m.toNat:=(by omega);((conv=>whnf);apply bm<;>intro g10)
   ·skip
    (conv=>whnf);refine⟨fun q e h nx'=>∃ (i j k:Nat) (x y:Int),x=i∧y=j∧a.toNat≤i∧i≤j∧j≤m.toNat∧j - i≤k∧q=j - i∧wY (fun c=>jZ D (aD l ((a.toNat+b.toNat) / 2+m.toNat - 1 - c)) (aD l c)) (m.toNat - a.toNat) a.toNat m.toNat=wY (fun c=>jZ D (aD l ((a.toNat+b.toNat) / 2+m.toNat - 1 - c)) (aD l c)) k i j∧e=mU l.length c a m b ((a+b).tdiv 2) ((a+b).tdiv 2+m) ((a+b).tdiv 2+m - 1) x y p∧h=(0,.cells true false 1 (flat aP.fl l))::F∧nx'=nx,⟨m.toNat - a.toNat,?_⟩,?_⟩
    ·refine bM (e0:=mU l.length c a m b ((a+b).tdiv 2) ((a+b).tdiv 2+m) ((a+b).tdiv 2+m - 1) a m p) (o0:=.cells true false 1 (flat aP.fl l)) (n0:=nx) hF ⟨a.toNat,m.toNat,_,_,_,by omega,by omega,Nat.le_refl _,by omega,Nat.le_refl _,Nat.le_refl _,rfl,rfl,rfl,rfl,rfl⟩ ?_ (aN (aH _ _)) (Nat.le_refl _);unfold mU;refine List.forall_mem_cons.2 ⟨cW hF.1 rfl,List.forall_mem_cons.2 ⟨dQ hp rfl,?_⟩⟩;((repeat' refine iE rfl rfl ?_);exact iN)
    rintro q e h nx' ⟨i,j,k,x,y,hx,hy,hi0,hij,hj,hk,rfl,hbs,rfl,rfl,rfl⟩;unfold mU;((conv=>whnf);apply bm<;>intro h1)
    ·have h1:i<j:=(by simp [aA,aC] at h1;omega);obtain⟨k',rfl⟩:∃ k',k=k'+1:=⟨k - 1,by omega⟩;rw [WX h1] at hbs;have qh:(x+y).tdiv 2=(((i+j) / 2:Nat):Int):=(by rw [Int.tdiv_eq_ediv_of_nonneg (by omega)];omega);((conv=>whnf);apply bm<;>intro q1)
     ·((conv=>whnf);apply bm<;>intro q2)
      ·((conv=>whnf);apply bm<;>intro q3)
       ·((conv=>whnf);apply bm<;>intro q4)
        ·((conv=>whnf);apply bm<;>intro q5a);rotate_left;(exfalso;simp [aA,aC,aF,hM,qh] at q5a;omega);((conv=>whnf);apply bm<;>intro q5)
         ·(conv=>whnf);refine eC (bY l (i:=((a.toNat+b.toNat) / 2+m.toNat - 1 - (i+j) / 2)) (by omega) ?_) ?_
          ·show _+Int.toNat (((a+b).tdiv 2+m - 1 - (x+y).tdiv 2))*1=_;rw [qh];omega
          ((conv=>whnf);apply bm<;>intro q6)
          ·(conv=>whnf);refine eC (bY l (i:=(i+j) / 2) (by omega) ?_) ?_
           ·show _+Int.toNat ((x+y).tdiv 2)*1=_;rw [qh];omega
           (conv=>whnf);refine⟨aD l (((a.toNat+b.toNat) / 2+m.toNat - 1 - (i+j) / 2)),aD l ((i+j) / 2),p,D,rfl,AI hF hD,?_⟩;((conv=>whnf);apply bm<;>intro q7)
           ·((conv=>whnf);apply bm<;>intro q8)
            ·have q8:jZ D (aD l ((a.toNat+b.toNat) / 2+m.toNat - 1 - (i+j) / 2)) (aD l ((i+j) / 2))=false:=(by have q8:(!(jZ D (aD l ((a.toNat+b.toNat) / 2+m.toNat - 1 - (i+j) / 2)) (aD l ((i+j) / 2))))=true:=q8;simpa using q8);((conv=>whnf);apply bm<;>intro q9)
             ·(conv=>whnf);refine⟨j - ((i+j) / 2+1),by omega,?_⟩;refine bM (e0:=mU l.length c a m b ((a+b).tdiv 2) ((a+b).tdiv 2+m) ((a+b).tdiv 2+m - 1) ((x+y).tdiv 2+1) y p) (o0:=.cells true false 1 (flat aP.fl l)) (n0:=nx') hF ⟨(i+j) / 2+1,j,k',_,_,by rw [qh];omega,hy,by omega,by omega,by omega,by omega,rfl,by rw [hbs,if_neg (by simp [q8])],rfl,rfl,rfl⟩ ?_ (aN (aH _ _)) (Nat.le_refl _);unfold mU;refine List.forall_mem_cons.2 ⟨cW hF.1 rfl,List.forall_mem_cons.2 ⟨dQ hp rfl,?_⟩⟩;((repeat' refine iE rfl rfl ?_);exact iN)
             exfalso;simp [aA,aC,aF,qh] at q9;omega
            have q8:jZ D (aD l ((a.toNat+b.toNat) / 2+m.toNat - 1 - (i+j) / 2)) (aD l ((i+j) / 2))=true:=(by have q8:(!(jZ D (aD l ((a.toNat+b.toNat) / 2+m.toNat - 1 - (i+j) / 2)) (aD l ((i+j) / 2))))=false:=q8;simpa using q8);(conv=>whnf);refine⟨(i+j) / 2 - i,by omega,?_⟩;refine bM (e0:=mU l.length c a m b ((a+b).tdiv 2) ((a+b).tdiv 2+m) ((a+b).tdiv 2+m - 1) x ((x+y).tdiv 2) p) (o0:=.cells true false 1 (flat aP.fl l)) (n0:=nx') hF ⟨i,(i+j) / 2,k',_,_,hx,qh,hi0,by omega,by omega,by omega,rfl,by rw [hbs,if_pos (by simp [q8])],rfl,rfl,rfl⟩ ?_ (aN (aH _ _)) (Nat.le_refl _);unfold mU;refine List.forall_mem_cons.2 ⟨cW hF.1 rfl,List.forall_mem_cons.2 ⟨dQ hp rfl,?_⟩⟩;((repeat' refine iE rfl rfl ?_);exact iN)
           exfalso;have q7:tK D (aD l (((a.toNat+b.toNat) / 2+m.toNat - 1 - (i+j) / 2))) (aD l ((i+j) / 2))=false:=q7;rw [okc _ _ (by omega) (by omega)] at q7;cases q7
          exfalso;simp [aA,aC,hM,qh] at q6;omega
         exfalso;simp [aA,aC,hM,qh] at q5;omega
        exfalso;simp [aA,aC,hM,aF,qh] at q4;omega
       exfalso;simp [aA,aC] at q3;omega
      exfalso;simp [aA,aC,aF] at q2;omega
     exfalso;simp [aA,aC,aF] at q1;omega
    have h1:i=j:=(by simp [aA,aC] at h1;omega);subst h1;rw [EU] at hbs
    skip
    have hst:stM D l a.toNat m.toNat b.toNat=i:=(by unfold stM;simp only [if_neg hc];exact hbs);have low:=z7 (D:=D) (L:=l) (a:=a.toNat) (m:=m.toNat) (b:=b.toNat) (by omega) (by omega);clear hbs hk hj hi0 hc g8;obtain⟨A,eA⟩:∃ A,a.toNat=A:=⟨_,rfl⟩;obtain⟨Q,eQ⟩:∃ Q,m.toNat=Q:=⟨_,rfl⟩;obtain⟨B,eB⟩:∃ B,b.toNat=B:=⟨_,rfl⟩;obtain⟨W,eW⟩:∃ W,(A+B) / 2=W:=⟨_,rfl⟩;rw [eA,eQ,eB] at hst;rw [eA,eQ,eB] at low;rw [hst,eW] at low;rw [eA,eB,eW] at hM;have zA:a=A:=(by omega);have zQ:m=Q:=(by omega);have zB:b=B:=(by omega);have uA:∀ _:Unit,a.toNat=A:=fun _=>eA;have uQ:∀ _:Unit,m.toNat=Q:=fun _=>eQ;have uB:∀ _:Unit,b.toNat=B:=fun _=>eB;have uW:∀ _:Unit,(A+B) / 2=W:=fun _=>eW;have zW:A+1≤W∧W+1≤B:=(by omega);clear eA eQ eB eW;have u1:∀ _:Unit,x.toNat=i:=fun _=>(by omega);have u2:∀ _:Unit,((a+b).tdiv 2).toNat=W:=fun _=>(by rw [hM];omega);have u3:∀ _:Unit,(m - x).toNat=Q - i:=fun _=>(by omega);have u4:∀ _:Unit,(((a+b).tdiv 2)+m - x).toNat=(W+Q - i):=fun _=>(by rw [hM];omega);have u5:∀ _:Unit,((((a+b).tdiv 2)+m - x) - m).toNat=(W+Q - i) - Q:=fun _=>(by rw [hM];omega);((conv=>whnf);apply bm<;>intro s1);rotate_left;(exfalso;simp [aA,aC,aF,hM] at s1;omega);have n1:¬ Q - A=1:=(by omega);have n2:¬ B - Q=1:=(by omega);((conv=>whnf);apply bm<;>intro s2)
    ·((conv=>whnf);apply bm<;>intro s3)
     ·skip
      have s2:x<m:=(by simpa [aA,aC,hM] using s2);have s3:m<((W:Int)+m - x):=(by simpa [aA,aC,hM] using s3);have c1:i<Q∧Q<(W+Q - i):=(by omega);(conv=>whnf);refine⟨0,c,[iv x,iv m,iv (((a+b).tdiv 2)+m - x)],p,l,D,rfl,rfl,aY hC,bC hF hD,?_⟩;((conv=>whnf);apply bm<;>intro t)
      ·have sw1:Sw l (bW m.toNat ((m - x).toNat+((((a+b).tdiv 2)+m - x) - m).toNat) l (m - x).toNat ((((a+b).tdiv 2)+m - x) - m).toNat):=uS _ _ _ _ _ (by simp only [uA (),uQ (),uB (),u1 (),u2 (),u3 (),u4 (),u5 ()];omega) (by simp only [uA (),uQ (),uB (),u1 (),u2 (),u3 (),u4 (),u5 ()];omega);((conv=>whnf);apply bm<;>intro s4)
       ·((conv=>whnf);apply bm<;>intro s5)
        ·skip
         have s4:a<x:=(by simpa [aA,aC,hM] using s4);have s5:x<(W:Int):=(by simpa [aA,aC,hM] using s5);have c2:A<i∧i<W:=(by omega);(conv=>whnf);refine⟨0,c,[iv a,iv x,iv ((a+b).tdiv 2)],p,bW m.toNat ((m - x).toNat+((((a+b).tdiv 2)+m - x) - m).toNat) l (m - x).toNat ((((a+b).tdiv 2)+m - x) - m).toNat,D,by rw [(sw1).len];rfl,rfl,aY hC,bC hF hD,?_⟩;((conv=>whnf);apply bm<;>intro t)
         ·skip
          have sw2:Sw l (aZ D n (bW m.toNat ((m - x).toNat+((((a+b).tdiv 2)+m - x) - m).toNat) l (m - x).toNat ((((a+b).tdiv 2)+m - x) - m).toNat) a.toNat x.toNat ((a+b).tdiv 2).toNat):=(sw1).trans (mH D n _ _ _ _ (by simp only [uA (),uQ (),uB (),u1 (),u2 (),u3 (),u4 (),u5 ()];omega) (by simp only [uA (),uQ (),uB (),u1 (),u2 (),u3 (),u4 (),u5 ()];omega) (by rw [(sw1).len];simp only [uA (),uQ (),uB (),u1 (),u2 (),u3 (),u4 (),u5 ()];omega));((conv=>whnf);apply bm<;>intro s6)
          ·((conv=>whnf);apply bm<;>intro s7)
           ·skip
            have s6:(W:Int)<((W:Int)+m - x):=(by simpa [aA,aC,hM] using s6);have s7:((W:Int)+m - x)<b:=(by simpa [aA,aC,hM] using s7);have c3:W<(W+Q - i)∧(W+Q - i)<B:=(by omega);(conv=>whnf);refine⟨0,c,[iv ((a+b).tdiv 2),iv (((a+b).tdiv 2)+m - x),iv b],p,aZ D n (bW m.toNat ((m - x).toNat+((((a+b).tdiv 2)+m - x) - m).toNat) l (m - x).toNat ((((a+b).tdiv 2)+m - x) - m).toNat) a.toNat x.toNat ((a+b).tdiv 2).toNat,D,by rw [(sw2).len];rfl,rfl,aY hC,bC hF hD,?_⟩;((conv=>whnf);apply bm<;>intro t)
            ·skip
             (conv=>whnf);refine⟨rfl,?_⟩;show (0,a8.cells true false 1 (flat aP.fl (aZ D n (aZ D n (bW m.toNat ((m - x).toNat+((((a+b).tdiv 2)+m - x) - m).toNat) l (m - x).toNat ((((a+b).tdiv 2)+m - x) - m).toNat) a.toNat x.toNat ((a+b).tdiv 2).toNat) ((a+b).tdiv 2).toNat (((a+b).tdiv 2)+m - x).toNat b.toNat)))::F=_;rw [aZ];simp only [hst,uA (),uQ (),uB (),u1 (),u2 (),u3 (),u4 (),u5 (),uW (),if_neg n1,if_neg n2,if_pos c1,if_pos c2,if_pos c3]
            exfalso;have t:(decide (0≤((a+b).tdiv 2))&&decide (((a+b).tdiv 2)<(((a+b).tdiv 2)+m - x))&&decide ((((a+b).tdiv 2)+m - x)<b)&&decide (b≤(aZ D n (bW m.toNat ((m - x).toNat+((((a+b).tdiv 2)+m - x) - m).toNat) l (m - x).toNat ((((a+b).tdiv 2)+m - x) - m).toNat) a.toNat x.toNat ((a+b).tdiv 2).toNat).length)&&decide (b - ((a+b).tdiv 2)≤n)&&decide ((aZ D n (bW m.toNat ((m - x).toNat+((((a+b).tdiv 2)+m - x) - m).toNat) l (m - x).toNat ((((a+b).tdiv 2)+m - x) - m).toNat) a.toNat x.toNat ((a+b).tdiv 2).toNat).length≤1000000)&&fI D (aZ D n (bW m.toNat ((m - x).toNat+((((a+b).tdiv 2)+m - x) - m).toNat) l (m - x).toNat ((((a+b).tdiv 2)+m - x) - m).toNat) a.toNat x.toNat ((a+b).tdiv 2).toNat)&&fV D)=false:=t;rw [hW,(sw2).fI hin,(sw2).len] at t;simp [hM] at t;omega
           skip
           have s7:¬ ((W:Int)+m - x)<b:=(by simpa [aA,aC,hM] using s7);have c3:¬ (W<(W+Q - i)∧(W+Q - i)<B):=(by omega);(conv=>whnf);refine⟨rfl,?_⟩;show (0,a8.cells true false 1 (flat aP.fl (aZ D n (bW m.toNat ((m - x).toNat+((((a+b).tdiv 2)+m - x) - m).toNat) l (m - x).toNat ((((a+b).tdiv 2)+m - x) - m).toNat) a.toNat x.toNat ((a+b).tdiv 2).toNat)))::F=_;rw [aZ];simp only [hst,uA (),uQ (),uB (),u1 (),u2 (),u3 (),u4 (),u5 (),uW (),if_neg n1,if_neg n2,if_pos c1,if_pos c2,if_neg c3]
          skip
          have s6:¬ (W:Int)<((W:Int)+m - x):=(by simpa [aA,aC,hM] using s6);have c3:¬ (W<(W+Q - i)∧(W+Q - i)<B):=(by omega);(conv=>whnf);refine⟨rfl,?_⟩;show (0,a8.cells true false 1 (flat aP.fl (aZ D n (bW m.toNat ((m - x).toNat+((((a+b).tdiv 2)+m - x) - m).toNat) l (m - x).toNat ((((a+b).tdiv 2)+m - x) - m).toNat) a.toNat x.toNat ((a+b).tdiv 2).toNat)))::F=_;rw [aZ];simp only [hst,uA (),uQ (),uB (),u1 (),u2 (),u3 (),u4 (),u5 (),uW (),if_neg n1,if_neg n2,if_pos c1,if_pos c2,if_neg c3]
         exfalso;have t:(decide (0≤a)&&decide (a<x)&&decide (x<((a+b).tdiv 2))&&decide (((a+b).tdiv 2)≤(bW m.toNat ((m - x).toNat+((((a+b).tdiv 2)+m - x) - m).toNat) l (m - x).toNat ((((a+b).tdiv 2)+m - x) - m).toNat).length)&&decide (((a+b).tdiv 2) - a≤n)&&decide ((bW m.toNat ((m - x).toNat+((((a+b).tdiv 2)+m - x) - m).toNat) l (m - x).toNat ((((a+b).tdiv 2)+m - x) - m).toNat).length≤1000000)&&fI D (bW m.toNat ((m - x).toNat+((((a+b).tdiv 2)+m - x) - m).toNat) l (m - x).toNat ((((a+b).tdiv 2)+m - x) - m).toNat)&&fV D)=false:=t;rw [hW,(sw1).fI hin,(sw1).len] at t;simp [hM] at t;omega
        skip
        have s5:¬ x<(W:Int):=(by simpa [aA,aC,hM] using s5);have c2:¬ (A<i∧i<W):=(by omega);((conv=>whnf);apply bm<;>intro s6)
        ·((conv=>whnf);apply bm<;>intro s7)
         ·skip
          have s6:(W:Int)<((W:Int)+m - x):=(by simpa [aA,aC,hM] using s6);have s7:((W:Int)+m - x)<b:=(by simpa [aA,aC,hM] using s7);have c3:W<(W+Q - i)∧(W+Q - i)<B:=(by omega);(conv=>whnf);refine⟨0,c,[iv ((a+b).tdiv 2),iv (((a+b).tdiv 2)+m - x),iv b],p,bW m.toNat ((m - x).toNat+((((a+b).tdiv 2)+m - x) - m).toNat) l (m - x).toNat ((((a+b).tdiv 2)+m - x) - m).toNat,D,by rw [(sw1).len];rfl,rfl,aY hC,bC hF hD,?_⟩;((conv=>whnf);apply bm<;>intro t)
          ·skip
           (conv=>whnf);refine⟨rfl,?_⟩;show (0,a8.cells true false 1 (flat aP.fl (aZ D n (bW m.toNat ((m - x).toNat+((((a+b).tdiv 2)+m - x) - m).toNat) l (m - x).toNat ((((a+b).tdiv 2)+m - x) - m).toNat) ((a+b).tdiv 2).toNat (((a+b).tdiv 2)+m - x).toNat b.toNat)))::F=_;rw [aZ];simp only [hst,uA (),uQ (),uB (),u1 (),u2 (),u3 (),u4 (),u5 (),uW (),if_neg n1,if_neg n2,if_pos c1,if_neg c2,if_pos c3]
          exfalso;have t:(decide (0≤((a+b).tdiv 2))&&decide (((a+b).tdiv 2)<(((a+b).tdiv 2)+m - x))&&decide ((((a+b).tdiv 2)+m - x)<b)&&decide (b≤(bW m.toNat ((m - x).toNat+((((a+b).tdiv 2)+m - x) - m).toNat) l (m - x).toNat ((((a+b).tdiv 2)+m - x) - m).toNat).length)&&decide (b - ((a+b).tdiv 2)≤n)&&decide ((bW m.toNat ((m - x).toNat+((((a+b).tdiv 2)+m - x) - m).toNat) l (m - x).toNat ((((a+b).tdiv 2)+m - x) - m).toNat).length≤1000000)&&fI D (bW m.toNat ((m - x).toNat+((((a+b).tdiv 2)+m - x) - m).toNat) l (m - x).toNat ((((a+b).tdiv 2)+m - x) - m).toNat)&&fV D)=false:=t;rw [hW,(sw1).fI hin,(sw1).len] at t;simp [hM] at t;omega
         skip
         have s7:¬ ((W:Int)+m - x)<b:=(by simpa [aA,aC,hM] using s7);have c3:¬ (W<(W+Q - i)∧(W+Q - i)<B):=(by omega);(conv=>whnf);refine⟨rfl,?_⟩;show (0,a8.cells true false 1 (flat aP.fl (bW m.toNat ((m - x).toNat+((((a+b).tdiv 2)+m - x) - m).toNat) l (m - x).toNat ((((a+b).tdiv 2)+m - x) - m).toNat)))::F=_;rw [aZ];simp only [hst,uA (),uQ (),uB (),u1 (),u2 (),u3 (),u4 (),u5 (),uW (),if_neg n1,if_neg n2,if_pos c1,if_neg c2,if_neg c3]
        skip
        have s6:¬ (W:Int)<((W:Int)+m - x):=(by simpa [aA,aC,hM] using s6);have c3:¬ (W<(W+Q - i)∧(W+Q - i)<B):=(by omega);(conv=>whnf);refine⟨rfl,?_⟩;show (0,a8.cells true false 1 (flat aP.fl (bW m.toNat ((m - x).toNat+((((a+b).tdiv 2)+m - x) - m).toNat) l (m - x).toNat ((((a+b).tdiv 2)+m - x) - m).toNat)))::F=_;rw [aZ];simp only [hst,uA (),uQ (),uB (),u1 (),u2 (),u3 (),u4 (),u5 (),uW (),if_neg n1,if_neg n2,if_pos c1,if_neg c2,if_neg c3]
       skip
       have s4:¬ a<x:=(by simpa [aA,aC,hM] using s4);have c2:¬ (A<i∧i<W):=(by omega);((conv=>whnf);apply bm<;>intro s6)
       ·((conv=>whnf);apply bm<;>intro s7)
        ·skip
         have s6:(W:Int)<((W:Int)+m - x):=(by simpa [aA,aC,hM] using s6);have s7:((W:Int)+m - x)<b:=(by simpa [aA,aC,hM] using s7);have c3:W<(W+Q - i)∧(W+Q - i)<B:=(by omega);(conv=>whnf);refine⟨0,c,[iv ((a+b).tdiv 2),iv (((a+b).tdiv 2)+m - x),iv b],p,bW m.toNat ((m - x).toNat+((((a+b).tdiv 2)+m - x) - m).toNat) l (m - x).toNat ((((a+b).tdiv 2)+m - x) - m).toNat,D,by rw [(sw1).len];rfl,rfl,aY hC,bC hF hD,?_⟩;((conv=>whnf);apply bm<;>intro t)
         ·skip
          (conv=>whnf);refine⟨rfl,?_⟩;show (0,a8.cells true false 1 (flat aP.fl (aZ D n (bW m.toNat ((m - x).toNat+((((a+b).tdiv 2)+m - x) - m).toNat) l (m - x).toNat ((((a+b).tdiv 2)+m - x) - m).toNat) ((a+b).tdiv 2).toNat (((a+b).tdiv 2)+m - x).toNat b.toNat)))::F=_;rw [aZ];simp only [hst,uA (),uQ (),uB (),u1 (),u2 (),u3 (),u4 (),u5 (),uW (),if_neg n1,if_neg n2,if_pos c1,if_neg c2,if_pos c3]
         exfalso;have t:(decide (0≤((a+b).tdiv 2))&&decide (((a+b).tdiv 2)<(((a+b).tdiv 2)+m - x))&&decide ((((a+b).tdiv 2)+m - x)<b)&&decide (b≤(bW m.toNat ((m - x).toNat+((((a+b).tdiv 2)+m - x) - m).toNat) l (m - x).toNat ((((a+b).tdiv 2)+m - x) - m).toNat).length)&&decide (b - ((a+b).tdiv 2)≤n)&&decide ((bW m.toNat ((m - x).toNat+((((a+b).tdiv 2)+m - x) - m).toNat) l (m - x).toNat ((((a+b).tdiv 2)+m - x) - m).toNat).length≤1000000)&&fI D (bW m.toNat ((m - x).toNat+((((a+b).tdiv 2)+m - x) - m).toNat) l (m - x).toNat ((((a+b).tdiv 2)+m - x) - m).toNat)&&fV D)=false:=t;rw [hW,(sw1).fI hin,(sw1).len] at t;simp [hM] at t;omega
        skip
        have s7:¬ ((W:Int)+m - x)<b:=(by simpa [aA,aC,hM] using s7);have c3:¬ (W<(W+Q - i)∧(W+Q - i)<B):=(by omega);(conv=>whnf);refine⟨rfl,?_⟩;show (0,a8.cells true false 1 (flat aP.fl (bW m.toNat ((m - x).toNat+((((a+b).tdiv 2)+m - x) - m).toNat) l (m - x).toNat ((((a+b).tdiv 2)+m - x) - m).toNat)))::F=_;rw [aZ];simp only [hst,uA (),uQ (),uB (),u1 (),u2 (),u3 (),u4 (),u5 (),uW (),if_neg n1,if_neg n2,if_pos c1,if_neg c2,if_neg c3]
       skip
       have s6:¬ (W:Int)<((W:Int)+m - x):=(by simpa [aA,aC,hM] using s6);have c3:¬ (W<(W+Q - i)∧(W+Q - i)<B):=(by omega);(conv=>whnf);refine⟨rfl,?_⟩;show (0,a8.cells true false 1 (flat aP.fl (bW m.toNat ((m - x).toNat+((((a+b).tdiv 2)+m - x) - m).toNat) l (m - x).toNat ((((a+b).tdiv 2)+m - x) - m).toNat)))::F=_;rw [aZ];simp only [hst,uA (),uQ (),uB (),u1 (),u2 (),u3 (),u4 (),u5 (),uW (),if_neg n1,if_neg n2,if_pos c1,if_neg c2,if_neg c3]
      exfalso;have t:(decide (0≤x)&&decide (x<m)&&decide (m<(((a+b).tdiv 2)+m - x))&&decide ((((a+b).tdiv 2)+m - x)≤l.length)&&decide (l.length≤1000000))=false:=t;simp [hM] at t;omega
     skip
     have s3:¬ m<((W:Int)+m - x):=(by simpa [aA,aC,hM] using s3);have c1:¬ (i<Q∧Q<(W+Q - i)):=(by omega);((conv=>whnf);apply bm<;>intro s4)
     ·((conv=>whnf);apply bm<;>intro s5)
      ·skip
       have s4:a<x:=(by simpa [aA,aC,hM] using s4);have s5:x<(W:Int):=(by simpa [aA,aC,hM] using s5);have c2:A<i∧i<W:=(by omega);(conv=>whnf);refine⟨0,c,[iv a,iv x,iv ((a+b).tdiv 2)],p,l,D,by rw [((Sw.refl l)).len];rfl,rfl,aY hC,bC hF hD,?_⟩;((conv=>whnf);apply bm<;>intro t)
       ·skip
        have sw2:Sw l (aZ D n (l) a.toNat x.toNat ((a+b).tdiv 2).toNat):=((Sw.refl l)).trans (mH D n _ _ _ _ (by simp only [uA (),uQ (),uB (),u1 (),u2 (),u3 (),u4 (),u5 ()];omega) (by simp only [uA (),uQ (),uB (),u1 (),u2 (),u3 (),u4 (),u5 ()];omega) (by rw [((Sw.refl l)).len];simp only [uA (),uQ (),uB (),u1 (),u2 (),u3 (),u4 (),u5 ()];omega));((conv=>whnf);apply bm<;>intro s6)
        ·((conv=>whnf);apply bm<;>intro s7)
         ·skip
          have s6:(W:Int)<((W:Int)+m - x):=(by simpa [aA,aC,hM] using s6);have s7:((W:Int)+m - x)<b:=(by simpa [aA,aC,hM] using s7);have c3:W<(W+Q - i)∧(W+Q - i)<B:=(by omega);(conv=>whnf);refine⟨0,c,[iv ((a+b).tdiv 2),iv (((a+b).tdiv 2)+m - x),iv b],p,aZ D n (l) a.toNat x.toNat ((a+b).tdiv 2).toNat,D,by rw [(sw2).len];rfl,rfl,aY hC,bC hF hD,?_⟩;((conv=>whnf);apply bm<;>intro t)
          ·skip
           (conv=>whnf);refine⟨rfl,?_⟩;show (0,a8.cells true false 1 (flat aP.fl (aZ D n (aZ D n (l) a.toNat x.toNat ((a+b).tdiv 2).toNat) ((a+b).tdiv 2).toNat (((a+b).tdiv 2)+m - x).toNat b.toNat)))::F=_;rw [aZ];simp only [hst,uA (),uQ (),uB (),u1 (),u2 (),u3 (),u4 (),u5 (),uW (),if_neg n1,if_neg n2,if_neg c1,if_pos c2,if_pos c3]
          exfalso;have t:(decide (0≤((a+b).tdiv 2))&&decide (((a+b).tdiv 2)<(((a+b).tdiv 2)+m - x))&&decide ((((a+b).tdiv 2)+m - x)<b)&&decide (b≤(aZ D n (l) a.toNat x.toNat ((a+b).tdiv 2).toNat).length)&&decide (b - ((a+b).tdiv 2)≤n)&&decide ((aZ D n (l) a.toNat x.toNat ((a+b).tdiv 2).toNat).length≤1000000)&&fI D (aZ D n (l) a.toNat x.toNat ((a+b).tdiv 2).toNat)&&fV D)=false:=t;rw [hW,(sw2).fI hin,(sw2).len] at t;simp [hM] at t;omega
         skip
         have s7:¬ ((W:Int)+m - x)<b:=(by simpa [aA,aC,hM] using s7);have c3:¬ (W<(W+Q - i)∧(W+Q - i)<B):=(by omega);(conv=>whnf);refine⟨rfl,?_⟩;show (0,a8.cells true false 1 (flat aP.fl (aZ D n (l) a.toNat x.toNat ((a+b).tdiv 2).toNat)))::F=_;rw [aZ];simp only [hst,uA (),uQ (),uB (),u1 (),u2 (),u3 (),u4 (),u5 (),uW (),if_neg n1,if_neg n2,if_neg c1,if_pos c2,if_neg c3]
        skip
        have s6:¬ (W:Int)<((W:Int)+m - x):=(by simpa [aA,aC,hM] using s6);have c3:¬ (W<(W+Q - i)∧(W+Q - i)<B):=(by omega);(conv=>whnf);refine⟨rfl,?_⟩;show (0,a8.cells true false 1 (flat aP.fl (aZ D n (l) a.toNat x.toNat ((a+b).tdiv 2).toNat)))::F=_;rw [aZ];simp only [hst,uA (),uQ (),uB (),u1 (),u2 (),u3 (),u4 (),u5 (),uW (),if_neg n1,if_neg n2,if_neg c1,if_pos c2,if_neg c3]
       exfalso;have t:(decide (0≤a)&&decide (a<x)&&decide (x<((a+b).tdiv 2))&&decide (((a+b).tdiv 2)≤(l).length)&&decide (((a+b).tdiv 2) - a≤n)&&decide ((l).length≤1000000)&&fI D (l)&&fV D)=false:=t;rw [hW,((Sw.refl l)).fI hin,((Sw.refl l)).len] at t;simp [hM] at t;omega
      skip
      have s5:¬ x<(W:Int):=(by simpa [aA,aC,hM] using s5);have c2:¬ (A<i∧i<W):=(by omega);((conv=>whnf);apply bm<;>intro s6)
      ·((conv=>whnf);apply bm<;>intro s7)
       ·skip
        have s6:(W:Int)<((W:Int)+m - x):=(by simpa [aA,aC,hM] using s6);have s7:((W:Int)+m - x)<b:=(by simpa [aA,aC,hM] using s7);have c3:W<(W+Q - i)∧(W+Q - i)<B:=(by omega);(conv=>whnf);refine⟨0,c,[iv ((a+b).tdiv 2),iv (((a+b).tdiv 2)+m - x),iv b],p,l,D,by rw [((Sw.refl l)).len];rfl,rfl,aY hC,bC hF hD,?_⟩;((conv=>whnf);apply bm<;>intro t)
        ·skip
         (conv=>whnf);refine⟨rfl,?_⟩;show (0,a8.cells true false 1 (flat aP.fl (aZ D n (l) ((a+b).tdiv 2).toNat (((a+b).tdiv 2)+m - x).toNat b.toNat)))::F=_;rw [aZ];simp only [hst,uA (),uQ (),uB (),u1 (),u2 (),u3 (),u4 (),u5 (),uW (),if_neg n1,if_neg n2,if_neg c1,if_neg c2,if_pos c3]
        exfalso;have t:(decide (0≤((a+b).tdiv 2))&&decide (((a+b).tdiv 2)<(((a+b).tdiv 2)+m - x))&&decide ((((a+b).tdiv 2)+m - x)<b)&&decide (b≤(l).length)&&decide (b - ((a+b).tdiv 2)≤n)&&decide ((l).length≤1000000)&&fI D (l)&&fV D)=false:=t;rw [hW,((Sw.refl l)).fI hin,((Sw.refl l)).len] at t;simp [hM] at t;omega
       skip
       have s7:¬ ((W:Int)+m - x)<b:=(by simpa [aA,aC,hM] using s7);have c3:¬ (W<(W+Q - i)∧(W+Q - i)<B):=(by omega);(conv=>whnf);refine⟨rfl,?_⟩;show (0,a8.cells true false 1 (flat aP.fl (l)))::F=_;rw [aZ];simp only [hst,uA (),uQ (),uB (),u1 (),u2 (),u3 (),u4 (),u5 (),uW (),if_neg n1,if_neg n2,if_neg c1,if_neg c2,if_neg c3]
      skip
      have s6:¬ (W:Int)<((W:Int)+m - x):=(by simpa [aA,aC,hM] using s6);have c3:¬ (W<(W+Q - i)∧(W+Q - i)<B):=(by omega);(conv=>whnf);refine⟨rfl,?_⟩;show (0,a8.cells true false 1 (flat aP.fl (l)))::F=_;rw [aZ];simp only [hst,uA (),uQ (),uB (),u1 (),u2 (),u3 (),u4 (),u5 (),uW (),if_neg n1,if_neg n2,if_neg c1,if_neg c2,if_neg c3]
     skip
     have s4:¬ a<x:=(by simpa [aA,aC,hM] using s4);have c2:¬ (A<i∧i<W):=(by omega);((conv=>whnf);apply bm<;>intro s6)
     ·((conv=>whnf);apply bm<;>intro s7)
      ·skip
       have s6:(W:Int)<((W:Int)+m - x):=(by simpa [aA,aC,hM] using s6);have s7:((W:Int)+m - x)<b:=(by simpa [aA,aC,hM] using s7);have c3:W<(W+Q - i)∧(W+Q - i)<B:=(by omega);(conv=>whnf);refine⟨0,c,[iv ((a+b).tdiv 2),iv (((a+b).tdiv 2)+m - x),iv b],p,l,D,by rw [((Sw.refl l)).len];rfl,rfl,aY hC,bC hF hD,?_⟩;((conv=>whnf);apply bm<;>intro t)
       ·skip
        (conv=>whnf);refine⟨rfl,?_⟩;show (0,a8.cells true false 1 (flat aP.fl (aZ D n (l) ((a+b).tdiv 2).toNat (((a+b).tdiv 2)+m - x).toNat b.toNat)))::F=_;rw [aZ];simp only [hst,uA (),uQ (),uB (),u1 (),u2 (),u3 (),u4 (),u5 (),uW (),if_neg n1,if_neg n2,if_neg c1,if_neg c2,if_pos c3]
       exfalso;have t:(decide (0≤((a+b).tdiv 2))&&decide (((a+b).tdiv 2)<(((a+b).tdiv 2)+m - x))&&decide ((((a+b).tdiv 2)+m - x)<b)&&decide (b≤(l).length)&&decide (b - ((a+b).tdiv 2)≤n)&&decide ((l).length≤1000000)&&fI D (l)&&fV D)=false:=t;rw [hW,((Sw.refl l)).fI hin,((Sw.refl l)).len] at t;simp [hM] at t;omega
      skip
      have s7:¬ ((W:Int)+m - x)<b:=(by simpa [aA,aC,hM] using s7);have c3:¬ (W<(W+Q - i)∧(W+Q - i)<B):=(by omega);(conv=>whnf);refine⟨rfl,?_⟩;show (0,a8.cells true false 1 (flat aP.fl (l)))::F=_;rw [aZ];simp only [hst,uA (),uQ (),uB (),u1 (),u2 (),u3 (),u4 (),u5 (),uW (),if_neg n1,if_neg n2,if_neg c1,if_neg c2,if_neg c3]
     skip
     have s6:¬ (W:Int)<((W:Int)+m - x):=(by simpa [aA,aC,hM] using s6);have c3:¬ (W<(W+Q - i)∧(W+Q - i)<B):=(by omega);(conv=>whnf);refine⟨rfl,?_⟩;show (0,a8.cells true false 1 (flat aP.fl (l)))::F=_;rw [aZ];simp only [hst,uA (),uQ (),uB (),u1 (),u2 (),u3 (),u4 (),u5 (),uW (),if_neg n1,if_neg n2,if_neg c1,if_neg c2,if_neg c3]
    skip
    have s2:¬ x<m:=(by simpa [aA,aC,hM] using s2);have c1:¬ (i<Q∧Q<(W+Q - i)):=(by omega);((conv=>whnf);apply bm<;>intro s4)
    ·((conv=>whnf);apply bm<;>intro s5)
     ·skip
      have s4:a<x:=(by simpa [aA,aC,hM] using s4);have s5:x<(W:Int):=(by simpa [aA,aC,hM] using s5);have c2:A<i∧i<W:=(by omega);(conv=>whnf);refine⟨0,c,[iv a,iv x,iv ((a+b).tdiv 2)],p,l,D,by rw [((Sw.refl l)).len];rfl,rfl,aY hC,bC hF hD,?_⟩;((conv=>whnf);apply bm<;>intro t)
      ·skip
       have sw2:Sw l (aZ D n (l) a.toNat x.toNat ((a+b).tdiv 2).toNat):=((Sw.refl l)).trans (mH D n _ _ _ _ (by simp only [uA (),uQ (),uB (),u1 (),u2 (),u3 (),u4 (),u5 ()];omega) (by simp only [uA (),uQ (),uB (),u1 (),u2 (),u3 (),u4 (),u5 ()];omega) (by rw [((Sw.refl l)).len];simp only [uA (),uQ (),uB (),u1 (),u2 (),u3 (),u4 (),u5 ()];omega));((conv=>whnf);apply bm<;>intro s6)
       ·((conv=>whnf);apply bm<;>intro s7)
        ·skip
         have s6:(W:Int)<((W:Int)+m - x):=(by simpa [aA,aC,hM] using s6);have s7:((W:Int)+m - x)<b:=(by simpa [aA,aC,hM] using s7);have c3:W<(W+Q - i)∧(W+Q - i)<B:=(by omega);(conv=>whnf);refine⟨0,c,[iv ((a+b).tdiv 2),iv (((a+b).tdiv 2)+m - x),iv b],p,aZ D n (l) a.toNat x.toNat ((a+b).tdiv 2).toNat,D,by rw [(sw2).len];rfl,rfl,aY hC,bC hF hD,?_⟩;((conv=>whnf);apply bm<;>intro t)
         ·skip
          (conv=>whnf);refine⟨rfl,?_⟩;show (0,a8.cells true false 1 (flat aP.fl (aZ D n (aZ D n (l) a.toNat x.toNat ((a+b).tdiv 2).toNat) ((a+b).tdiv 2).toNat (((a+b).tdiv 2)+m - x).toNat b.toNat)))::F=_;rw [aZ];simp only [hst,uA (),uQ (),uB (),u1 (),u2 (),u3 (),u4 (),u5 (),uW (),if_neg n1,if_neg n2,if_neg c1,if_pos c2,if_pos c3]
         exfalso;have t:(decide (0≤((a+b).tdiv 2))&&decide (((a+b).tdiv 2)<(((a+b).tdiv 2)+m - x))&&decide ((((a+b).tdiv 2)+m - x)<b)&&decide (b≤(aZ D n (l) a.toNat x.toNat ((a+b).tdiv 2).toNat).length)&&decide (b - ((a+b).tdiv 2)≤n)&&decide ((aZ D n (l) a.toNat x.toNat ((a+b).tdiv 2).toNat).length≤1000000)&&fI D (aZ D n (l) a.toNat x.toNat ((a+b).tdiv 2).toNat)&&fV D)=false:=t;rw [hW,(sw2).fI hin,(sw2).len] at t;simp [hM] at t;omega
        skip
        have s7:¬ ((W:Int)+m - x)<b:=(by simpa [aA,aC,hM] using s7);have c3:¬ (W<(W+Q - i)∧(W+Q - i)<B):=(by omega);(conv=>whnf);refine⟨rfl,?_⟩;show (0,a8.cells true false 1 (flat aP.fl (aZ D n (l) a.toNat x.toNat ((a+b).tdiv 2).toNat)))::F=_;rw [aZ];simp only [hst,uA (),uQ (),uB (),u1 (),u2 (),u3 (),u4 (),u5 (),uW (),if_neg n1,if_neg n2,if_neg c1,if_pos c2,if_neg c3]
       skip
       have s6:¬ (W:Int)<((W:Int)+m - x):=(by simpa [aA,aC,hM] using s6);have c3:¬ (W<(W+Q - i)∧(W+Q - i)<B):=(by omega);(conv=>whnf);refine⟨rfl,?_⟩;show (0,a8.cells true false 1 (flat aP.fl (aZ D n (l) a.toNat x.toNat ((a+b).tdiv 2).toNat)))::F=_;rw [aZ];simp only [hst,uA (),uQ (),uB (),u1 (),u2 (),u3 (),u4 (),u5 (),uW (),if_neg n1,if_neg n2,if_neg c1,if_pos c2,if_neg c3]
      exfalso;have t:(decide (0≤a)&&decide (a<x)&&decide (x<((a+b).tdiv 2))&&decide (((a+b).tdiv 2)≤(l).length)&&decide (((a+b).tdiv 2) - a≤n)&&decide ((l).length≤1000000)&&fI D (l)&&fV D)=false:=t;rw [hW,((Sw.refl l)).fI hin,((Sw.refl l)).len] at t;simp [hM] at t;omega
     skip
     have s5:¬ x<(W:Int):=(by simpa [aA,aC,hM] using s5);have c2:¬ (A<i∧i<W):=(by omega);((conv=>whnf);apply bm<;>intro s6)
     ·((conv=>whnf);apply bm<;>intro s7)
      ·skip
       have s6:(W:Int)<((W:Int)+m - x):=(by simpa [aA,aC,hM] using s6);have s7:((W:Int)+m - x)<b:=(by simpa [aA,aC,hM] using s7);have c3:W<(W+Q - i)∧(W+Q - i)<B:=(by omega);(conv=>whnf);refine⟨0,c,[iv ((a+b).tdiv 2),iv (((a+b).tdiv 2)+m - x),iv b],p,l,D,by rw [((Sw.refl l)).len];rfl,rfl,aY hC,bC hF hD,?_⟩;((conv=>whnf);apply bm<;>intro t)
       ·skip
        (conv=>whnf);refine⟨rfl,?_⟩;show (0,a8.cells true false 1 (flat aP.fl (aZ D n (l) ((a+b).tdiv 2).toNat (((a+b).tdiv 2)+m - x).toNat b.toNat)))::F=_;rw [aZ];simp only [hst,uA (),uQ (),uB (),u1 (),u2 (),u3 (),u4 (),u5 (),uW (),if_neg n1,if_neg n2,if_neg c1,if_neg c2,if_pos c3]
       exfalso;have t:(decide (0≤((a+b).tdiv 2))&&decide (((a+b).tdiv 2)<(((a+b).tdiv 2)+m - x))&&decide ((((a+b).tdiv 2)+m - x)<b)&&decide (b≤(l).length)&&decide (b - ((a+b).tdiv 2)≤n)&&decide ((l).length≤1000000)&&fI D (l)&&fV D)=false:=t;rw [hW,((Sw.refl l)).fI hin,((Sw.refl l)).len] at t;simp [hM] at t;omega
      skip
      have s7:¬ ((W:Int)+m - x)<b:=(by simpa [aA,aC,hM] using s7);have c3:¬ (W<(W+Q - i)∧(W+Q - i)<B):=(by omega);(conv=>whnf);refine⟨rfl,?_⟩;show (0,a8.cells true false 1 (flat aP.fl (l)))::F=_;rw [aZ];simp only [hst,uA (),uQ (),uB (),u1 (),u2 (),u3 (),u4 (),u5 (),uW (),if_neg n1,if_neg n2,if_neg c1,if_neg c2,if_neg c3]
     skip
     have s6:¬ (W:Int)<((W:Int)+m - x):=(by simpa [aA,aC,hM] using s6);have c3:¬ (W<(W+Q - i)∧(W+Q - i)<B):=(by omega);(conv=>whnf);refine⟨rfl,?_⟩;show (0,a8.cells true false 1 (flat aP.fl (l)))::F=_;rw [aZ];simp only [hst,uA (),uQ (),uB (),u1 (),u2 (),u3 (),u4 (),u5 (),uW (),if_neg n1,if_neg n2,if_neg c1,if_neg c2,if_neg c3]
    skip
    have s4:¬ a<x:=(by simpa [aA,aC,hM] using s4);have c2:¬ (A<i∧i<W):=(by omega);((conv=>whnf);apply bm<;>intro s6)
    ·((conv=>whnf);apply bm<;>intro s7)
     ·skip
      have s6:(W:Int)<((W:Int)+m - x):=(by simpa [aA,aC,hM] using s6);have s7:((W:Int)+m - x)<b:=(by simpa [aA,aC,hM] using s7);have c3:W<(W+Q - i)∧(W+Q - i)<B:=(by omega);(conv=>whnf);refine⟨0,c,[iv ((a+b).tdiv 2),iv (((a+b).tdiv 2)+m - x),iv b],p,l,D,by rw [((Sw.refl l)).len];rfl,rfl,aY hC,bC hF hD,?_⟩;((conv=>whnf);apply bm<;>intro t)
      ·skip
       (conv=>whnf);refine⟨rfl,?_⟩;show (0,a8.cells true false 1 (flat aP.fl (aZ D n (l) ((a+b).tdiv 2).toNat (((a+b).tdiv 2)+m - x).toNat b.toNat)))::F=_;rw [aZ];simp only [hst,uA (),uQ (),uB (),u1 (),u2 (),u3 (),u4 (),u5 (),uW (),if_neg n1,if_neg n2,if_neg c1,if_neg c2,if_pos c3]
      exfalso;have t:(decide (0≤((a+b).tdiv 2))&&decide (((a+b).tdiv 2)<(((a+b).tdiv 2)+m - x))&&decide ((((a+b).tdiv 2)+m - x)<b)&&decide (b≤(l).length)&&decide (b - ((a+b).tdiv 2)≤n)&&decide ((l).length≤1000000)&&fI D (l)&&fV D)=false:=t;rw [hW,((Sw.refl l)).fI hin,((Sw.refl l)).len] at t;simp [hM] at t;omega
     skip
     have s7:¬ ((W:Int)+m - x)<b:=(by simpa [aA,aC,hM] using s7);have c3:¬ (W<(W+Q - i)∧(W+Q - i)<B):=(by omega);(conv=>whnf);refine⟨rfl,?_⟩;show (0,a8.cells true false 1 (flat aP.fl (l)))::F=_;rw [aZ];simp only [hst,uA (),uQ (),uB (),u1 (),u2 (),u3 (),u4 (),u5 (),uW (),if_neg n1,if_neg n2,if_neg c1,if_neg c2,if_neg c3]
    skip
    have s6:¬ (W:Int)<((W:Int)+m - x):=(by simpa [aA,aC,hM] using s6);have c3:¬ (W<(W+Q - i)∧(W+Q - i)<B):=(by omega);(conv=>whnf);refine⟨rfl,?_⟩;show (0,a8.cells true false 1 (flat aP.fl (l)))::F=_;rw [aZ];simp only [hst,uA (),uQ (),uB (),u1 (),u2 (),u3 (),u4 (),u5 (),uW (),if_neg n1,if_neg n2,if_neg c1,if_neg c2,if_neg c3]
   exfalso;simp [aA,aC,aF,hM] at g10;omega
  have g8:(a+b).tdiv 2<m:=(by simpa [aA,aC] using g8);have hc:(a.toNat+b.toNat) / 2<m.toNat:=(by omega);((conv=>whnf);apply bm<;>intro g9);rotate_left
  ·exfalso;simp [aA,aC,aF,hM] at g9;omega
  ((conv=>whnf);apply bm<;>intro g10);rotate_left
  ·exfalso;simp [aA,aC,aF,hM] at g10;omega
  skip
  (conv=>whnf);refine⟨fun q e h nx'=>∃ (i j k:Nat) (x y:Int),x=i∧y=j∧((a.toNat+b.toNat) / 2+m.toNat - b.toNat)≤i∧i≤j∧j≤((a.toNat+b.toNat) / 2)∧j - i≤k∧q=j - i∧wY (fun c=>jZ D (aD l ((a.toNat+b.toNat) / 2+m.toNat - 1 - c)) (aD l c)) (((a.toNat+b.toNat) / 2) - ((a.toNat+b.toNat) / 2+m.toNat - b.toNat)) ((a.toNat+b.toNat) / 2+m.toNat - b.toNat) ((a.toNat+b.toNat) / 2)=wY (fun c=>jZ D (aD l ((a.toNat+b.toNat) / 2+m.toNat - 1 - c)) (aD l c)) k i j∧e=mU l.length c a m b ((a+b).tdiv 2) ((a+b).tdiv 2+m) ((a+b).tdiv 2+m - 1) x y p∧h=(0,.cells true false 1 (flat aP.fl l))::F∧nx'=nx,⟨((a.toNat+b.toNat) / 2) - ((a.toNat+b.toNat) / 2+m.toNat - b.toNat),?_⟩,?_⟩
  ·refine bM (e0:=mU l.length c a m b ((a+b).tdiv 2) ((a+b).tdiv 2+m) ((a+b).tdiv 2+m - 1) ((a+b).tdiv 2+m - b) ((a+b).tdiv 2) p) (o0:=.cells true false 1 (flat aP.fl l)) (n0:=nx) hF ⟨((a.toNat+b.toNat) / 2+m.toNat - b.toNat),((a.toNat+b.toNat) / 2),_,_,_,by omega,by omega,Nat.le_refl _,by omega,Nat.le_refl _,Nat.le_refl _,rfl,rfl,rfl,rfl,rfl⟩ ?_ (aN (aH _ _)) (Nat.le_refl _);unfold mU;refine List.forall_mem_cons.2 ⟨cW hF.1 rfl,List.forall_mem_cons.2 ⟨dQ hp rfl,?_⟩⟩;((repeat' refine iE rfl rfl ?_);exact iN)
  rintro q e h nx' ⟨i,j,k,x,y,hx,hy,hi0,hij,hj,hk,rfl,hbs,rfl,rfl,rfl⟩;unfold mU;((conv=>whnf);apply bm<;>intro h1)
  ·have h1:i<j:=(by simp [aA,aC] at h1;omega);obtain⟨k',rfl⟩:∃ k',k=k'+1:=⟨k - 1,by omega⟩;rw [WX h1] at hbs;have qh:(x+y).tdiv 2=(((i+j) / 2:Nat):Int):=(by rw [Int.tdiv_eq_ediv_of_nonneg (by omega)];omega);((conv=>whnf);apply bm<;>intro q1);rotate_left
   ·exfalso;simp [aA,aC,aF] at q1;omega
   ((conv=>whnf);apply bm<;>intro q2);rotate_left
   ·exfalso;simp [aA,aC,aF] at q2;omega
   ((conv=>whnf);apply bm<;>intro q3);rotate_left
   ·exfalso;simp [aA,aC] at q3;omega
   ((conv=>whnf);apply bm<;>intro q4);rotate_left
   ·exfalso;simp [aA,aC,hM,aF,qh] at q4;omega
   ((conv=>whnf);apply bm<;>intro q5a);rotate_left;(exfalso;simp [aA,aC,aF,hM,qh] at q5a;omega);((conv=>whnf);apply bm<;>intro q5);rotate_left
   ·exfalso;simp [aA,aC,hM,qh] at q5;omega
   (conv=>whnf);refine eC (bY l (i:=((a.toNat+b.toNat) / 2+m.toNat - 1 - (i+j) / 2)) (by omega) ?_) ?_
   ·show _+Int.toNat (((a+b).tdiv 2+m - 1 - (x+y).tdiv 2))*1=_;rw [qh];omega
   ((conv=>whnf);apply bm<;>intro q6);rotate_left
   ·exfalso;simp [aA,aC,hM,qh] at q6;omega
   (conv=>whnf);refine eC (bY l (i:=(i+j) / 2) (by omega) ?_) ?_
   ·show _+Int.toNat ((x+y).tdiv 2)*1=_;rw [qh];omega
   (conv=>whnf);refine⟨aD l (((a.toNat+b.toNat) / 2+m.toNat - 1 - (i+j) / 2)),aD l ((i+j) / 2),p,D,rfl,AI hF hD,?_⟩;((conv=>whnf);apply bm<;>intro q7)
   ·((conv=>whnf);apply bm<;>intro q8)
    ·have q8:jZ D (aD l ((a.toNat+b.toNat) / 2+m.toNat - 1 - (i+j) / 2)) (aD l ((i+j) / 2))=false:=(by have q8:(!(jZ D (aD l ((a.toNat+b.toNat) / 2+m.toNat - 1 - (i+j) / 2)) (aD l ((i+j) / 2))))=true:=q8;simpa using q8);((conv=>whnf);apply bm<;>intro q9)
     ·(conv=>whnf);refine⟨j - ((i+j) / 2+1),by omega,?_⟩;refine bM (e0:=mU l.length c a m b ((a+b).tdiv 2) ((a+b).tdiv 2+m) ((a+b).tdiv 2+m - 1) ((x+y).tdiv 2+1) y p) (o0:=.cells true false 1 (flat aP.fl l)) (n0:=nx') hF ⟨(i+j) / 2+1,j,k',_,_,by rw [qh];omega,hy,by omega,by omega,by omega,by omega,rfl,by rw [hbs,if_neg (by simp [q8])],rfl,rfl,rfl⟩ ?_ (aN (aH _ _)) (Nat.le_refl _);unfold mU;refine List.forall_mem_cons.2 ⟨cW hF.1 rfl,List.forall_mem_cons.2 ⟨dQ hp rfl,?_⟩⟩;((repeat' refine iE rfl rfl ?_);exact iN)
     exfalso;simp [aA,aC,aF,qh] at q9;omega
    have q8:jZ D (aD l ((a.toNat+b.toNat) / 2+m.toNat - 1 - (i+j) / 2)) (aD l ((i+j) / 2))=true:=(by have q8:(!(jZ D (aD l ((a.toNat+b.toNat) / 2+m.toNat - 1 - (i+j) / 2)) (aD l ((i+j) / 2))))=false:=q8;simpa using q8);(conv=>whnf);refine⟨(i+j) / 2 - i,by omega,?_⟩;refine bM (e0:=mU l.length c a m b ((a+b).tdiv 2) ((a+b).tdiv 2+m) ((a+b).tdiv 2+m - 1) x ((x+y).tdiv 2) p) (o0:=.cells true false 1 (flat aP.fl l)) (n0:=nx') hF ⟨i,(i+j) / 2,k',_,_,hx,qh,hi0,by omega,by omega,by omega,rfl,by rw [hbs,if_pos (by simp [q8])],rfl,rfl,rfl⟩ ?_ (aN (aH _ _)) (Nat.le_refl _);unfold mU;refine List.forall_mem_cons.2 ⟨cW hF.1 rfl,List.forall_mem_cons.2 ⟨dQ hp rfl,?_⟩⟩;((repeat' refine iE rfl rfl ?_);exact iN)
   exfalso;have q7:tK D (aD l (((a.toNat+b.toNat) / 2+m.toNat - 1 - (i+j) / 2))) (aD l ((i+j) / 2))=false:=q7;rw [okc _ _ (by omega) (by omega)] at q7;cases q7
  have h1:i=j:=(by simp [aA,aC] at h1;omega);subst h1;rw [EU] at hbs
  skip
  have hst:stM D l a.toNat m.toNat b.toNat=i:=(by unfold stM;simp only [if_pos hc];exact hbs);have low:=z7 (D:=D) (L:=l) (a:=a.toNat) (m:=m.toNat) (b:=b.toNat) (by omega) (by omega);clear hbs hk hj hi0 hc g8;obtain⟨A,eA⟩:∃ A,a.toNat=A:=⟨_,rfl⟩;obtain⟨Q,eQ⟩:∃ Q,m.toNat=Q:=⟨_,rfl⟩;obtain⟨B,eB⟩:∃ B,b.toNat=B:=⟨_,rfl⟩;obtain⟨W,eW⟩:∃ W,(A+B) / 2=W:=⟨_,rfl⟩;rw [eA,eQ,eB] at hst;rw [eA,eQ,eB] at low;rw [hst,eW] at low;rw [eA,eB,eW] at hM;have zA:a=A:=(by omega);have zQ:m=Q:=(by omega);have zB:b=B:=(by omega);have uA:∀ _:Unit,a.toNat=A:=fun _=>eA;have uQ:∀ _:Unit,m.toNat=Q:=fun _=>eQ;have uB:∀ _:Unit,b.toNat=B:=fun _=>eB;have uW:∀ _:Unit,(A+B) / 2=W:=fun _=>eW;have zW:A+1≤W∧W+1≤B:=(by omega);clear eA eQ eB eW;have u1:∀ _:Unit,x.toNat=i:=fun _=>(by omega);have u2:∀ _:Unit,((a+b).tdiv 2).toNat=W:=fun _=>(by rw [hM];omega);have u3:∀ _:Unit,(m - x).toNat=Q - i:=fun _=>(by omega);have u4:∀ _:Unit,(((a+b).tdiv 2)+m - x).toNat=(W+Q - i):=fun _=>(by rw [hM];omega);have u5:∀ _:Unit,((((a+b).tdiv 2)+m - x) - m).toNat=(W+Q - i) - Q:=fun _=>(by rw [hM];omega);((conv=>whnf);apply bm<;>intro s1);rotate_left;(exfalso;simp [aA,aC,aF,hM] at s1;omega);have n1:¬ Q - A=1:=(by omega);have n2:¬ B - Q=1:=(by omega);((conv=>whnf);apply bm<;>intro s2);rotate_left
  ·skip
   have s2:¬ x<m:=(by simpa [aA,aC,hM] using s2);have c1:¬ (i<Q∧Q<(W+Q - i)):=(by omega);((conv=>whnf);apply bm<;>intro s4)
   ·((conv=>whnf);apply bm<;>intro s5)
    ·skip
     have s4:a<x:=(by simpa [aA,aC,hM] using s4);have s5:x<(W:Int):=(by simpa [aA,aC,hM] using s5);have c2:A<i∧i<W:=(by omega);(conv=>whnf);refine⟨0,c,[iv a,iv x,iv ((a+b).tdiv 2)],p,l,D,by rw [((Sw.refl l)).len];rfl,rfl,aY hC,bC hF hD,?_⟩;((conv=>whnf);apply bm<;>intro t)
     ·skip
      have sw2:Sw l (aZ D n (l) a.toNat x.toNat ((a+b).tdiv 2).toNat):=((Sw.refl l)).trans (mH D n _ _ _ _ (by simp only [uA (),uQ (),uB (),u1 (),u2 (),u3 (),u4 (),u5 ()];omega) (by simp only [uA (),uQ (),uB (),u1 (),u2 (),u3 (),u4 (),u5 ()];omega) (by rw [((Sw.refl l)).len];simp only [uA (),uQ (),uB (),u1 (),u2 (),u3 (),u4 (),u5 ()];omega));((conv=>whnf);apply bm<;>intro s6)
      ·((conv=>whnf);apply bm<;>intro s7)
       ·skip
        have s6:(W:Int)<((W:Int)+m - x):=(by simpa [aA,aC,hM] using s6);have s7:((W:Int)+m - x)<b:=(by simpa [aA,aC,hM] using s7);have c3:W<(W+Q - i)∧(W+Q - i)<B:=(by omega);(conv=>whnf);refine⟨0,c,[iv ((a+b).tdiv 2),iv (((a+b).tdiv 2)+m - x),iv b],p,aZ D n (l) a.toNat x.toNat ((a+b).tdiv 2).toNat,D,by rw [(sw2).len];rfl,rfl,aY hC,bC hF hD,?_⟩;((conv=>whnf);apply bm<;>intro t)
        ·skip
         (conv=>whnf);refine⟨rfl,?_⟩;show (0,a8.cells true false 1 (flat aP.fl (aZ D n (aZ D n (l) a.toNat x.toNat ((a+b).tdiv 2).toNat) ((a+b).tdiv 2).toNat (((a+b).tdiv 2)+m - x).toNat b.toNat)))::F=_;rw [aZ];simp only [hst,uA (),uQ (),uB (),u1 (),u2 (),u3 (),u4 (),u5 (),uW (),if_neg n1,if_neg n2,if_neg c1,if_pos c2,if_pos c3]
        exfalso;have t:(decide (0≤((a+b).tdiv 2))&&decide (((a+b).tdiv 2)<(((a+b).tdiv 2)+m - x))&&decide ((((a+b).tdiv 2)+m - x)<b)&&decide (b≤(aZ D n (l) a.toNat x.toNat ((a+b).tdiv 2).toNat).length)&&decide (b - ((a+b).tdiv 2)≤n)&&decide ((aZ D n (l) a.toNat x.toNat ((a+b).tdiv 2).toNat).length≤1000000)&&fI D (aZ D n (l) a.toNat x.toNat ((a+b).tdiv 2).toNat)&&fV D)=false:=t;rw [hW,(sw2).fI hin,(sw2).len] at t;simp [hM] at t;omega
       skip
       have s7:¬ ((W:Int)+m - x)<b:=(by simpa [aA,aC,hM] using s7);have c3:¬ (W<(W+Q - i)∧(W+Q - i)<B):=(by omega);(conv=>whnf);refine⟨rfl,?_⟩;show (0,a8.cells true false 1 (flat aP.fl (aZ D n (l) a.toNat x.toNat ((a+b).tdiv 2).toNat)))::F=_;rw [aZ];simp only [hst,uA (),uQ (),uB (),u1 (),u2 (),u3 (),u4 (),u5 (),uW (),if_neg n1,if_neg n2,if_neg c1,if_pos c2,if_neg c3]
      skip
      have s6:¬ (W:Int)<((W:Int)+m - x):=(by simpa [aA,aC,hM] using s6);have c3:¬ (W<(W+Q - i)∧(W+Q - i)<B):=(by omega);(conv=>whnf);refine⟨rfl,?_⟩;show (0,a8.cells true false 1 (flat aP.fl (aZ D n (l) a.toNat x.toNat ((a+b).tdiv 2).toNat)))::F=_;rw [aZ];simp only [hst,uA (),uQ (),uB (),u1 (),u2 (),u3 (),u4 (),u5 (),uW (),if_neg n1,if_neg n2,if_neg c1,if_pos c2,if_neg c3]
     exfalso;have t:(decide (0≤a)&&decide (a<x)&&decide (x<((a+b).tdiv 2))&&decide (((a+b).tdiv 2)≤(l).length)&&decide (((a+b).tdiv 2) - a≤n)&&decide ((l).length≤1000000)&&fI D (l)&&fV D)=false:=t;rw [hW,((Sw.refl l)).fI hin,((Sw.refl l)).len] at t;simp [hM] at t;omega
    skip
    have s5:¬ x<(W:Int):=(by simpa [aA,aC,hM] using s5);have c2:¬ (A<i∧i<W):=(by omega);((conv=>whnf);apply bm<;>intro s6)
    ·((conv=>whnf);apply bm<;>intro s7)
     ·skip
      have s6:(W:Int)<((W:Int)+m - x):=(by simpa [aA,aC,hM] using s6);have s7:((W:Int)+m - x)<b:=(by simpa [aA,aC,hM] using s7);have c3:W<(W+Q - i)∧(W+Q - i)<B:=(by omega);(conv=>whnf);refine⟨0,c,[iv ((a+b).tdiv 2),iv (((a+b).tdiv 2)+m - x),iv b],p,l,D,by rw [((Sw.refl l)).len];rfl,rfl,aY hC,bC hF hD,?_⟩;((conv=>whnf);apply bm<;>intro t)
      ·skip
       (conv=>whnf);refine⟨rfl,?_⟩;show (0,a8.cells true false 1 (flat aP.fl (aZ D n (l) ((a+b).tdiv 2).toNat (((a+b).tdiv 2)+m - x).toNat b.toNat)))::F=_;rw [aZ];simp only [hst,uA (),uQ (),uB (),u1 (),u2 (),u3 (),u4 (),u5 (),uW (),if_neg n1,if_neg n2,if_neg c1,if_neg c2,if_pos c3]
      exfalso;have t:(decide (0≤((a+b).tdiv 2))&&decide (((a+b).tdiv 2)<(((a+b).tdiv 2)+m - x))&&decide ((((a+b).tdiv 2)+m - x)<b)&&decide (b≤(l).length)&&decide (b - ((a+b).tdiv 2)≤n)&&decide ((l).length≤1000000)&&fI D (l)&&fV D)=false:=t;rw [hW,((Sw.refl l)).fI hin,((Sw.refl l)).len] at t;simp [hM] at t;omega
     skip
     have s7:¬ ((W:Int)+m - x)<b:=(by simpa [aA,aC,hM] using s7);have c3:¬ (W<(W+Q - i)∧(W+Q - i)<B):=(by omega);(conv=>whnf);refine⟨rfl,?_⟩;show (0,a8.cells true false 1 (flat aP.fl (l)))::F=_;rw [aZ];simp only [hst,uA (),uQ (),uB (),u1 (),u2 (),u3 (),u4 (),u5 (),uW (),if_neg n1,if_neg n2,if_neg c1,if_neg c2,if_neg c3]
    skip
    have s6:¬ (W:Int)<((W:Int)+m - x):=(by simpa [aA,aC,hM] using s6);have c3:¬ (W<(W+Q - i)∧(W+Q - i)<B):=(by omega);(conv=>whnf);refine⟨rfl,?_⟩;show (0,a8.cells true false 1 (flat aP.fl (l)))::F=_;rw [aZ];simp only [hst,uA (),uQ (),uB (),u1 (),u2 (),u3 (),u4 (),u5 (),uW (),if_neg n1,if_neg n2,if_neg c1,if_neg c2,if_neg c3]
   skip
   have s4:¬ a<x:=(by simpa [aA,aC,hM] using s4);have c2:¬ (A<i∧i<W):=(by omega);((conv=>whnf);apply bm<;>intro s6)
   ·((conv=>whnf);apply bm<;>intro s7)
    ·skip
     have s6:(W:Int)<((W:Int)+m - x):=(by simpa [aA,aC,hM] using s6);have s7:((W:Int)+m - x)<b:=(by simpa [aA,aC,hM] using s7);have c3:W<(W+Q - i)∧(W+Q - i)<B:=(by omega);(conv=>whnf);refine⟨0,c,[iv ((a+b).tdiv 2),iv (((a+b).tdiv 2)+m - x),iv b],p,l,D,by rw [((Sw.refl l)).len];rfl,rfl,aY hC,bC hF hD,?_⟩;((conv=>whnf);apply bm<;>intro t)
     ·skip
      (conv=>whnf);refine⟨rfl,?_⟩;show (0,a8.cells true false 1 (flat aP.fl (aZ D n (l) ((a+b).tdiv 2).toNat (((a+b).tdiv 2)+m - x).toNat b.toNat)))::F=_;rw [aZ];simp only [hst,uA (),uQ (),uB (),u1 (),u2 (),u3 (),u4 (),u5 (),uW (),if_neg n1,if_neg n2,if_neg c1,if_neg c2,if_pos c3]
     exfalso;have t:(decide (0≤((a+b).tdiv 2))&&decide (((a+b).tdiv 2)<(((a+b).tdiv 2)+m - x))&&decide ((((a+b).tdiv 2)+m - x)<b)&&decide (b≤(l).length)&&decide (b - ((a+b).tdiv 2)≤n)&&decide ((l).length≤1000000)&&fI D (l)&&fV D)=false:=t;rw [hW,((Sw.refl l)).fI hin,((Sw.refl l)).len] at t;simp [hM] at t;omega
    skip
    have s7:¬ ((W:Int)+m - x)<b:=(by simpa [aA,aC,hM] using s7);have c3:¬ (W<(W+Q - i)∧(W+Q - i)<B):=(by omega);(conv=>whnf);refine⟨rfl,?_⟩;show (0,a8.cells true false 1 (flat aP.fl (l)))::F=_;rw [aZ];simp only [hst,uA (),uQ (),uB (),u1 (),u2 (),u3 (),u4 (),u5 (),uW (),if_neg n1,if_neg n2,if_neg c1,if_neg c2,if_neg c3]
   skip
   have s6:¬ (W:Int)<((W:Int)+m - x):=(by simpa [aA,aC,hM] using s6);have c3:¬ (W<(W+Q - i)∧(W+Q - i)<B):=(by omega);(conv=>whnf);refine⟨rfl,?_⟩;show (0,a8.cells true false 1 (flat aP.fl (l)))::F=_;rw [aZ];simp only [hst,uA (),uQ (),uB (),u1 (),u2 (),u3 (),u4 (),u5 (),uW (),if_neg n1,if_neg n2,if_neg c1,if_neg c2,if_neg c3]
  ((conv=>whnf);apply bm<;>intro s3);rotate_left
  ·skip
   have s3:¬ m<((W:Int)+m - x):=(by simpa [aA,aC,hM] using s3);have c1:¬ (i<Q∧Q<(W+Q - i)):=(by omega);((conv=>whnf);apply bm<;>intro s4)
   ·((conv=>whnf);apply bm<;>intro s5)
    ·skip
     have s4:a<x:=(by simpa [aA,aC,hM] using s4);have s5:x<(W:Int):=(by simpa [aA,aC,hM] using s5);have c2:A<i∧i<W:=(by omega);(conv=>whnf);refine⟨0,c,[iv a,iv x,iv ((a+b).tdiv 2)],p,l,D,by rw [((Sw.refl l)).len];rfl,rfl,aY hC,bC hF hD,?_⟩;((conv=>whnf);apply bm<;>intro t)
     ·skip
      have sw2:Sw l (aZ D n (l) a.toNat x.toNat ((a+b).tdiv 2).toNat):=((Sw.refl l)).trans (mH D n _ _ _ _ (by simp only [uA (),uQ (),uB (),u1 (),u2 (),u3 (),u4 (),u5 ()];omega) (by simp only [uA (),uQ (),uB (),u1 (),u2 (),u3 (),u4 (),u5 ()];omega) (by rw [((Sw.refl l)).len];simp only [uA (),uQ (),uB (),u1 (),u2 (),u3 (),u4 (),u5 ()];omega));((conv=>whnf);apply bm<;>intro s6)
      ·((conv=>whnf);apply bm<;>intro s7)
       ·skip
        have s6:(W:Int)<((W:Int)+m - x):=(by simpa [aA,aC,hM] using s6);have s7:((W:Int)+m - x)<b:=(by simpa [aA,aC,hM] using s7);have c3:W<(W+Q - i)∧(W+Q - i)<B:=(by omega);(conv=>whnf);refine⟨0,c,[iv ((a+b).tdiv 2),iv (((a+b).tdiv 2)+m - x),iv b],p,aZ D n (l) a.toNat x.toNat ((a+b).tdiv 2).toNat,D,by rw [(sw2).len];rfl,rfl,aY hC,bC hF hD,?_⟩;((conv=>whnf);apply bm<;>intro t)
        ·skip
         (conv=>whnf);refine⟨rfl,?_⟩;show (0,a8.cells true false 1 (flat aP.fl (aZ D n (aZ D n (l) a.toNat x.toNat ((a+b).tdiv 2).toNat) ((a+b).tdiv 2).toNat (((a+b).tdiv 2)+m - x).toNat b.toNat)))::F=_;rw [aZ];simp only [hst,uA (),uQ (),uB (),u1 (),u2 (),u3 (),u4 (),u5 (),uW (),if_neg n1,if_neg n2,if_neg c1,if_pos c2,if_pos c3]
        exfalso;have t:(decide (0≤((a+b).tdiv 2))&&decide (((a+b).tdiv 2)<(((a+b).tdiv 2)+m - x))&&decide ((((a+b).tdiv 2)+m - x)<b)&&decide (b≤(aZ D n (l) a.toNat x.toNat ((a+b).tdiv 2).toNat).length)&&decide (b - ((a+b).tdiv 2)≤n)&&decide ((aZ D n (l) a.toNat x.toNat ((a+b).tdiv 2).toNat).length≤1000000)&&fI D (aZ D n (l) a.toNat x.toNat ((a+b).tdiv 2).toNat)&&fV D)=false:=t;rw [hW,(sw2).fI hin,(sw2).len] at t;simp [hM] at t;omega
       skip
       have s7:¬ ((W:Int)+m - x)<b:=(by simpa [aA,aC,hM] using s7);have c3:¬ (W<(W+Q - i)∧(W+Q - i)<B):=(by omega);(conv=>whnf);refine⟨rfl,?_⟩;show (0,a8.cells true false 1 (flat aP.fl (aZ D n (l) a.toNat x.toNat ((a+b).tdiv 2).toNat)))::F=_;rw [aZ];simp only [hst,uA (),uQ (),uB (),u1 (),u2 (),u3 (),u4 (),u5 (),uW (),if_neg n1,if_neg n2,if_neg c1,if_pos c2,if_neg c3]
      skip
      have s6:¬ (W:Int)<((W:Int)+m - x):=(by simpa [aA,aC,hM] using s6);have c3:¬ (W<(W+Q - i)∧(W+Q - i)<B):=(by omega);(conv=>whnf);refine⟨rfl,?_⟩;show (0,a8.cells true false 1 (flat aP.fl (aZ D n (l) a.toNat x.toNat ((a+b).tdiv 2).toNat)))::F=_;rw [aZ];simp only [hst,uA (),uQ (),uB (),u1 (),u2 (),u3 (),u4 (),u5 (),uW (),if_neg n1,if_neg n2,if_neg c1,if_pos c2,if_neg c3]
     exfalso;have t:(decide (0≤a)&&decide (a<x)&&decide (x<((a+b).tdiv 2))&&decide (((a+b).tdiv 2)≤(l).length)&&decide (((a+b).tdiv 2) - a≤n)&&decide ((l).length≤1000000)&&fI D (l)&&fV D)=false:=t;rw [hW,((Sw.refl l)).fI hin,((Sw.refl l)).len] at t;simp [hM] at t;omega
    skip
    have s5:¬ x<(W:Int):=(by simpa [aA,aC,hM] using s5);have c2:¬ (A<i∧i<W):=(by omega);((conv=>whnf);apply bm<;>intro s6)
    ·((conv=>whnf);apply bm<;>intro s7)
     ·skip
      have s6:(W:Int)<((W:Int)+m - x):=(by simpa [aA,aC,hM] using s6);have s7:((W:Int)+m - x)<b:=(by simpa [aA,aC,hM] using s7);have c3:W<(W+Q - i)∧(W+Q - i)<B:=(by omega);(conv=>whnf);refine⟨0,c,[iv ((a+b).tdiv 2),iv (((a+b).tdiv 2)+m - x),iv b],p,l,D,by rw [((Sw.refl l)).len];rfl,rfl,aY hC,bC hF hD,?_⟩;((conv=>whnf);apply bm<;>intro t)
      ·skip
       (conv=>whnf);refine⟨rfl,?_⟩;show (0,a8.cells true false 1 (flat aP.fl (aZ D n (l) ((a+b).tdiv 2).toNat (((a+b).tdiv 2)+m - x).toNat b.toNat)))::F=_;rw [aZ];simp only [hst,uA (),uQ (),uB (),u1 (),u2 (),u3 (),u4 (),u5 (),uW (),if_neg n1,if_neg n2,if_neg c1,if_neg c2,if_pos c3]
      exfalso;have t:(decide (0≤((a+b).tdiv 2))&&decide (((a+b).tdiv 2)<(((a+b).tdiv 2)+m - x))&&decide ((((a+b).tdiv 2)+m - x)<b)&&decide (b≤(l).length)&&decide (b - ((a+b).tdiv 2)≤n)&&decide ((l).length≤1000000)&&fI D (l)&&fV D)=false:=t;rw [hW,((Sw.refl l)).fI hin,((Sw.refl l)).len] at t;simp [hM] at t;omega
     skip
     have s7:¬ ((W:Int)+m - x)<b:=(by simpa [aA,aC,hM] using s7);have c3:¬ (W<(W+Q - i)∧(W+Q - i)<B):=(by omega);(conv=>whnf);refine⟨rfl,?_⟩;show (0,a8.cells true false 1 (flat aP.fl (l)))::F=_;rw [aZ];simp only [hst,uA (),uQ (),uB (),u1 (),u2 (),u3 (),u4 (),u5 (),uW (),if_neg n1,if_neg n2,if_neg c1,if_neg c2,if_neg c3]
    skip
    have s6:¬ (W:Int)<((W:Int)+m - x):=(by simpa [aA,aC,hM] using s6);have c3:¬ (W<(W+Q - i)∧(W+Q - i)<B):=(by omega);(conv=>whnf);refine⟨rfl,?_⟩;show (0,a8.cells true false 1 (flat aP.fl (l)))::F=_;rw [aZ];simp only [hst,uA (),uQ (),uB (),u1 (),u2 (),u3 (),u4 (),u5 (),uW (),if_neg n1,if_neg n2,if_neg c1,if_neg c2,if_neg c3]
   skip
   have s4:¬ a<x:=(by simpa [aA,aC,hM] using s4);have c2:¬ (A<i∧i<W):=(by omega);((conv=>whnf);apply bm<;>intro s6)
   ·((conv=>whnf);apply bm<;>intro s7)
    ·skip
     have s6:(W:Int)<((W:Int)+m - x):=(by simpa [aA,aC,hM] using s6);have s7:((W:Int)+m - x)<b:=(by simpa [aA,aC,hM] using s7);have c3:W<(W+Q - i)∧(W+Q - i)<B:=(by omega);(conv=>whnf);refine⟨0,c,[iv ((a+b).tdiv 2),iv (((a+b).tdiv 2)+m - x),iv b],p,l,D,by rw [((Sw.refl l)).len];rfl,rfl,aY hC,bC hF hD,?_⟩;((conv=>whnf);apply bm<;>intro t)
     ·skip
      (conv=>whnf);refine⟨rfl,?_⟩;show (0,a8.cells true false 1 (flat aP.fl (aZ D n (l) ((a+b).tdiv 2).toNat (((a+b).tdiv 2)+m - x).toNat b.toNat)))::F=_;rw [aZ];simp only [hst,uA (),uQ (),uB (),u1 (),u2 (),u3 (),u4 (),u5 (),uW (),if_neg n1,if_neg n2,if_neg c1,if_neg c2,if_pos c3]
     exfalso;have t:(decide (0≤((a+b).tdiv 2))&&decide (((a+b).tdiv 2)<(((a+b).tdiv 2)+m - x))&&decide ((((a+b).tdiv 2)+m - x)<b)&&decide (b≤(l).length)&&decide (b - ((a+b).tdiv 2)≤n)&&decide ((l).length≤1000000)&&fI D (l)&&fV D)=false:=t;rw [hW,((Sw.refl l)).fI hin,((Sw.refl l)).len] at t;simp [hM] at t;omega
    skip
    have s7:¬ ((W:Int)+m - x)<b:=(by simpa [aA,aC,hM] using s7);have c3:¬ (W<(W+Q - i)∧(W+Q - i)<B):=(by omega);(conv=>whnf);refine⟨rfl,?_⟩;show (0,a8.cells true false 1 (flat aP.fl (l)))::F=_;rw [aZ];simp only [hst,uA (),uQ (),uB (),u1 (),u2 (),u3 (),u4 (),u5 (),uW (),if_neg n1,if_neg n2,if_neg c1,if_neg c2,if_neg c3]
   skip
   have s6:¬ (W:Int)<((W:Int)+m - x):=(by simpa [aA,aC,hM] using s6);have c3:¬ (W<(W+Q - i)∧(W+Q - i)<B):=(by omega);(conv=>whnf);refine⟨rfl,?_⟩;show (0,a8.cells true false 1 (flat aP.fl (l)))::F=_;rw [aZ];simp only [hst,uA (),uQ (),uB (),u1 (),u2 (),u3 (),u4 (),u5 (),uW (),if_neg n1,if_neg n2,if_neg c1,if_neg c2,if_neg c3]
  skip
  have s2:x<m:=(by simpa [aA,aC,hM] using s2);have s3:m<((W:Int)+m - x):=(by simpa [aA,aC,hM] using s3);have c1:i<Q∧Q<(W+Q - i):=(by omega);(conv=>whnf);refine⟨0,c,[iv x,iv m,iv (((a+b).tdiv 2)+m - x)],p,l,D,rfl,rfl,aY hC,bC hF hD,?_⟩;((conv=>whnf);apply bm<;>intro t);rotate_left
  ·exfalso;have t:(decide (0≤x)&&decide (x<m)&&decide (m<(((a+b).tdiv 2)+m - x))&&decide ((((a+b).tdiv 2)+m - x)≤l.length)&&decide (l.length≤1000000))=false:=t;simp [hM] at t;omega
  have sw1:Sw l (bW m.toNat ((m - x).toNat+((((a+b).tdiv 2)+m - x) - m).toNat) l (m - x).toNat ((((a+b).tdiv 2)+m - x) - m).toNat):=uS _ _ _ _ _ (by simp only [uA (),uQ (),uB (),u1 (),u2 (),u3 (),u4 (),u5 ()];omega) (by simp only [uA (),uQ (),uB (),u1 (),u2 (),u3 (),u4 (),u5 ()];omega);((conv=>whnf);apply bm<;>intro s4);rotate_left
  ·skip
   have s4:¬ a<x:=(by simpa [aA,aC,hM] using s4);have c2:¬ (A<i∧i<W):=(by omega);((conv=>whnf);apply bm<;>intro s6)
   ·((conv=>whnf);apply bm<;>intro s7)
    ·skip
     have s6:(W:Int)<((W:Int)+m - x):=(by simpa [aA,aC,hM] using s6);have s7:((W:Int)+m - x)<b:=(by simpa [aA,aC,hM] using s7);have c3:W<(W+Q - i)∧(W+Q - i)<B:=(by omega);(conv=>whnf);refine⟨0,c,[iv ((a+b).tdiv 2),iv (((a+b).tdiv 2)+m - x),iv b],p,bW m.toNat ((m - x).toNat+((((a+b).tdiv 2)+m - x) - m).toNat) l (m - x).toNat ((((a+b).tdiv 2)+m - x) - m).toNat,D,by rw [(sw1).len];rfl,rfl,aY hC,bC hF hD,?_⟩;((conv=>whnf);apply bm<;>intro t)
     ·skip
      (conv=>whnf);refine⟨rfl,?_⟩;show (0,a8.cells true false 1 (flat aP.fl (aZ D n (bW m.toNat ((m - x).toNat+((((a+b).tdiv 2)+m - x) - m).toNat) l (m - x).toNat ((((a+b).tdiv 2)+m - x) - m).toNat) ((a+b).tdiv 2).toNat (((a+b).tdiv 2)+m - x).toNat b.toNat)))::F=_;rw [aZ];simp only [hst,uA (),uQ (),uB (),u1 (),u2 (),u3 (),u4 (),u5 (),uW (),if_neg n1,if_neg n2,if_pos c1,if_neg c2,if_pos c3]
     exfalso;have t:(decide (0≤((a+b).tdiv 2))&&decide (((a+b).tdiv 2)<(((a+b).tdiv 2)+m - x))&&decide ((((a+b).tdiv 2)+m - x)<b)&&decide (b≤(bW m.toNat ((m - x).toNat+((((a+b).tdiv 2)+m - x) - m).toNat) l (m - x).toNat ((((a+b).tdiv 2)+m - x) - m).toNat).length)&&decide (b - ((a+b).tdiv 2)≤n)&&decide ((bW m.toNat ((m - x).toNat+((((a+b).tdiv 2)+m - x) - m).toNat) l (m - x).toNat ((((a+b).tdiv 2)+m - x) - m).toNat).length≤1000000)&&fI D (bW m.toNat ((m - x).toNat+((((a+b).tdiv 2)+m - x) - m).toNat) l (m - x).toNat ((((a+b).tdiv 2)+m - x) - m).toNat)&&fV D)=false:=t;rw [hW,(sw1).fI hin,(sw1).len] at t;simp [hM] at t;omega
    skip
    have s7:¬ ((W:Int)+m - x)<b:=(by simpa [aA,aC,hM] using s7);have c3:¬ (W<(W+Q - i)∧(W+Q - i)<B):=(by omega);(conv=>whnf);refine⟨rfl,?_⟩;show (0,a8.cells true false 1 (flat aP.fl (bW m.toNat ((m - x).toNat+((((a+b).tdiv 2)+m - x) - m).toNat) l (m - x).toNat ((((a+b).tdiv 2)+m - x) - m).toNat)))::F=_;rw [aZ];simp only [hst,uA (),uQ (),uB (),u1 (),u2 (),u3 (),u4 (),u5 (),uW (),if_neg n1,if_neg n2,if_pos c1,if_neg c2,if_neg c3]
   skip
   have s6:¬ (W:Int)<((W:Int)+m - x):=(by simpa [aA,aC,hM] using s6);have c3:¬ (W<(W+Q - i)∧(W+Q - i)<B):=(by omega);(conv=>whnf);refine⟨rfl,?_⟩;show (0,a8.cells true false 1 (flat aP.fl (bW m.toNat ((m - x).toNat+((((a+b).tdiv 2)+m - x) - m).toNat) l (m - x).toNat ((((a+b).tdiv 2)+m - x) - m).toNat)))::F=_;rw [aZ];simp only [hst,uA (),uQ (),uB (),u1 (),u2 (),u3 (),u4 (),u5 (),uW (),if_neg n1,if_neg n2,if_pos c1,if_neg c2,if_neg c3]
  ((conv=>whnf);apply bm<;>intro s5);rotate_left
  ·skip
   have s5:¬ x<(W:Int):=(by simpa [aA,aC,hM] using s5);have c2:¬ (A<i∧i<W):=(by omega);((conv=>whnf);apply bm<;>intro s6)
   ·((conv=>whnf);apply bm<;>intro s7)
    ·skip
     have s6:(W:Int)<((W:Int)+m - x):=(by simpa [aA,aC,hM] using s6);have s7:((W:Int)+m - x)<b:=(by simpa [aA,aC,hM] using s7);have c3:W<(W+Q - i)∧(W+Q - i)<B:=(by omega);(conv=>whnf);refine⟨0,c,[iv ((a+b).tdiv 2),iv (((a+b).tdiv 2)+m - x),iv b],p,bW m.toNat ((m - x).toNat+((((a+b).tdiv 2)+m - x) - m).toNat) l (m - x).toNat ((((a+b).tdiv 2)+m - x) - m).toNat,D,by rw [(sw1).len];rfl,rfl,aY hC,bC hF hD,?_⟩;((conv=>whnf);apply bm<;>intro t)
     ·skip
      (conv=>whnf);refine⟨rfl,?_⟩;show (0,a8.cells true false 1 (flat aP.fl (aZ D n (bW m.toNat ((m - x).toNat+((((a+b).tdiv 2)+m - x) - m).toNat) l (m - x).toNat ((((a+b).tdiv 2)+m - x) - m).toNat) ((a+b).tdiv 2).toNat (((a+b).tdiv 2)+m - x).toNat b.toNat)))::F=_;rw [aZ];simp only [hst,uA (),uQ (),uB (),u1 (),u2 (),u3 (),u4 (),u5 (),uW (),if_neg n1,if_neg n2,if_pos c1,if_neg c2,if_pos c3]
     exfalso;have t:(decide (0≤((a+b).tdiv 2))&&decide (((a+b).tdiv 2)<(((a+b).tdiv 2)+m - x))&&decide ((((a+b).tdiv 2)+m - x)<b)&&decide (b≤(bW m.toNat ((m - x).toNat+((((a+b).tdiv 2)+m - x) - m).toNat) l (m - x).toNat ((((a+b).tdiv 2)+m - x) - m).toNat).length)&&decide (b - ((a+b).tdiv 2)≤n)&&decide ((bW m.toNat ((m - x).toNat+((((a+b).tdiv 2)+m - x) - m).toNat) l (m - x).toNat ((((a+b).tdiv 2)+m - x) - m).toNat).length≤1000000)&&fI D (bW m.toNat ((m - x).toNat+((((a+b).tdiv 2)+m - x) - m).toNat) l (m - x).toNat ((((a+b).tdiv 2)+m - x) - m).toNat)&&fV D)=false:=t;rw [hW,(sw1).fI hin,(sw1).len] at t;simp [hM] at t;omega
    skip
    have s7:¬ ((W:Int)+m - x)<b:=(by simpa [aA,aC,hM] using s7);have c3:¬ (W<(W+Q - i)∧(W+Q - i)<B):=(by omega);(conv=>whnf);refine⟨rfl,?_⟩;show (0,a8.cells true false 1 (flat aP.fl (bW m.toNat ((m - x).toNat+((((a+b).tdiv 2)+m - x) - m).toNat) l (m - x).toNat ((((a+b).tdiv 2)+m - x) - m).toNat)))::F=_;rw [aZ];simp only [hst,uA (),uQ (),uB (),u1 (),u2 (),u3 (),u4 (),u5 (),uW (),if_neg n1,if_neg n2,if_pos c1,if_neg c2,if_neg c3]
   skip
   have s6:¬ (W:Int)<((W:Int)+m - x):=(by simpa [aA,aC,hM] using s6);have c3:¬ (W<(W+Q - i)∧(W+Q - i)<B):=(by omega);(conv=>whnf);refine⟨rfl,?_⟩;show (0,a8.cells true false 1 (flat aP.fl (bW m.toNat ((m - x).toNat+((((a+b).tdiv 2)+m - x) - m).toNat) l (m - x).toNat ((((a+b).tdiv 2)+m - x) - m).toNat)))::F=_;rw [aZ];simp only [hst,uA (),uQ (),uB (),u1 (),u2 (),u3 (),u4 (),u5 (),uW (),if_neg n1,if_neg n2,if_pos c1,if_neg c2,if_neg c3]
  skip
  have s4:a<x:=(by simpa [aA,aC,hM] using s4);have s5:x<(W:Int):=(by simpa [aA,aC,hM] using s5);have c2:A<i∧i<W:=(by omega);(conv=>whnf);refine⟨0,c,[iv a,iv x,iv ((a+b).tdiv 2)],p,bW m.toNat ((m - x).toNat+((((a+b).tdiv 2)+m - x) - m).toNat) l (m - x).toNat ((((a+b).tdiv 2)+m - x) - m).toNat,D,by rw [(sw1).len];rfl,rfl,aY hC,bC hF hD,?_⟩;((conv=>whnf);apply bm<;>intro t);rotate_left
  ·exfalso;have t:(decide (0≤a)&&decide (a<x)&&decide (x<((a+b).tdiv 2))&&decide (((a+b).tdiv 2)≤(bW m.toNat ((m - x).toNat+((((a+b).tdiv 2)+m - x) - m).toNat) l (m - x).toNat ((((a+b).tdiv 2)+m - x) - m).toNat).length)&&decide (((a+b).tdiv 2) - a≤n)&&decide ((bW m.toNat ((m - x).toNat+((((a+b).tdiv 2)+m - x) - m).toNat) l (m - x).toNat ((((a+b).tdiv 2)+m - x) - m).toNat).length≤1000000)&&fI D (bW m.toNat ((m - x).toNat+((((a+b).tdiv 2)+m - x) - m).toNat) l (m - x).toNat ((((a+b).tdiv 2)+m - x) - m).toNat)&&fV D)=false:=t;rw [hW,(sw1).fI hin,(sw1).len] at t;simp [hM] at t;omega
  skip
  have sw2:Sw l (aZ D n (bW m.toNat ((m - x).toNat+((((a+b).tdiv 2)+m - x) - m).toNat) l (m - x).toNat ((((a+b).tdiv 2)+m - x) - m).toNat) a.toNat x.toNat ((a+b).tdiv 2).toNat):=(sw1).trans (mH D n _ _ _ _ (by simp only [uA (),uQ (),uB (),u1 (),u2 (),u3 (),u4 (),u5 ()];omega) (by simp only [uA (),uQ (),uB (),u1 (),u2 (),u3 (),u4 (),u5 ()];omega) (by rw [(sw1).len];simp only [uA (),uQ (),uB (),u1 (),u2 (),u3 (),u4 (),u5 ()];omega));((conv=>whnf);apply bm<;>intro s6);rotate_left
  ·skip
   have s6:¬ (W:Int)<((W:Int)+m - x):=(by simpa [aA,aC,hM] using s6);have c3:¬ (W<(W+Q - i)∧(W+Q - i)<B):=(by omega);(conv=>whnf);refine⟨rfl,?_⟩;show (0,a8.cells true false 1 (flat aP.fl (aZ D n (bW m.toNat ((m - x).toNat+((((a+b).tdiv 2)+m - x) - m).toNat) l (m - x).toNat ((((a+b).tdiv 2)+m - x) - m).toNat) a.toNat x.toNat ((a+b).tdiv 2).toNat)))::F=_;rw [aZ];simp only [hst,uA (),uQ (),uB (),u1 (),u2 (),u3 (),u4 (),u5 (),uW (),if_neg n1,if_neg n2,if_pos c1,if_pos c2,if_neg c3]
  ((conv=>whnf);apply bm<;>intro s7)
  ·skip
   have s6:(W:Int)<((W:Int)+m - x):=(by simpa [aA,aC,hM] using s6);have s7:((W:Int)+m - x)<b:=(by simpa [aA,aC,hM] using s7);have c3:W<(W+Q - i)∧(W+Q - i)<B:=(by omega);(conv=>whnf);refine⟨0,c,[iv ((a+b).tdiv 2),iv (((a+b).tdiv 2)+m - x),iv b],p,aZ D n (bW m.toNat ((m - x).toNat+((((a+b).tdiv 2)+m - x) - m).toNat) l (m - x).toNat ((((a+b).tdiv 2)+m - x) - m).toNat) a.toNat x.toNat ((a+b).tdiv 2).toNat,D,by rw [(sw2).len];rfl,rfl,aY hC,bC hF hD,?_⟩;((conv=>whnf);apply bm<;>intro t)
   ·skip
    (conv=>whnf);refine⟨rfl,?_⟩;show (0,a8.cells true false 1 (flat aP.fl (aZ D n (aZ D n (bW m.toNat ((m - x).toNat+((((a+b).tdiv 2)+m - x) - m).toNat) l (m - x).toNat ((((a+b).tdiv 2)+m - x) - m).toNat) a.toNat x.toNat ((a+b).tdiv 2).toNat) ((a+b).tdiv 2).toNat (((a+b).tdiv 2)+m - x).toNat b.toNat)))::F=_;rw [aZ];simp only [hst,uA (),uQ (),uB (),u1 (),u2 (),u3 (),u4 (),u5 (),uW (),if_neg n1,if_neg n2,if_pos c1,if_pos c2,if_pos c3]
   exfalso;have t:(decide (0≤((a+b).tdiv 2))&&decide (((a+b).tdiv 2)<(((a+b).tdiv 2)+m - x))&&decide ((((a+b).tdiv 2)+m - x)<b)&&decide (b≤(aZ D n (bW m.toNat ((m - x).toNat+((((a+b).tdiv 2)+m - x) - m).toNat) l (m - x).toNat ((((a+b).tdiv 2)+m - x) - m).toNat) a.toNat x.toNat ((a+b).tdiv 2).toNat).length)&&decide (b - ((a+b).tdiv 2)≤n)&&decide ((aZ D n (bW m.toNat ((m - x).toNat+((((a+b).tdiv 2)+m - x) - m).toNat) l (m - x).toNat ((((a+b).tdiv 2)+m - x) - m).toNat) a.toNat x.toNat ((a+b).tdiv 2).toNat).length≤1000000)&&fI D (aZ D n (bW m.toNat ((m - x).toNat+((((a+b).tdiv 2)+m - x) - m).toNat) l (m - x).toNat ((((a+b).tdiv 2)+m - x) - m).toNat) a.toNat x.toNat ((a+b).tdiv 2).toNat)&&fV D)=false:=t;rw [hW,(sw2).fI hin,(sw2).len] at t;simp [hM] at t;omega
  skip
  have s7:¬ ((W:Int)+m - x)<b:=(by simpa [aA,aC,hM] using s7);have c3:¬ (W<(W+Q - i)∧(W+Q - i)<B):=(by omega);(conv=>whnf);refine⟨rfl,?_⟩;show (0,a8.cells true false 1 (flat aP.fl (aZ D n (bW m.toNat ((m - x).toNat+((((a+b).tdiv 2)+m - x) - m).toNat) l (m - x).toNat ((((a+b).tdiv 2)+m - x) - m).toNat) a.toNat x.toNat ((a+b).tdiv 2).toNat)))::F=_;rw [aZ];simp only [hst,uA (),uQ (),uB (),u1 (),u2 (),u3 (),u4 (),u5 (),uW (),if_neg n1,if_neg n2,if_pos c1,if_pos c2,if_neg c3]
end Go.Aw
end
