/-
  Parts of a proof. No condition.
-/
import Derived.Test.YticajjhjehljpaaGreatQAt
set_option linter.unusedSimpArgs false
set_option linter.unusedVariables false
noncomputable section
namespace Go.Aw
set_option maxRecDepth 100000
set_option maxHeartbeats 4000000
def aAc (n:Nat)(D:CW)(l:List Int)(r:List Value)(c:Nat):Option (Bool × List Int):=match r with
 |[.int .i64 a,.int .i64 m,.int .i64 b]=>some (decide (0≤a)&&decide (a<m)&&decide (m<b)&&decide (b≤l.length)&&decide (b - a≤n)&&decide (l.length≤1000000)&&fK D l&&fG D,aP D n l a.toNat m.toNat b.toNat)
 |_=>none
theorem OL {n:Nat}{D:CW}{l:List Int}{r:List Value}{c:Nat}{l':List Int}(h:aAc n D l r c=some (true,l')):∃ a m b:Int,r=[iv a,iv m,iv b]∧0≤a∧a<m∧m<b∧b≤l.length∧b - a≤n∧l.length≤1000000∧fK D l=true∧fG D=true∧l'=aP D n l a.toNat m.toNat b.toNat:=by
 unfold aAc at h;split at h
 ·rename_i a m b;injection h with h;injection h with h1 h2;simp only [Bool.and_eq_true,decide_eq_true_eq] at h1;obtain⟨⟨⟨⟨⟨⟨⟨p1,p2⟩,p3⟩,p4⟩,p5⟩,p6⟩,p7⟩,p8⟩:=h1;exact⟨a,m,b,rfl,p1,p2,p3,p4,p5,p6,p7,p8,h2.symm⟩
 ·cases h
theorem UG {f:Nat→Bool}{k i j:Nat}(h:i<j):tU f (k+1) i j=if f ((i+j) / 2)=true then tU f k i ((i+j) / 2) else tU f k ((i+j) / 2+1) j:=by
 conv=>lhs;unfold tU
 rw [if_pos h]
def AH (N c:Nat)(a i j:Int)(D:CW)(p:Nat × Nat):List (Nat × Value):=[(0,.slice (some ⟨0,0,none⟩) N c),(4,lE D p),(1,iv a),(10,iv i),(11,iv j)]
def HT (N c:Nat)(i k:Int):List (Nat × Value):=[(0,.slice (some ⟨0,0,none⟩) N c),(10,iv i),(13,iv k)]
def A3 (N c:Nat)(m i j:Int)(D:CW)(p:Nat × Nat):List (Nat × Value):=[(0,.slice (some ⟨0,0,none⟩) N c),(4,lE D p),(2,iv m),(14,iv i),(15,iv j)]
def HR (N c:Nat)(i k:Int):List (Nat × Value):=[(0,.slice (some ⟨0,0,none⟩) N c),(14,iv i),(17,iv k)]
def lM (N c:Nat)(a m b mid nn p1 i j:Int)(D:CW)(p:Nat × Nat):List (Nat × Value):=[(0,.slice (some ⟨0,0,none⟩) N c),(4,lE D p),(1,iv a),(2,iv m),(3,iv b),(18,iv mid),(19,iv nn),(22,iv p1),(20,iv i),(21,iv j)]
theorem aDW:∀ n,dK Go.Proofs.Tryz.prog 187 (O6 (aAc n))
 |0=>sH (aR (xl:=[]) .nil) fun D l r c l' hs=>by
  obtain⟨a,m,b,rfl,ha,ham,hmb,hb,hn,_⟩:=OL hs;omega
 |n+1=>sH (A5 (xl:=[aAv,(187,O6 (aAc n))]) (.cons aHT (.cons (aDW n) .nil))) fun D l r c l' hs=>by
  obtain⟨a,m,b,rfl,ha,ham,hmb,hb,hn,hl,hin,hW,rfl⟩:=OL hs;clear hs;refine⟨rfl,fun F nx p hF hC hD=>?_⟩;have hp:=JO hF hD;have hl1:(flat aU.fl l).length=l.length:=(by rw [cG];exact Nat.mul_one _);have okc:∀ x y:Nat,x<l.length→y<l.length→WU D (aH l x) (aH l y)=true:=fun x y hx hy=>by
   have i1:=r8 hin hx;have i2:=r8 hin hy;rw [WU,hW,decide_eq_true i1.1,decide_eq_true i1.2,decide_eq_true i2.1,decide_eq_true i2.2];rfl
  ((conv=>whnf);refine bm (fun g1=>?_) (fun g1=>?_))
  ·((conv=>whnf);refine bm (fun g2=>?_) (fun g2=>?_))
   ·have g2:m - a=1:=(by simpa [aA,aG] using g2);(conv=>whnf);refine⟨fun q e h nx'=>∃ (i j k:Nat) (x y:Int),x=i∧y=j∧m.toNat≤i∧i≤j∧j≤b.toNat∧j - i≤k∧q=j - i∧tU (fun h=>!(iS D (aH l h) (aH l a.toNat))) (b.toNat - m.toNat) m.toNat b.toNat=tU (fun h=>!(iS D (aH l h) (aH l a.toNat))) k i j∧e=AH l.length c a x y D p∧h=(0,.cells true false 1 (flat aU.fl l))::F∧nx'=nx,⟨b.toNat - m.toNat,?_⟩,?_⟩
    ·refine bL (e0:=AH l.length c a m b D p) (o0:=.cells true false 1 (flat aU.fl l)) (n0:=nx) hF ⟨m.toNat,b.toNat,_,_,_,by omega,by omega,Nat.le_refl _,by omega,Nat.le_refl _,Nat.le_refl _,rfl,rfl,rfl,rfl,rfl⟩ ?_ (aI (aF _ _)) (Nat.le_refl _);unfold AH;refine List.forall_mem_cons.2 ⟨cJ hF.1 rfl,List.forall_mem_cons.2 ⟨dH hp rfl,?_⟩⟩;((repeat' refine iE rfl rfl ?_);exact iN)
    ·rintro q e h nx' ⟨i,j,k,x,y,hx,hy,hi0,hij,hj,hk,rfl,hbs,rfl,rfl,rfl⟩;unfold AH;((conv=>whnf);refine bm (fun h1=>?_) (fun h1=>?_))
     ·have h1:i<j:=(by simp [aA,aG] at h1;omega);obtain⟨k',rfl⟩:∃ k',k=k'+1:=⟨k - 1,by omega⟩;rw [UG h1] at hbs;have qh:(x+y).tdiv 2=(((i+j) / 2:Nat):Int):=(by rw [Int.tdiv_eq_ediv_of_nonneg (by omega)];omega);((conv=>whnf);refine bm (fun q1=>?_) (fun q1=>?_))
      ·((conv=>whnf);refine bm (fun q2=>?_) (fun q2=>?_))
       ·((conv=>whnf);refine bm (fun q3=>?_) (fun q3=>?_))
        ·((conv=>whnf);refine bm (fun q4=>?_) (fun q4=>?_))
         ·((conv=>whnf);refine bm (fun q5=>?_) (fun q5=>?_))
          ·(conv=>whnf);refine lD (j1 l (i:=(i+j) / 2) (by omega) ?_) ?_
           ·show _+Int.toNat ((x+y).tdiv 2)*1=_;rw [qh];omega
           ((conv=>whnf);refine bm (fun q6=>?_) (fun q6=>?_))
           ·(conv=>whnf);refine lD (j1 l (i:=a.toNat) (by omega) ?_) ?_
            ·show _+Int.toNat (a)*1=_;omega
            (conv=>whnf);rw [rM];(conv=>whnf);refine .inl ⟨D,aH l ((i+j) / 2),aH l (a.toNat),p,rfl,rfl,OF hF hD,?_⟩;((conv=>whnf);refine bm (fun q7=>?_) (fun q7=>?_))
            ·((conv=>whnf);refine bm (fun q8=>?_) (fun q8=>?_))
             ·have q8:iS D (aH l ((i+j) / 2)) (aH l (a.toNat))=true:=q8;((conv=>whnf);refine bm (fun q9=>?_) (fun q9=>?_))
              ·(conv=>whnf);refine⟨j - ((i+j) / 2+1),by omega,?_⟩;refine bL (e0:=AH l.length c a ((x+y).tdiv 2+1) y D p) (o0:=.cells true false 1 (flat aU.fl l)) (n0:=nx') hF ⟨(i+j) / 2+1,j,k',_,_,by rw [qh];omega,hy,by omega,by omega,by omega,by omega,rfl,by rw [hbs,if_neg (by simp [q8])],rfl,rfl,rfl⟩ ?_ (aI (aF _ _)) (Nat.le_refl _);unfold AH;refine List.forall_mem_cons.2 ⟨cJ hF.1 rfl,List.forall_mem_cons.2 ⟨dH hp rfl,?_⟩⟩;((repeat' refine iE rfl rfl ?_);exact iN)
              ·exfalso;simp [aA,aG,aK,qh] at q9;omega
             ·have q8:iS D (aH l ((i+j) / 2)) (aH l (a.toNat))=false:=q8;(conv=>whnf);refine⟨(i+j) / 2 - i,by omega,?_⟩;refine bL (e0:=AH l.length c a x ((x+y).tdiv 2) D p) (o0:=.cells true false 1 (flat aU.fl l)) (n0:=nx') hF ⟨i,(i+j) / 2,k',_,_,hx,qh,hi0,by omega,by omega,by omega,rfl,by rw [hbs,if_pos (by simp [q8])],rfl,rfl,rfl⟩ ?_ (aI (aF _ _)) (Nat.le_refl _);unfold AH;refine List.forall_mem_cons.2 ⟨cJ hF.1 rfl,List.forall_mem_cons.2 ⟨dH hp rfl,?_⟩⟩;((repeat' refine iE rfl rfl ?_);exact iN)
            ·exfalso;have q7:WU D (aH l ((i+j) / 2)) (aH l (a.toNat))=false:=q7;rw [okc _ _ (by omega) (by omega)] at q7;cases q7
           ·exfalso;simp [aA,aG,qh] at q6;omega
          ·exfalso;simp [aA,aG,qh] at q5;omega
         ·exfalso;simp [aA,aG,aK,qh] at q4;omega
        ·exfalso;simp [aA,aG] at q3;omega
       ·exfalso;simp [aA,aG,aK] at q2;omega
      ·exfalso;simp [aA,aG,aK] at q1;omega
     ·have h1:i=j:=(by simp [aA,aG] at h1;omega);subst h1;rw [CI] at hbs;(conv=>whnf);refine⟨fun q e h nx''=>∃ (t:Nat) (z:Int),z=a.toNat+t∧t≤(i - 1 - a.toNat)∧q=(i - 1 - a.toNat) - t∧e=HT l.length c x (z)∧h=(0,.cells true false 1 (flat aU.fl (WM l a.toNat t)))::F∧nx''=nx',⟨(i - 1 - a.toNat),?_⟩,?_⟩
      ·refine bL (e0:=HT l.length c x (a)) (o0:=.cells true false 1 (flat aU.fl l)) (n0:=nx') hF ⟨0,_,by omega,Nat.zero_le _,rfl,rfl,rfl,rfl⟩ ?_ (aI (aF _ _)) (Nat.le_refl _);unfold HT;refine List.forall_mem_cons.2 ⟨cJ hF.1 rfl,?_⟩;((repeat' refine iE rfl rfl ?_);exact iN)
      ·rintro q e h nx'' ⟨t,z,hz,ht,rfl,rfl,rfl,rfl⟩;have sw:=Y9 l a.toNat t (by omega);have sl:=sw.len;have nxt:WM l a.toNat (t+1)=lS (WM l a.toNat t) (a.toNat+t) (a.toNat+t+1):=rfl;generalize hs0:WM l a.toNat t=L at sl nxt;have hl1:(flat aU.fl L).length=L.length:=(by rw [cG];exact Nat.mul_one _);unfold HT;((conv=>whnf);refine bm (fun r1=>?_) (fun r1=>?_))
       ·skip
        ((conv=>whnf);refine bm (fun r2=>?_) (fun r2=>?_))
        ·have r2:t<(i - 1 - a.toNat):=(by simp [aA,aG] at r2;omega);have cC:=BO (L:=L) (x:=a.toNat+t) (y:=a.toNat+t+1) (o1:=0+z.toNat*1) (o2:=0+(z+1).toNat*1) (by omega) (by omega) (by omega) (by omega)
         repeat' first
          |(((conv=>whnf);refine bm (fun g=>?_) (fun g=>?_)))
          |((conv=>whnf)
            refine lD (j1 L (i:=a.toNat+t) (by omega) ?_) ?_
            ·show _+Int.toNat z*1=_;omega)
          |((conv=>whnf)
            refine lD (j1 L (i:=a.toNat+t+1) (by omega) ?_) ?_
            ·show _+Int.toNat (z+1)*1=_;omega)
         all_goals first
          |(exfalso;simp [aA,aG,aK] at g;omega)
          |(have g:(0+z.toNat*1+1).ble (flat aU.fl L).length=false:=g
            rw [hl1] at g;exact kH g (by omega))
          |(have g:(0+(z+1).toNat*1+1).ble (eC (flat aU.fl L) (0+z.toNat*1) [iv (aH L (a.toNat+t+1))]).length=false:=g
            rw [gO (by rw [hl1];show 0+z.toNat*1+1≤L.length;omega),hl1] at g;exact kH g (by omega))
          |skip
         (conv=>whnf);refine⟨(i - 1 - a.toNat) - (t+1),by omega,?_⟩;refine bL (e0:=HT l.length c x (z+1)) (o0:=.cells true false 1 (flat aU.fl (lS L (a.toNat+t) (a.toNat+t+1)))) (n0:=nx'') hF ⟨t+1,z+1,by omega,by omega,rfl,rfl,by rw [nxt],rfl⟩ ?_ (cV (aF _ _) cC) (Nat.le_refl _);unfold HT;refine List.forall_mem_cons.2 ⟨cJ hF.1 rfl,?_⟩;((repeat' refine iE rfl rfl ?_);exact iN)
        ·have r2:t=(i - 1 - a.toNat):=(by simp [aA,aG] at r2;omega);(conv=>whnf);refine⟨rfl,?_⟩;rw [← hs0,r2,aP,if_pos (by omega),hbs]
       ·exfalso;simp [aA,aG,aK] at r1;omega
   ·have g2:¬ m - a=1:=(by simpa [aA,aG] using g2);((conv=>whnf);refine bm (fun g3=>?_) (fun g3=>?_))
    ·((conv=>whnf);refine bm (fun g4=>?_) (fun g4=>?_))
     ·have g4:b - m=1:=(by simpa [aA,aG] using g4);(conv=>whnf);refine⟨fun q e h nx'=>∃ (i j k:Nat) (x y:Int),x=i∧y=j∧a.toNat≤i∧i≤j∧j≤m.toNat∧j - i≤k∧q=j - i∧tU (fun h=>iS D (aH l m.toNat) (aH l h)) (m.toNat - a.toNat) a.toNat m.toNat=tU (fun h=>iS D (aH l m.toNat) (aH l h)) k i j∧e=A3 l.length c m x y D p∧h=(0,.cells true false 1 (flat aU.fl l))::F∧nx'=nx,⟨m.toNat - a.toNat,?_⟩,?_⟩
      ·refine bL (e0:=A3 l.length c m a m D p) (o0:=.cells true false 1 (flat aU.fl l)) (n0:=nx) hF ⟨a.toNat,m.toNat,_,_,_,by omega,by omega,Nat.le_refl _,by omega,Nat.le_refl _,Nat.le_refl _,rfl,rfl,rfl,rfl,rfl⟩ ?_ (aI (aF _ _)) (Nat.le_refl _);unfold A3;refine List.forall_mem_cons.2 ⟨cJ hF.1 rfl,List.forall_mem_cons.2 ⟨dH hp rfl,?_⟩⟩;((repeat' refine iE rfl rfl ?_);exact iN)
      ·rintro q e h nx' ⟨i,j,k,x,y,hx,hy,hi0,hij,hj,hk,rfl,hbs,rfl,rfl,rfl⟩;unfold A3;((conv=>whnf);refine bm (fun h1=>?_) (fun h1=>?_))
       ·have h1:i<j:=(by simp [aA,aG] at h1;omega);obtain⟨k',rfl⟩:∃ k',k=k'+1:=⟨k - 1,by omega⟩;rw [UG h1] at hbs;have qh:(x+y).tdiv 2=(((i+j) / 2:Nat):Int):=(by rw [Int.tdiv_eq_ediv_of_nonneg (by omega)];omega);((conv=>whnf);refine bm (fun q1=>?_) (fun q1=>?_))
        ·((conv=>whnf);refine bm (fun q2=>?_) (fun q2=>?_))
         ·((conv=>whnf);refine bm (fun q3=>?_) (fun q3=>?_))
          ·((conv=>whnf);refine bm (fun q4=>?_) (fun q4=>?_))
           ·((conv=>whnf);refine bm (fun q5=>?_) (fun q5=>?_))
            ·(conv=>whnf);refine lD (j1 l (i:=m.toNat) (by omega) ?_) ?_
             ·show _+Int.toNat (m)*1=_;omega
             ((conv=>whnf);refine bm (fun q6=>?_) (fun q6=>?_))
             ·(conv=>whnf);refine lD (j1 l (i:=(i+j) / 2) (by omega) ?_) ?_
              ·show _+Int.toNat ((x+y).tdiv 2)*1=_;rw [qh];omega
              (conv=>whnf);rw [rM];(conv=>whnf);refine .inl ⟨D,aH l (m.toNat),aH l ((i+j) / 2),p,rfl,rfl,OF hF hD,?_⟩;((conv=>whnf);refine bm (fun q7=>?_) (fun q7=>?_))
              ·((conv=>whnf);refine bm (fun q8=>?_) (fun q8=>?_))
               ·have q8:iS D (aH l m.toNat) (aH l ((i+j) / 2))=false:=(by have q8:(!(iS D (aH l m.toNat) (aH l ((i+j) / 2))))=true:=q8;simpa using q8);((conv=>whnf);refine bm (fun q9=>?_) (fun q9=>?_))
                ·(conv=>whnf);refine⟨j - ((i+j) / 2+1),by omega,?_⟩;refine bL (e0:=A3 l.length c m ((x+y).tdiv 2+1) y D p) (o0:=.cells true false 1 (flat aU.fl l)) (n0:=nx') hF ⟨(i+j) / 2+1,j,k',_,_,by rw [qh];omega,hy,by omega,by omega,by omega,by omega,rfl,by rw [hbs,if_neg (by simp [q8])],rfl,rfl,rfl⟩ ?_ (aI (aF _ _)) (Nat.le_refl _);unfold A3;refine List.forall_mem_cons.2 ⟨cJ hF.1 rfl,List.forall_mem_cons.2 ⟨dH hp rfl,?_⟩⟩;((repeat' refine iE rfl rfl ?_);exact iN)
                ·exfalso;simp [aA,aG,aK,qh] at q9;omega
               ·have q8:iS D (aH l m.toNat) (aH l ((i+j) / 2))=true:=(by have q8:(!(iS D (aH l m.toNat) (aH l ((i+j) / 2))))=false:=q8;simpa using q8);(conv=>whnf);refine⟨(i+j) / 2 - i,by omega,?_⟩;refine bL (e0:=A3 l.length c m x ((x+y).tdiv 2) D p) (o0:=.cells true false 1 (flat aU.fl l)) (n0:=nx') hF ⟨i,(i+j) / 2,k',_,_,hx,qh,hi0,by omega,by omega,by omega,rfl,by rw [hbs,if_pos (by simp [q8])],rfl,rfl,rfl⟩ ?_ (aI (aF _ _)) (Nat.le_refl _);unfold A3;refine List.forall_mem_cons.2 ⟨cJ hF.1 rfl,List.forall_mem_cons.2 ⟨dH hp rfl,?_⟩⟩;((repeat' refine iE rfl rfl ?_);exact iN)
              ·exfalso;have q7:WU D (aH l (m.toNat)) (aH l ((i+j) / 2))=false:=q7;rw [okc _ _ (by omega) (by omega)] at q7;cases q7
             ·exfalso;simp [aA,aG,qh] at q6;omega
            ·exfalso;simp [aA,aG,qh] at q5;omega
           ·exfalso;simp [aA,aG,aK,qh] at q4;omega
          ·exfalso;simp [aA,aG] at q3;omega
         ·exfalso;simp [aA,aG,aK] at q2;omega
        ·exfalso;simp [aA,aG,aK] at q1;omega
       ·have h1:i=j:=(by simp [aA,aG] at h1;omega);subst h1;rw [CI] at hbs;(conv=>whnf);refine⟨fun q e h nx''=>∃ (t:Nat) (z:Int),z=m.toNat - t∧t≤(m.toNat - i)∧q=(m.toNat - i) - t∧e=HR l.length c x (z)∧h=(0,.cells true false 1 (flat aU.fl (VM l m.toNat t)))::F∧nx''=nx',⟨(m.toNat - i),?_⟩,?_⟩
        ·refine bL (e0:=HR l.length c x (m)) (o0:=.cells true false 1 (flat aU.fl l)) (n0:=nx') hF ⟨0,_,by omega,Nat.zero_le _,rfl,rfl,rfl,rfl⟩ ?_ (aI (aF _ _)) (Nat.le_refl _);unfold HR;refine List.forall_mem_cons.2 ⟨cJ hF.1 rfl,?_⟩;((repeat' refine iE rfl rfl ?_);exact iN)
        ·rintro q e h nx'' ⟨t,z,hz,ht,rfl,rfl,rfl,rfl⟩;have sw:=aBb l m.toNat (by omega) t;have sl:=sw.len;have nxt:VM l m.toNat (t+1)=lS (VM l m.toNat t) (m.toNat - t) (m.toNat - t - 1):=rfl;generalize hs0:VM l m.toNat t=L at sl nxt;have hl1:(flat aU.fl L).length=L.length:=(by rw [cG];exact Nat.mul_one _);unfold HR;((conv=>whnf);refine bm (fun r2=>?_) (fun r2=>?_))
         ·have r2:t<(m.toNat - i):=(by simp [aA,aG] at r2;omega);have cC:=BO (L:=L) (x:=m.toNat - t) (y:=m.toNat - t - 1) (o1:=0+z.toNat*1) (o2:=0+(z - 1).toNat*1) (by omega) (by omega) (by omega) (by omega)
          repeat' first
           |(((conv=>whnf);refine bm (fun g=>?_) (fun g=>?_)))
           |((conv=>whnf)
             refine lD (j1 L (i:=m.toNat - t) (by omega) ?_) ?_
             ·show _+Int.toNat z*1=_;omega)
           |((conv=>whnf)
             refine lD (j1 L (i:=m.toNat - t - 1) (by omega) ?_) ?_
             ·show _+Int.toNat (z - 1)*1=_;omega)
          all_goals first
           |(exfalso;simp [aA,aG,aK] at g;omega)
           |(have g:(0+z.toNat*1+1).ble (flat aU.fl L).length=false:=g
             rw [hl1] at g;exact kH g (by omega))
           |(have g:(0+(z - 1).toNat*1+1).ble (eC (flat aU.fl L) (0+z.toNat*1) [iv (aH L (m.toNat - t - 1))]).length=false:=g
             rw [gO (by rw [hl1];show 0+z.toNat*1+1≤L.length;omega),hl1] at g;exact kH g (by omega))
           |skip
          (conv=>whnf);refine⟨(m.toNat - i) - (t+1),by omega,?_⟩;refine bL (e0:=HR l.length c x (z - 1)) (o0:=.cells true false 1 (flat aU.fl (lS L (m.toNat - t) (m.toNat - t - 1)))) (n0:=nx'') hF ⟨t+1,z - 1,by omega,by omega,rfl,rfl,by rw [nxt],rfl⟩ ?_ (cV (aF _ _) cC) (Nat.le_refl _);unfold HR;refine List.forall_mem_cons.2 ⟨cJ hF.1 rfl,?_⟩;((repeat' refine iE rfl rfl ?_);exact iN)
         ·have r2:t=(m.toNat - i):=(by simp [aA,aG] at r2;omega);(conv=>whnf);refine⟨rfl,?_⟩;rw [← hs0,r2,aP,if_neg (by omega),if_pos (by omega),hbs]
     ·have g4:¬ b - m=1:=(by simpa [aA,aG] using g4);have hM:(a+b).tdiv 2=(((a.toNat+b.toNat) / 2:Nat):Int):=(by rw [Int.tdiv_eq_ediv_of_nonneg (by omega)];omega);((conv=>whnf);refine bm (fun g5=>?_) (fun g5=>?_))
      ·((conv=>whnf);refine bm (fun g5b=>?_) (fun g5b=>?_));rotate_left;(exfalso;simp [aA,aG,aK] at g5b;omega);((conv=>whnf);refine bm (fun g5c=>?_) (fun g5c=>?_));rotate_left;(exfalso;simp [aA,aG,aK] at g5c;omega);((conv=>whnf);refine bm (fun g6=>?_) (fun g6=>?_))
       ·((conv=>whnf);refine bm (fun g7=>?_) (fun g7=>?_))
        ·((conv=>whnf);refine bm (fun g8=>?_) (fun g8=>?_))
         ·have g8:(a+b).tdiv 2<m:=(by simpa [aA,aG] using g8);have hc:(a.toNat+b.toNat) / 2<m.toNat:=(by omega);((conv=>whnf);refine bm (fun g9=>?_) (fun g9=>?_))
          ·((conv=>whnf);refine bm (fun g10=>?_) (fun g10=>?_))
           ·skip
            (conv=>whnf);refine⟨fun q e h nx'=>∃ (i j k:Nat) (x y:Int),x=i∧y=j∧((a.toNat+b.toNat) / 2+m.toNat - b.toNat)≤i∧i≤j∧j≤((a.toNat+b.toNat) / 2)∧j - i≤k∧q=j - i∧tU (fun c=>iS D (aH l ((a.toNat+b.toNat) / 2+m.toNat - 1 - c)) (aH l c)) (((a.toNat+b.toNat) / 2) - ((a.toNat+b.toNat) / 2+m.toNat - b.toNat)) ((a.toNat+b.toNat) / 2+m.toNat - b.toNat) ((a.toNat+b.toNat) / 2)=tU (fun c=>iS D (aH l ((a.toNat+b.toNat) / 2+m.toNat - 1 - c)) (aH l c)) k i j∧e=lM l.length c a m b ((a+b).tdiv 2) ((a+b).tdiv 2+m) ((a+b).tdiv 2+m - 1) x y D p∧h=(0,.cells true false 1 (flat aU.fl l))::F∧nx'=nx,⟨((a.toNat+b.toNat) / 2) - ((a.toNat+b.toNat) / 2+m.toNat - b.toNat),?_⟩,?_⟩
            ·refine bL (e0:=lM l.length c a m b ((a+b).tdiv 2) ((a+b).tdiv 2+m) ((a+b).tdiv 2+m - 1) ((a+b).tdiv 2+m - b) ((a+b).tdiv 2) D p) (o0:=.cells true false 1 (flat aU.fl l)) (n0:=nx) hF ⟨((a.toNat+b.toNat) / 2+m.toNat - b.toNat),((a.toNat+b.toNat) / 2),_,_,_,by omega,by omega,Nat.le_refl _,by omega,Nat.le_refl _,Nat.le_refl _,rfl,rfl,rfl,rfl,rfl⟩ ?_ (aI (aF _ _)) (Nat.le_refl _);unfold lM;refine List.forall_mem_cons.2 ⟨cJ hF.1 rfl,List.forall_mem_cons.2 ⟨dH hp rfl,?_⟩⟩;((repeat' refine iE rfl rfl ?_);exact iN)
            ·rintro q e h nx' ⟨i,j,k,x,y,hx,hy,hi0,hij,hj,hk,rfl,hbs,rfl,rfl,rfl⟩;unfold lM;((conv=>whnf);refine bm (fun h1=>?_) (fun h1=>?_))
             ·have h1:i<j:=(by simp [aA,aG] at h1;omega);obtain⟨k',rfl⟩:∃ k',k=k'+1:=⟨k - 1,by omega⟩;rw [UG h1] at hbs;have qh:(x+y).tdiv 2=(((i+j) / 2:Nat):Int):=(by rw [Int.tdiv_eq_ediv_of_nonneg (by omega)];omega);((conv=>whnf);refine bm (fun q1=>?_) (fun q1=>?_))
              ·((conv=>whnf);refine bm (fun q2=>?_) (fun q2=>?_))
               ·((conv=>whnf);refine bm (fun q3=>?_) (fun q3=>?_))
                ·((conv=>whnf);refine bm (fun q4=>?_) (fun q4=>?_))
                 ·((conv=>whnf);refine bm (fun q5a=>?_) (fun q5a=>?_));rotate_left;(exfalso;simp [aA,aG,aK,hM,qh] at q5a;omega);((conv=>whnf);refine bm (fun q5=>?_) (fun q5=>?_))
                  ·(conv=>whnf);refine lD (j1 l (i:=((a.toNat+b.toNat) / 2+m.toNat - 1 - (i+j) / 2)) (by omega) ?_) ?_
                   ·show _+Int.toNat (((a+b).tdiv 2+m - 1 - (x+y).tdiv 2))*1=_;rw [qh];omega
                   ((conv=>whnf);refine bm (fun q6=>?_) (fun q6=>?_))
                   ·(conv=>whnf);refine lD (j1 l (i:=(i+j) / 2) (by omega) ?_) ?_
                    ·show _+Int.toNat ((x+y).tdiv 2)*1=_;rw [qh];omega
                    (conv=>whnf);rw [rM];(conv=>whnf);refine .inl ⟨D,aH l (((a.toNat+b.toNat) / 2+m.toNat - 1 - (i+j) / 2)),aH l ((i+j) / 2),p,rfl,rfl,OF hF hD,?_⟩;((conv=>whnf);refine bm (fun q7=>?_) (fun q7=>?_))
                    ·((conv=>whnf);refine bm (fun q8=>?_) (fun q8=>?_))
                     ·have q8:iS D (aH l ((a.toNat+b.toNat) / 2+m.toNat - 1 - (i+j) / 2)) (aH l ((i+j) / 2))=false:=(by have q8:(!(iS D (aH l ((a.toNat+b.toNat) / 2+m.toNat - 1 - (i+j) / 2)) (aH l ((i+j) / 2))))=true:=q8;simpa using q8);((conv=>whnf);refine bm (fun q9=>?_) (fun q9=>?_))
                      ·(conv=>whnf);refine⟨j - ((i+j) / 2+1),by omega,?_⟩;refine bL (e0:=lM l.length c a m b ((a+b).tdiv 2) ((a+b).tdiv 2+m) ((a+b).tdiv 2+m - 1) ((x+y).tdiv 2+1) y D p) (o0:=.cells true false 1 (flat aU.fl l)) (n0:=nx') hF ⟨(i+j) / 2+1,j,k',_,_,by rw [qh];omega,hy,by omega,by omega,by omega,by omega,rfl,by rw [hbs,if_neg (by simp [q8])],rfl,rfl,rfl⟩ ?_ (aI (aF _ _)) (Nat.le_refl _);unfold lM;refine List.forall_mem_cons.2 ⟨cJ hF.1 rfl,List.forall_mem_cons.2 ⟨dH hp rfl,?_⟩⟩;((repeat' refine iE rfl rfl ?_);exact iN)
                      ·exfalso;simp [aA,aG,aK,qh] at q9;omega
                     ·have q8:iS D (aH l ((a.toNat+b.toNat) / 2+m.toNat - 1 - (i+j) / 2)) (aH l ((i+j) / 2))=true:=(by have q8:(!(iS D (aH l ((a.toNat+b.toNat) / 2+m.toNat - 1 - (i+j) / 2)) (aH l ((i+j) / 2))))=false:=q8;simpa using q8);(conv=>whnf);refine⟨(i+j) / 2 - i,by omega,?_⟩;refine bL (e0:=lM l.length c a m b ((a+b).tdiv 2) ((a+b).tdiv 2+m) ((a+b).tdiv 2+m - 1) x ((x+y).tdiv 2) D p) (o0:=.cells true false 1 (flat aU.fl l)) (n0:=nx') hF ⟨i,(i+j) / 2,k',_,_,hx,qh,hi0,by omega,by omega,by omega,rfl,by rw [hbs,if_pos (by simp [q8])],rfl,rfl,rfl⟩ ?_ (aI (aF _ _)) (Nat.le_refl _);unfold lM;refine List.forall_mem_cons.2 ⟨cJ hF.1 rfl,List.forall_mem_cons.2 ⟨dH hp rfl,?_⟩⟩;((repeat' refine iE rfl rfl ?_);exact iN)
                    ·exfalso;have q7:WU D (aH l (((a.toNat+b.toNat) / 2+m.toNat - 1 - (i+j) / 2))) (aH l ((i+j) / 2))=false:=q7;rw [okc _ _ (by omega) (by omega)] at q7;cases q7
                   ·exfalso;simp [aA,aG,hM,qh] at q6;omega
                  ·exfalso;simp [aA,aG,hM,qh] at q5;omega
                 ·exfalso;simp [aA,aG,hM,aK,qh] at q4;omega
                ·exfalso;simp [aA,aG] at q3;omega
               ·exfalso;simp [aA,aG,aK] at q2;omega
              ·exfalso;simp [aA,aG,aK] at q1;omega
             ·have h1:i=j:=(by simp [aA,aG] at h1;omega);subst h1;rw [CI] at hbs
              skip
              have hst:stM D l a.toNat m.toNat b.toNat=i:=(by unfold stM;simp only [if_pos hc];exact hbs);have low:=wK (D:=D) (L:=l) (a:=a.toNat) (m:=m.toNat) (b:=b.toNat) (by omega) (by omega);clear hbs hk hj hi0 hc g8;obtain⟨A,eA⟩:∃ A,a.toNat=A:=⟨_,rfl⟩;obtain⟨Q,eQ⟩:∃ Q,m.toNat=Q:=⟨_,rfl⟩;obtain⟨B,eB⟩:∃ B,b.toNat=B:=⟨_,rfl⟩;obtain⟨W,eW⟩:∃ W,(A+B) / 2=W:=⟨_,rfl⟩;rw [eA,eQ,eB] at hst;rw [eA,eQ,eB] at low;rw [hst,eW] at low;rw [eA,eB,eW] at hM;have zA:a=A:=(by omega);have zQ:m=Q:=(by omega);have zB:b=B:=(by omega);have uA:∀ _:Unit,a.toNat=A:=fun _=>eA;have uQ:∀ _:Unit,m.toNat=Q:=fun _=>eQ;have uB:∀ _:Unit,b.toNat=B:=fun _=>eB;have uW:∀ _:Unit,(A+B) / 2=W:=fun _=>eW;have zW:A+1≤W∧W+1≤B:=(by omega);clear eA eQ eB eW;have u1:∀ _:Unit,x.toNat=i:=fun _=>(by omega);have u2:∀ _:Unit,((a+b).tdiv 2).toNat=W:=fun _=>(by rw [hM];omega);have u3:∀ _:Unit,(m - x).toNat=Q - i:=fun _=>(by omega);have u4:∀ _:Unit,(((a+b).tdiv 2)+m - x).toNat=(W+Q - i):=fun _=>(by rw [hM];omega);have u5:∀ _:Unit,((((a+b).tdiv 2)+m - x) - m).toNat=(W+Q - i) - Q:=fun _=>(by rw [hM];omega);((conv=>whnf);refine bm (fun s1=>?_) (fun s1=>?_));rotate_left;(exfalso;simp [aA,aG,aK,hM] at s1;omega);have n1:¬ Q - A=1:=(by omega);have n2:¬ B - Q=1:=(by omega);((conv=>whnf);refine bm (fun s2=>?_) (fun s2=>?_))
              ·((conv=>whnf);refine bm (fun s3=>?_) (fun s3=>?_))
               ·skip
                have s2:x<m:=(by simpa [aA,aG,hM] using s2);have s3:m<((W:Int)+m - x):=(by simpa [aA,aG,hM] using s3);have c1:i<Q∧Q<(W+Q - i):=(by omega);(conv=>whnf);refine .inr ?_;(conv=>whnf);refine⟨0,c,[iv x,iv m,iv (((a+b).tdiv 2)+m - x)],p,l,D,rfl,rfl,aQ hC,bG hF hD,?_⟩;((conv=>whnf);refine bm (fun t=>?_) (fun t=>?_))
                ·have sw1:Sw l (bO m.toNat ((m - x).toNat+((((a+b).tdiv 2)+m - x) - m).toNat) l (m - x).toNat ((((a+b).tdiv 2)+m - x) - m).toNat):=rG _ _ _ _ _ (by simp only [uA (),uQ (),uB (),u1 (),u2 (),u3 (),u4 (),u5 ()];omega) (by simp only [uA (),uQ (),uB (),u1 (),u2 (),u3 (),u4 (),u5 ()];omega);((conv=>whnf);refine bm (fun s4=>?_) (fun s4=>?_))
                 ·((conv=>whnf);refine bm (fun s5=>?_) (fun s5=>?_))
                  ·skip
                   have s4:a<x:=(by simpa [aA,aG,hM] using s4);have s5:x<(W:Int):=(by simpa [aA,aG,hM] using s5);have c2:A<i∧i<W:=(by omega);(conv=>whnf);refine .inr ?_;(conv=>whnf);refine⟨0,c,[iv a,iv x,iv ((a+b).tdiv 2)],p,bO m.toNat ((m - x).toNat+((((a+b).tdiv 2)+m - x) - m).toNat) l (m - x).toNat ((((a+b).tdiv 2)+m - x) - m).toNat,D,by rw [(sw1).len];rfl,rfl,aQ hC,bG hF hD,?_⟩;((conv=>whnf);refine bm (fun t=>?_) (fun t=>?_))
                   ·skip
                    have sw2:Sw l (aP D n (bO m.toNat ((m - x).toNat+((((a+b).tdiv 2)+m - x) - m).toNat) l (m - x).toNat ((((a+b).tdiv 2)+m - x) - m).toNat) a.toNat x.toNat ((a+b).tdiv 2).toNat):=(sw1).trans (lK D n _ _ _ _ (by simp only [uA (),uQ (),uB (),u1 (),u2 (),u3 (),u4 (),u5 ()];omega) (by simp only [uA (),uQ (),uB (),u1 (),u2 (),u3 (),u4 (),u5 ()];omega) (by rw [(sw1).len];simp only [uA (),uQ (),uB (),u1 (),u2 (),u3 (),u4 (),u5 ()];omega));((conv=>whnf);refine bm (fun s6=>?_) (fun s6=>?_))
                    ·((conv=>whnf);refine bm (fun s7=>?_) (fun s7=>?_))
                     ·skip
                      have s6:(W:Int)<((W:Int)+m - x):=(by simpa [aA,aG,hM] using s6);have s7:((W:Int)+m - x)<b:=(by simpa [aA,aG,hM] using s7);have c3:W<(W+Q - i)∧(W+Q - i)<B:=(by omega);(conv=>whnf);refine .inr ?_;(conv=>whnf);refine⟨0,c,[iv ((a+b).tdiv 2),iv (((a+b).tdiv 2)+m - x),iv b],p,aP D n (bO m.toNat ((m - x).toNat+((((a+b).tdiv 2)+m - x) - m).toNat) l (m - x).toNat ((((a+b).tdiv 2)+m - x) - m).toNat) a.toNat x.toNat ((a+b).tdiv 2).toNat,D,by rw [(sw2).len];rfl,rfl,aQ hC,bG hF hD,?_⟩;((conv=>whnf);refine bm (fun t=>?_) (fun t=>?_))
                      ·skip
                       (conv=>whnf);refine⟨rfl,?_⟩;show (0,aS.cells true false 1 (flat aU.fl (aP D n (aP D n (bO m.toNat ((m - x).toNat+((((a+b).tdiv 2)+m - x) - m).toNat) l (m - x).toNat ((((a+b).tdiv 2)+m - x) - m).toNat) a.toNat x.toNat ((a+b).tdiv 2).toNat) ((a+b).tdiv 2).toNat (((a+b).tdiv 2)+m - x).toNat b.toNat)))::F=_;rw [aP];simp only [hst,uA (),uQ (),uB (),u1 (),u2 (),u3 (),u4 (),u5 (),uW (),if_neg n1,if_neg n2,if_pos c1,if_pos c2,if_pos c3]
                      ·exfalso;have t:(decide (0≤((a+b).tdiv 2))&&decide (((a+b).tdiv 2)<(((a+b).tdiv 2)+m - x))&&decide ((((a+b).tdiv 2)+m - x)<b)&&decide (b≤(aP D n (bO m.toNat ((m - x).toNat+((((a+b).tdiv 2)+m - x) - m).toNat) l (m - x).toNat ((((a+b).tdiv 2)+m - x) - m).toNat) a.toNat x.toNat ((a+b).tdiv 2).toNat).length)&&decide (b - ((a+b).tdiv 2)≤n)&&decide ((aP D n (bO m.toNat ((m - x).toNat+((((a+b).tdiv 2)+m - x) - m).toNat) l (m - x).toNat ((((a+b).tdiv 2)+m - x) - m).toNat) a.toNat x.toNat ((a+b).tdiv 2).toNat).length≤1000000)&&fK D (aP D n (bO m.toNat ((m - x).toNat+((((a+b).tdiv 2)+m - x) - m).toNat) l (m - x).toNat ((((a+b).tdiv 2)+m - x) - m).toNat) a.toNat x.toNat ((a+b).tdiv 2).toNat)&&fG D)=false:=t;rw [hW,(sw2).fK hin,(sw2).len] at t;simp [hM] at t;omega
                     ·skip
                      have s7:¬ ((W:Int)+m - x)<b:=(by simpa [aA,aG,hM] using s7);have c3:¬ (W<(W+Q - i)∧(W+Q - i)<B):=(by omega);(conv=>whnf);refine⟨rfl,?_⟩;show (0,aS.cells true false 1 (flat aU.fl (aP D n (bO m.toNat ((m - x).toNat+((((a+b).tdiv 2)+m - x) - m).toNat) l (m - x).toNat ((((a+b).tdiv 2)+m - x) - m).toNat) a.toNat x.toNat ((a+b).tdiv 2).toNat)))::F=_;rw [aP];simp only [hst,uA (),uQ (),uB (),u1 (),u2 (),u3 (),u4 (),u5 (),uW (),if_neg n1,if_neg n2,if_pos c1,if_pos c2,if_neg c3]
                    ·skip
                     have s6:¬ (W:Int)<((W:Int)+m - x):=(by simpa [aA,aG,hM] using s6);have c3:¬ (W<(W+Q - i)∧(W+Q - i)<B):=(by omega);(conv=>whnf);refine⟨rfl,?_⟩;show (0,aS.cells true false 1 (flat aU.fl (aP D n (bO m.toNat ((m - x).toNat+((((a+b).tdiv 2)+m - x) - m).toNat) l (m - x).toNat ((((a+b).tdiv 2)+m - x) - m).toNat) a.toNat x.toNat ((a+b).tdiv 2).toNat)))::F=_;rw [aP];simp only [hst,uA (),uQ (),uB (),u1 (),u2 (),u3 (),u4 (),u5 (),uW (),if_neg n1,if_neg n2,if_pos c1,if_pos c2,if_neg c3]
                   ·exfalso;have t:(decide (0≤a)&&decide (a<x)&&decide (x<((a+b).tdiv 2))&&decide (((a+b).tdiv 2)≤(bO m.toNat ((m - x).toNat+((((a+b).tdiv 2)+m - x) - m).toNat) l (m - x).toNat ((((a+b).tdiv 2)+m - x) - m).toNat).length)&&decide (((a+b).tdiv 2) - a≤n)&&decide ((bO m.toNat ((m - x).toNat+((((a+b).tdiv 2)+m - x) - m).toNat) l (m - x).toNat ((((a+b).tdiv 2)+m - x) - m).toNat).length≤1000000)&&fK D (bO m.toNat ((m - x).toNat+((((a+b).tdiv 2)+m - x) - m).toNat) l (m - x).toNat ((((a+b).tdiv 2)+m - x) - m).toNat)&&fG D)=false:=t;rw [hW,(sw1).fK hin,(sw1).len] at t;simp [hM] at t;omega
                  ·skip
                   have s5:¬ x<(W:Int):=(by simpa [aA,aG,hM] using s5);have c2:¬ (A<i∧i<W):=(by omega);((conv=>whnf);refine bm (fun s6=>?_) (fun s6=>?_))
                   ·((conv=>whnf);refine bm (fun s7=>?_) (fun s7=>?_))
                    ·skip
                     have s6:(W:Int)<((W:Int)+m - x):=(by simpa [aA,aG,hM] using s6);have s7:((W:Int)+m - x)<b:=(by simpa [aA,aG,hM] using s7);have c3:W<(W+Q - i)∧(W+Q - i)<B:=(by omega);(conv=>whnf);refine .inr ?_;(conv=>whnf);refine⟨0,c,[iv ((a+b).tdiv 2),iv (((a+b).tdiv 2)+m - x),iv b],p,bO m.toNat ((m - x).toNat+((((a+b).tdiv 2)+m - x) - m).toNat) l (m - x).toNat ((((a+b).tdiv 2)+m - x) - m).toNat,D,by rw [(sw1).len];rfl,rfl,aQ hC,bG hF hD,?_⟩;((conv=>whnf);refine bm (fun t=>?_) (fun t=>?_))
                     ·skip
                      (conv=>whnf);refine⟨rfl,?_⟩;show (0,aS.cells true false 1 (flat aU.fl (aP D n (bO m.toNat ((m - x).toNat+((((a+b).tdiv 2)+m - x) - m).toNat) l (m - x).toNat ((((a+b).tdiv 2)+m - x) - m).toNat) ((a+b).tdiv 2).toNat (((a+b).tdiv 2)+m - x).toNat b.toNat)))::F=_;rw [aP];simp only [hst,uA (),uQ (),uB (),u1 (),u2 (),u3 (),u4 (),u5 (),uW (),if_neg n1,if_neg n2,if_pos c1,if_neg c2,if_pos c3]
                     ·exfalso;have t:(decide (0≤((a+b).tdiv 2))&&decide (((a+b).tdiv 2)<(((a+b).tdiv 2)+m - x))&&decide ((((a+b).tdiv 2)+m - x)<b)&&decide (b≤(bO m.toNat ((m - x).toNat+((((a+b).tdiv 2)+m - x) - m).toNat) l (m - x).toNat ((((a+b).tdiv 2)+m - x) - m).toNat).length)&&decide (b - ((a+b).tdiv 2)≤n)&&decide ((bO m.toNat ((m - x).toNat+((((a+b).tdiv 2)+m - x) - m).toNat) l (m - x).toNat ((((a+b).tdiv 2)+m - x) - m).toNat).length≤1000000)&&fK D (bO m.toNat ((m - x).toNat+((((a+b).tdiv 2)+m - x) - m).toNat) l (m - x).toNat ((((a+b).tdiv 2)+m - x) - m).toNat)&&fG D)=false:=t;rw [hW,(sw1).fK hin,(sw1).len] at t;simp [hM] at t;omega
                    ·skip
                     have s7:¬ ((W:Int)+m - x)<b:=(by simpa [aA,aG,hM] using s7);have c3:¬ (W<(W+Q - i)∧(W+Q - i)<B):=(by omega);(conv=>whnf);refine⟨rfl,?_⟩;show (0,aS.cells true false 1 (flat aU.fl (bO m.toNat ((m - x).toNat+((((a+b).tdiv 2)+m - x) - m).toNat) l (m - x).toNat ((((a+b).tdiv 2)+m - x) - m).toNat)))::F=_;rw [aP];simp only [hst,uA (),uQ (),uB (),u1 (),u2 (),u3 (),u4 (),u5 (),uW (),if_neg n1,if_neg n2,if_pos c1,if_neg c2,if_neg c3]
                   ·skip
                    have s6:¬ (W:Int)<((W:Int)+m - x):=(by simpa [aA,aG,hM] using s6);have c3:¬ (W<(W+Q - i)∧(W+Q - i)<B):=(by omega);(conv=>whnf);refine⟨rfl,?_⟩;show (0,aS.cells true false 1 (flat aU.fl (bO m.toNat ((m - x).toNat+((((a+b).tdiv 2)+m - x) - m).toNat) l (m - x).toNat ((((a+b).tdiv 2)+m - x) - m).toNat)))::F=_;rw [aP];simp only [hst,uA (),uQ (),uB (),u1 (),u2 (),u3 (),u4 (),u5 (),uW (),if_neg n1,if_neg n2,if_pos c1,if_neg c2,if_neg c3]
                 ·skip
                  have s4:¬ a<x:=(by simpa [aA,aG,hM] using s4);have c2:¬ (A<i∧i<W):=(by omega);((conv=>whnf);refine bm (fun s6=>?_) (fun s6=>?_))
                  ·((conv=>whnf);refine bm (fun s7=>?_) (fun s7=>?_))
                   ·skip
                    have s6:(W:Int)<((W:Int)+m - x):=(by simpa [aA,aG,hM] using s6);have s7:((W:Int)+m - x)<b:=(by simpa [aA,aG,hM] using s7);have c3:W<(W+Q - i)∧(W+Q - i)<B:=(by omega);(conv=>whnf);refine .inr ?_;(conv=>whnf);refine⟨0,c,[iv ((a+b).tdiv 2),iv (((a+b).tdiv 2)+m - x),iv b],p,bO m.toNat ((m - x).toNat+((((a+b).tdiv 2)+m - x) - m).toNat) l (m - x).toNat ((((a+b).tdiv 2)+m - x) - m).toNat,D,by rw [(sw1).len];rfl,rfl,aQ hC,bG hF hD,?_⟩;((conv=>whnf);refine bm (fun t=>?_) (fun t=>?_))
                    ·skip
                     (conv=>whnf);refine⟨rfl,?_⟩;show (0,aS.cells true false 1 (flat aU.fl (aP D n (bO m.toNat ((m - x).toNat+((((a+b).tdiv 2)+m - x) - m).toNat) l (m - x).toNat ((((a+b).tdiv 2)+m - x) - m).toNat) ((a+b).tdiv 2).toNat (((a+b).tdiv 2)+m - x).toNat b.toNat)))::F=_;rw [aP];simp only [hst,uA (),uQ (),uB (),u1 (),u2 (),u3 (),u4 (),u5 (),uW (),if_neg n1,if_neg n2,if_pos c1,if_neg c2,if_pos c3]
                    ·exfalso;have t:(decide (0≤((a+b).tdiv 2))&&decide (((a+b).tdiv 2)<(((a+b).tdiv 2)+m - x))&&decide ((((a+b).tdiv 2)+m - x)<b)&&decide (b≤(bO m.toNat ((m - x).toNat+((((a+b).tdiv 2)+m - x) - m).toNat) l (m - x).toNat ((((a+b).tdiv 2)+m - x) - m).toNat).length)&&decide (b - ((a+b).tdiv 2)≤n)&&decide ((bO m.toNat ((m - x).toNat+((((a+b).tdiv 2)+m - x) - m).toNat) l (m - x).toNat ((((a+b).tdiv 2)+m - x) - m).toNat).length≤1000000)&&fK D (bO m.toNat ((m - x).toNat+((((a+b).tdiv 2)+m - x) - m).toNat) l (m - x).toNat ((((a+b).tdiv 2)+m - x) - m).toNat)&&fG D)=false:=t;rw [hW,(sw1).fK hin,(sw1).len] at t;simp [hM] at t;omega
                   ·skip
                    have s7:¬ ((W:Int)+m - x)<b:=(by simpa [aA,aG,hM] using s7);have c3:¬ (W<(W+Q - i)∧(W+Q - i)<B):=(by omega);(conv=>whnf);refine⟨rfl,?_⟩;show (0,aS.cells true false 1 (flat aU.fl (bO m.toNat ((m - x).toNat+((((a+b).tdiv 2)+m - x) - m).toNat) l (m - x).toNat ((((a+b).tdiv 2)+m - x) - m).toNat)))::F=_;rw [aP];simp only [hst,uA (),uQ (),uB (),u1 (),u2 (),u3 (),u4 (),u5 (),uW (),if_neg n1,if_neg n2,if_pos c1,if_neg c2,if_neg c3]
                  ·skip
                   have s6:¬ (W:Int)<((W:Int)+m - x):=(by simpa [aA,aG,hM] using s6);have c3:¬ (W<(W+Q - i)∧(W+Q - i)<B):=(by omega);(conv=>whnf);refine⟨rfl,?_⟩;show (0,aS.cells true false 1 (flat aU.fl (bO m.toNat ((m - x).toNat+((((a+b).tdiv 2)+m - x) - m).toNat) l (m - x).toNat ((((a+b).tdiv 2)+m - x) - m).toNat)))::F=_;rw [aP];simp only [hst,uA (),uQ (),uB (),u1 (),u2 (),u3 (),u4 (),u5 (),uW (),if_neg n1,if_neg n2,if_pos c1,if_neg c2,if_neg c3]
                ·exfalso;have t:(decide (0≤x)&&decide (x<m)&&decide (m<(((a+b).tdiv 2)+m - x))&&decide ((((a+b).tdiv 2)+m - x)≤l.length)&&decide (l.length≤1000000))=false:=t;simp [hM] at t;omega
               ·skip
                have s3:¬ m<((W:Int)+m - x):=(by simpa [aA,aG,hM] using s3);have c1:¬ (i<Q∧Q<(W+Q - i)):=(by omega);((conv=>whnf);refine bm (fun s4=>?_) (fun s4=>?_))
                ·((conv=>whnf);refine bm (fun s5=>?_) (fun s5=>?_))
                 ·skip
                  have s4:a<x:=(by simpa [aA,aG,hM] using s4);have s5:x<(W:Int):=(by simpa [aA,aG,hM] using s5);have c2:A<i∧i<W:=(by omega);(conv=>whnf);refine .inr ?_;(conv=>whnf);refine⟨0,c,[iv a,iv x,iv ((a+b).tdiv 2)],p,l,D,by rw [((Sw.refl l)).len];rfl,rfl,aQ hC,bG hF hD,?_⟩;((conv=>whnf);refine bm (fun t=>?_) (fun t=>?_))
                  ·skip
                   have sw2:Sw l (aP D n (l) a.toNat x.toNat ((a+b).tdiv 2).toNat):=((Sw.refl l)).trans (lK D n _ _ _ _ (by simp only [uA (),uQ (),uB (),u1 (),u2 (),u3 (),u4 (),u5 ()];omega) (by simp only [uA (),uQ (),uB (),u1 (),u2 (),u3 (),u4 (),u5 ()];omega) (by rw [((Sw.refl l)).len];simp only [uA (),uQ (),uB (),u1 (),u2 (),u3 (),u4 (),u5 ()];omega));((conv=>whnf);refine bm (fun s6=>?_) (fun s6=>?_))
                   ·((conv=>whnf);refine bm (fun s7=>?_) (fun s7=>?_))
                    ·skip
                     have s6:(W:Int)<((W:Int)+m - x):=(by simpa [aA,aG,hM] using s6);have s7:((W:Int)+m - x)<b:=(by simpa [aA,aG,hM] using s7);have c3:W<(W+Q - i)∧(W+Q - i)<B:=(by omega);(conv=>whnf);refine .inr ?_;(conv=>whnf);refine⟨0,c,[iv ((a+b).tdiv 2),iv (((a+b).tdiv 2)+m - x),iv b],p,aP D n (l) a.toNat x.toNat ((a+b).tdiv 2).toNat,D,by rw [(sw2).len];rfl,rfl,aQ hC,bG hF hD,?_⟩;((conv=>whnf);refine bm (fun t=>?_) (fun t=>?_))
                     ·skip
                      (conv=>whnf);refine⟨rfl,?_⟩;show (0,aS.cells true false 1 (flat aU.fl (aP D n (aP D n (l) a.toNat x.toNat ((a+b).tdiv 2).toNat) ((a+b).tdiv 2).toNat (((a+b).tdiv 2)+m - x).toNat b.toNat)))::F=_;rw [aP];simp only [hst,uA (),uQ (),uB (),u1 (),u2 (),u3 (),u4 (),u5 (),uW (),if_neg n1,if_neg n2,if_neg c1,if_pos c2,if_pos c3]
                     ·exfalso;have t:(decide (0≤((a+b).tdiv 2))&&decide (((a+b).tdiv 2)<(((a+b).tdiv 2)+m - x))&&decide ((((a+b).tdiv 2)+m - x)<b)&&decide (b≤(aP D n (l) a.toNat x.toNat ((a+b).tdiv 2).toNat).length)&&decide (b - ((a+b).tdiv 2)≤n)&&decide ((aP D n (l) a.toNat x.toNat ((a+b).tdiv 2).toNat).length≤1000000)&&fK D (aP D n (l) a.toNat x.toNat ((a+b).tdiv 2).toNat)&&fG D)=false:=t;rw [hW,(sw2).fK hin,(sw2).len] at t;simp [hM] at t;omega
                    ·skip
                     have s7:¬ ((W:Int)+m - x)<b:=(by simpa [aA,aG,hM] using s7);have c3:¬ (W<(W+Q - i)∧(W+Q - i)<B):=(by omega);(conv=>whnf);refine⟨rfl,?_⟩;show (0,aS.cells true false 1 (flat aU.fl (aP D n (l) a.toNat x.toNat ((a+b).tdiv 2).toNat)))::F=_;rw [aP];simp only [hst,uA (),uQ (),uB (),u1 (),u2 (),u3 (),u4 (),u5 (),uW (),if_neg n1,if_neg n2,if_neg c1,if_pos c2,if_neg c3]
                   ·skip
                    have s6:¬ (W:Int)<((W:Int)+m - x):=(by simpa [aA,aG,hM] using s6);have c3:¬ (W<(W+Q - i)∧(W+Q - i)<B):=(by omega);(conv=>whnf);refine⟨rfl,?_⟩;show (0,aS.cells true false 1 (flat aU.fl (aP D n (l) a.toNat x.toNat ((a+b).tdiv 2).toNat)))::F=_;rw [aP];simp only [hst,uA (),uQ (),uB (),u1 (),u2 (),u3 (),u4 (),u5 (),uW (),if_neg n1,if_neg n2,if_neg c1,if_pos c2,if_neg c3]
                  ·exfalso;have t:(decide (0≤a)&&decide (a<x)&&decide (x<((a+b).tdiv 2))&&decide (((a+b).tdiv 2)≤(l).length)&&decide (((a+b).tdiv 2) - a≤n)&&decide ((l).length≤1000000)&&fK D (l)&&fG D)=false:=t;rw [hW,((Sw.refl l)).fK hin,((Sw.refl l)).len] at t;simp [hM] at t;omega
                 ·skip
                  have s5:¬ x<(W:Int):=(by simpa [aA,aG,hM] using s5);have c2:¬ (A<i∧i<W):=(by omega);((conv=>whnf);refine bm (fun s6=>?_) (fun s6=>?_))
                  ·((conv=>whnf);refine bm (fun s7=>?_) (fun s7=>?_))
                   ·skip
                    have s6:(W:Int)<((W:Int)+m - x):=(by simpa [aA,aG,hM] using s6);have s7:((W:Int)+m - x)<b:=(by simpa [aA,aG,hM] using s7);have c3:W<(W+Q - i)∧(W+Q - i)<B:=(by omega);(conv=>whnf);refine .inr ?_;(conv=>whnf);refine⟨0,c,[iv ((a+b).tdiv 2),iv (((a+b).tdiv 2)+m - x),iv b],p,l,D,by rw [((Sw.refl l)).len];rfl,rfl,aQ hC,bG hF hD,?_⟩;((conv=>whnf);refine bm (fun t=>?_) (fun t=>?_))
                    ·skip
                     (conv=>whnf);refine⟨rfl,?_⟩;show (0,aS.cells true false 1 (flat aU.fl (aP D n (l) ((a+b).tdiv 2).toNat (((a+b).tdiv 2)+m - x).toNat b.toNat)))::F=_;rw [aP];simp only [hst,uA (),uQ (),uB (),u1 (),u2 (),u3 (),u4 (),u5 (),uW (),if_neg n1,if_neg n2,if_neg c1,if_neg c2,if_pos c3]
                    ·exfalso;have t:(decide (0≤((a+b).tdiv 2))&&decide (((a+b).tdiv 2)<(((a+b).tdiv 2)+m - x))&&decide ((((a+b).tdiv 2)+m - x)<b)&&decide (b≤(l).length)&&decide (b - ((a+b).tdiv 2)≤n)&&decide ((l).length≤1000000)&&fK D (l)&&fG D)=false:=t;rw [hW,((Sw.refl l)).fK hin,((Sw.refl l)).len] at t;simp [hM] at t;omega
                   ·skip
                    have s7:¬ ((W:Int)+m - x)<b:=(by simpa [aA,aG,hM] using s7);have c3:¬ (W<(W+Q - i)∧(W+Q - i)<B):=(by omega);(conv=>whnf);refine⟨rfl,?_⟩;show (0,aS.cells true false 1 (flat aU.fl (l)))::F=_;rw [aP];simp only [hst,uA (),uQ (),uB (),u1 (),u2 (),u3 (),u4 (),u5 (),uW (),if_neg n1,if_neg n2,if_neg c1,if_neg c2,if_neg c3]
                  ·skip
                   have s6:¬ (W:Int)<((W:Int)+m - x):=(by simpa [aA,aG,hM] using s6);have c3:¬ (W<(W+Q - i)∧(W+Q - i)<B):=(by omega);(conv=>whnf);refine⟨rfl,?_⟩;show (0,aS.cells true false 1 (flat aU.fl (l)))::F=_;rw [aP];simp only [hst,uA (),uQ (),uB (),u1 (),u2 (),u3 (),u4 (),u5 (),uW (),if_neg n1,if_neg n2,if_neg c1,if_neg c2,if_neg c3]
                ·skip
                 have s4:¬ a<x:=(by simpa [aA,aG,hM] using s4);have c2:¬ (A<i∧i<W):=(by omega);((conv=>whnf);refine bm (fun s6=>?_) (fun s6=>?_))
                 ·((conv=>whnf);refine bm (fun s7=>?_) (fun s7=>?_))
                  ·skip
                   have s6:(W:Int)<((W:Int)+m - x):=(by simpa [aA,aG,hM] using s6);have s7:((W:Int)+m - x)<b:=(by simpa [aA,aG,hM] using s7);have c3:W<(W+Q - i)∧(W+Q - i)<B:=(by omega);(conv=>whnf);refine .inr ?_;(conv=>whnf);refine⟨0,c,[iv ((a+b).tdiv 2),iv (((a+b).tdiv 2)+m - x),iv b],p,l,D,by rw [((Sw.refl l)).len];rfl,rfl,aQ hC,bG hF hD,?_⟩;((conv=>whnf);refine bm (fun t=>?_) (fun t=>?_))
                   ·skip
                    (conv=>whnf);refine⟨rfl,?_⟩;show (0,aS.cells true false 1 (flat aU.fl (aP D n (l) ((a+b).tdiv 2).toNat (((a+b).tdiv 2)+m - x).toNat b.toNat)))::F=_;rw [aP];simp only [hst,uA (),uQ (),uB (),u1 (),u2 (),u3 (),u4 (),u5 (),uW (),if_neg n1,if_neg n2,if_neg c1,if_neg c2,if_pos c3]
                   ·exfalso;have t:(decide (0≤((a+b).tdiv 2))&&decide (((a+b).tdiv 2)<(((a+b).tdiv 2)+m - x))&&decide ((((a+b).tdiv 2)+m - x)<b)&&decide (b≤(l).length)&&decide (b - ((a+b).tdiv 2)≤n)&&decide ((l).length≤1000000)&&fK D (l)&&fG D)=false:=t;rw [hW,((Sw.refl l)).fK hin,((Sw.refl l)).len] at t;simp [hM] at t;omega
                  ·skip
                   have s7:¬ ((W:Int)+m - x)<b:=(by simpa [aA,aG,hM] using s7);have c3:¬ (W<(W+Q - i)∧(W+Q - i)<B):=(by omega);(conv=>whnf);refine⟨rfl,?_⟩;show (0,aS.cells true false 1 (flat aU.fl (l)))::F=_;rw [aP];simp only [hst,uA (),uQ (),uB (),u1 (),u2 (),u3 (),u4 (),u5 (),uW (),if_neg n1,if_neg n2,if_neg c1,if_neg c2,if_neg c3]
                 ·skip
                  have s6:¬ (W:Int)<((W:Int)+m - x):=(by simpa [aA,aG,hM] using s6);have c3:¬ (W<(W+Q - i)∧(W+Q - i)<B):=(by omega);(conv=>whnf);refine⟨rfl,?_⟩;show (0,aS.cells true false 1 (flat aU.fl (l)))::F=_;rw [aP];simp only [hst,uA (),uQ (),uB (),u1 (),u2 (),u3 (),u4 (),u5 (),uW (),if_neg n1,if_neg n2,if_neg c1,if_neg c2,if_neg c3]
              ·skip
               have s2:¬ x<m:=(by simpa [aA,aG,hM] using s2);have c1:¬ (i<Q∧Q<(W+Q - i)):=(by omega);((conv=>whnf);refine bm (fun s4=>?_) (fun s4=>?_))
               ·((conv=>whnf);refine bm (fun s5=>?_) (fun s5=>?_))
                ·skip
                 have s4:a<x:=(by simpa [aA,aG,hM] using s4);have s5:x<(W:Int):=(by simpa [aA,aG,hM] using s5);have c2:A<i∧i<W:=(by omega);(conv=>whnf);refine .inr ?_;(conv=>whnf);refine⟨0,c,[iv a,iv x,iv ((a+b).tdiv 2)],p,l,D,by rw [((Sw.refl l)).len];rfl,rfl,aQ hC,bG hF hD,?_⟩;((conv=>whnf);refine bm (fun t=>?_) (fun t=>?_))
                 ·skip
                  have sw2:Sw l (aP D n (l) a.toNat x.toNat ((a+b).tdiv 2).toNat):=((Sw.refl l)).trans (lK D n _ _ _ _ (by simp only [uA (),uQ (),uB (),u1 (),u2 (),u3 (),u4 (),u5 ()];omega) (by simp only [uA (),uQ (),uB (),u1 (),u2 (),u3 (),u4 (),u5 ()];omega) (by rw [((Sw.refl l)).len];simp only [uA (),uQ (),uB (),u1 (),u2 (),u3 (),u4 (),u5 ()];omega));((conv=>whnf);refine bm (fun s6=>?_) (fun s6=>?_))
                  ·((conv=>whnf);refine bm (fun s7=>?_) (fun s7=>?_))
                   ·skip
                    have s6:(W:Int)<((W:Int)+m - x):=(by simpa [aA,aG,hM] using s6);have s7:((W:Int)+m - x)<b:=(by simpa [aA,aG,hM] using s7);have c3:W<(W+Q - i)∧(W+Q - i)<B:=(by omega);(conv=>whnf);refine .inr ?_;(conv=>whnf);refine⟨0,c,[iv ((a+b).tdiv 2),iv (((a+b).tdiv 2)+m - x),iv b],p,aP D n (l) a.toNat x.toNat ((a+b).tdiv 2).toNat,D,by rw [(sw2).len];rfl,rfl,aQ hC,bG hF hD,?_⟩;((conv=>whnf);refine bm (fun t=>?_) (fun t=>?_))
                    ·skip
                     (conv=>whnf);refine⟨rfl,?_⟩;show (0,aS.cells true false 1 (flat aU.fl (aP D n (aP D n (l) a.toNat x.toNat ((a+b).tdiv 2).toNat) ((a+b).tdiv 2).toNat (((a+b).tdiv 2)+m - x).toNat b.toNat)))::F=_;rw [aP];simp only [hst,uA (),uQ (),uB (),u1 (),u2 (),u3 (),u4 (),u5 (),uW (),if_neg n1,if_neg n2,if_neg c1,if_pos c2,if_pos c3]
                    ·exfalso;have t:(decide (0≤((a+b).tdiv 2))&&decide (((a+b).tdiv 2)<(((a+b).tdiv 2)+m - x))&&decide ((((a+b).tdiv 2)+m - x)<b)&&decide (b≤(aP D n (l) a.toNat x.toNat ((a+b).tdiv 2).toNat).length)&&decide (b - ((a+b).tdiv 2)≤n)&&decide ((aP D n (l) a.toNat x.toNat ((a+b).tdiv 2).toNat).length≤1000000)&&fK D (aP D n (l) a.toNat x.toNat ((a+b).tdiv 2).toNat)&&fG D)=false:=t;rw [hW,(sw2).fK hin,(sw2).len] at t;simp [hM] at t;omega
                   ·skip
                    have s7:¬ ((W:Int)+m - x)<b:=(by simpa [aA,aG,hM] using s7);have c3:¬ (W<(W+Q - i)∧(W+Q - i)<B):=(by omega);(conv=>whnf);refine⟨rfl,?_⟩;show (0,aS.cells true false 1 (flat aU.fl (aP D n (l) a.toNat x.toNat ((a+b).tdiv 2).toNat)))::F=_;rw [aP];simp only [hst,uA (),uQ (),uB (),u1 (),u2 (),u3 (),u4 (),u5 (),uW (),if_neg n1,if_neg n2,if_neg c1,if_pos c2,if_neg c3]
                  ·skip
                   have s6:¬ (W:Int)<((W:Int)+m - x):=(by simpa [aA,aG,hM] using s6);have c3:¬ (W<(W+Q - i)∧(W+Q - i)<B):=(by omega);(conv=>whnf);refine⟨rfl,?_⟩;show (0,aS.cells true false 1 (flat aU.fl (aP D n (l) a.toNat x.toNat ((a+b).tdiv 2).toNat)))::F=_;rw [aP];simp only [hst,uA (),uQ (),uB (),u1 (),u2 (),u3 (),u4 (),u5 (),uW (),if_neg n1,if_neg n2,if_neg c1,if_pos c2,if_neg c3]
                 ·exfalso;have t:(decide (0≤a)&&decide (a<x)&&decide (x<((a+b).tdiv 2))&&decide (((a+b).tdiv 2)≤(l).length)&&decide (((a+b).tdiv 2) - a≤n)&&decide ((l).length≤1000000)&&fK D (l)&&fG D)=false:=t;rw [hW,((Sw.refl l)).fK hin,((Sw.refl l)).len] at t;simp [hM] at t;omega
                ·skip
                 have s5:¬ x<(W:Int):=(by simpa [aA,aG,hM] using s5);have c2:¬ (A<i∧i<W):=(by omega);((conv=>whnf);refine bm (fun s6=>?_) (fun s6=>?_))
                 ·((conv=>whnf);refine bm (fun s7=>?_) (fun s7=>?_))
                  ·skip
                   have s6:(W:Int)<((W:Int)+m - x):=(by simpa [aA,aG,hM] using s6);have s7:((W:Int)+m - x)<b:=(by simpa [aA,aG,hM] using s7);have c3:W<(W+Q - i)∧(W+Q - i)<B:=(by omega);(conv=>whnf);refine .inr ?_;(conv=>whnf);refine⟨0,c,[iv ((a+b).tdiv 2),iv (((a+b).tdiv 2)+m - x),iv b],p,l,D,by rw [((Sw.refl l)).len];rfl,rfl,aQ hC,bG hF hD,?_⟩;((conv=>whnf);refine bm (fun t=>?_) (fun t=>?_))
                   ·skip
                    (conv=>whnf);refine⟨rfl,?_⟩;show (0,aS.cells true false 1 (flat aU.fl (aP D n (l) ((a+b).tdiv 2).toNat (((a+b).tdiv 2)+m - x).toNat b.toNat)))::F=_;rw [aP];simp only [hst,uA (),uQ (),uB (),u1 (),u2 (),u3 (),u4 (),u5 (),uW (),if_neg n1,if_neg n2,if_neg c1,if_neg c2,if_pos c3]
                   ·exfalso;have t:(decide (0≤((a+b).tdiv 2))&&decide (((a+b).tdiv 2)<(((a+b).tdiv 2)+m - x))&&decide ((((a+b).tdiv 2)+m - x)<b)&&decide (b≤(l).length)&&decide (b - ((a+b).tdiv 2)≤n)&&decide ((l).length≤1000000)&&fK D (l)&&fG D)=false:=t;rw [hW,((Sw.refl l)).fK hin,((Sw.refl l)).len] at t;simp [hM] at t;omega
                  ·skip
                   have s7:¬ ((W:Int)+m - x)<b:=(by simpa [aA,aG,hM] using s7);have c3:¬ (W<(W+Q - i)∧(W+Q - i)<B):=(by omega);(conv=>whnf);refine⟨rfl,?_⟩;show (0,aS.cells true false 1 (flat aU.fl (l)))::F=_;rw [aP];simp only [hst,uA (),uQ (),uB (),u1 (),u2 (),u3 (),u4 (),u5 (),uW (),if_neg n1,if_neg n2,if_neg c1,if_neg c2,if_neg c3]
                 ·skip
                  have s6:¬ (W:Int)<((W:Int)+m - x):=(by simpa [aA,aG,hM] using s6);have c3:¬ (W<(W+Q - i)∧(W+Q - i)<B):=(by omega);(conv=>whnf);refine⟨rfl,?_⟩;show (0,aS.cells true false 1 (flat aU.fl (l)))::F=_;rw [aP];simp only [hst,uA (),uQ (),uB (),u1 (),u2 (),u3 (),u4 (),u5 (),uW (),if_neg n1,if_neg n2,if_neg c1,if_neg c2,if_neg c3]
               ·skip
                have s4:¬ a<x:=(by simpa [aA,aG,hM] using s4);have c2:¬ (A<i∧i<W):=(by omega);((conv=>whnf);refine bm (fun s6=>?_) (fun s6=>?_))
                ·((conv=>whnf);refine bm (fun s7=>?_) (fun s7=>?_))
                 ·skip
                  have s6:(W:Int)<((W:Int)+m - x):=(by simpa [aA,aG,hM] using s6);have s7:((W:Int)+m - x)<b:=(by simpa [aA,aG,hM] using s7);have c3:W<(W+Q - i)∧(W+Q - i)<B:=(by omega);(conv=>whnf);refine .inr ?_;(conv=>whnf);refine⟨0,c,[iv ((a+b).tdiv 2),iv (((a+b).tdiv 2)+m - x),iv b],p,l,D,by rw [((Sw.refl l)).len];rfl,rfl,aQ hC,bG hF hD,?_⟩;((conv=>whnf);refine bm (fun t=>?_) (fun t=>?_))
                  ·skip
                   (conv=>whnf);refine⟨rfl,?_⟩;show (0,aS.cells true false 1 (flat aU.fl (aP D n (l) ((a+b).tdiv 2).toNat (((a+b).tdiv 2)+m - x).toNat b.toNat)))::F=_;rw [aP];simp only [hst,uA (),uQ (),uB (),u1 (),u2 (),u3 (),u4 (),u5 (),uW (),if_neg n1,if_neg n2,if_neg c1,if_neg c2,if_pos c3]
                  ·exfalso;have t:(decide (0≤((a+b).tdiv 2))&&decide (((a+b).tdiv 2)<(((a+b).tdiv 2)+m - x))&&decide ((((a+b).tdiv 2)+m - x)<b)&&decide (b≤(l).length)&&decide (b - ((a+b).tdiv 2)≤n)&&decide ((l).length≤1000000)&&fK D (l)&&fG D)=false:=t;rw [hW,((Sw.refl l)).fK hin,((Sw.refl l)).len] at t;simp [hM] at t;omega
                 ·skip
                  have s7:¬ ((W:Int)+m - x)<b:=(by simpa [aA,aG,hM] using s7);have c3:¬ (W<(W+Q - i)∧(W+Q - i)<B):=(by omega);(conv=>whnf);refine⟨rfl,?_⟩;show (0,aS.cells true false 1 (flat aU.fl (l)))::F=_;rw [aP];simp only [hst,uA (),uQ (),uB (),u1 (),u2 (),u3 (),u4 (),u5 (),uW (),if_neg n1,if_neg n2,if_neg c1,if_neg c2,if_neg c3]
                ·skip
                 have s6:¬ (W:Int)<((W:Int)+m - x):=(by simpa [aA,aG,hM] using s6);have c3:¬ (W<(W+Q - i)∧(W+Q - i)<B):=(by omega);(conv=>whnf);refine⟨rfl,?_⟩;show (0,aS.cells true false 1 (flat aU.fl (l)))::F=_;rw [aP];simp only [hst,uA (),uQ (),uB (),u1 (),u2 (),u3 (),u4 (),u5 (),uW (),if_neg n1,if_neg n2,if_neg c1,if_neg c2,if_neg c3]
           ·exfalso;simp [aA,aG,aK,hM] at g10;omega
          ·exfalso;simp [aA,aG,aK,hM] at g9;omega
         ·have g8:¬ (a+b).tdiv 2<m:=(by simpa [aA,aG] using g8);have hc:¬ (a.toNat+b.toNat) / 2<m.toNat:=(by omega);((conv=>whnf);refine bm (fun g10=>?_) (fun g10=>?_))
          ·skip
           (conv=>whnf);refine⟨fun q e h nx'=>∃ (i j k:Nat) (x y:Int),x=i∧y=j∧a.toNat≤i∧i≤j∧j≤m.toNat∧j - i≤k∧q=j - i∧tU (fun c=>iS D (aH l ((a.toNat+b.toNat) / 2+m.toNat - 1 - c)) (aH l c)) (m.toNat - a.toNat) a.toNat m.toNat=tU (fun c=>iS D (aH l ((a.toNat+b.toNat) / 2+m.toNat - 1 - c)) (aH l c)) k i j∧e=lM l.length c a m b ((a+b).tdiv 2) ((a+b).tdiv 2+m) ((a+b).tdiv 2+m - 1) x y D p∧h=(0,.cells true false 1 (flat aU.fl l))::F∧nx'=nx,⟨m.toNat - a.toNat,?_⟩,?_⟩
           ·refine bL (e0:=lM l.length c a m b ((a+b).tdiv 2) ((a+b).tdiv 2+m) ((a+b).tdiv 2+m - 1) a m D p) (o0:=.cells true false 1 (flat aU.fl l)) (n0:=nx) hF ⟨a.toNat,m.toNat,_,_,_,by omega,by omega,Nat.le_refl _,by omega,Nat.le_refl _,Nat.le_refl _,rfl,rfl,rfl,rfl,rfl⟩ ?_ (aI (aF _ _)) (Nat.le_refl _);unfold lM;refine List.forall_mem_cons.2 ⟨cJ hF.1 rfl,List.forall_mem_cons.2 ⟨dH hp rfl,?_⟩⟩;((repeat' refine iE rfl rfl ?_);exact iN)
           ·rintro q e h nx' ⟨i,j,k,x,y,hx,hy,hi0,hij,hj,hk,rfl,hbs,rfl,rfl,rfl⟩;unfold lM;((conv=>whnf);refine bm (fun h1=>?_) (fun h1=>?_))
            ·have h1:i<j:=(by simp [aA,aG] at h1;omega);obtain⟨k',rfl⟩:∃ k',k=k'+1:=⟨k - 1,by omega⟩;rw [UG h1] at hbs;have qh:(x+y).tdiv 2=(((i+j) / 2:Nat):Int):=(by rw [Int.tdiv_eq_ediv_of_nonneg (by omega)];omega);((conv=>whnf);refine bm (fun q1=>?_) (fun q1=>?_))
             ·((conv=>whnf);refine bm (fun q2=>?_) (fun q2=>?_))
              ·((conv=>whnf);refine bm (fun q3=>?_) (fun q3=>?_))
               ·((conv=>whnf);refine bm (fun q4=>?_) (fun q4=>?_))
                ·((conv=>whnf);refine bm (fun q5a=>?_) (fun q5a=>?_));rotate_left;(exfalso;simp [aA,aG,aK,hM,qh] at q5a;omega);((conv=>whnf);refine bm (fun q5=>?_) (fun q5=>?_))
                 ·(conv=>whnf);refine lD (j1 l (i:=((a.toNat+b.toNat) / 2+m.toNat - 1 - (i+j) / 2)) (by omega) ?_) ?_
                  ·show _+Int.toNat (((a+b).tdiv 2+m - 1 - (x+y).tdiv 2))*1=_;rw [qh];omega
                  ((conv=>whnf);refine bm (fun q6=>?_) (fun q6=>?_))
                  ·(conv=>whnf);refine lD (j1 l (i:=(i+j) / 2) (by omega) ?_) ?_
                   ·show _+Int.toNat ((x+y).tdiv 2)*1=_;rw [qh];omega
                   (conv=>whnf);rw [rM];(conv=>whnf);refine .inl ⟨D,aH l (((a.toNat+b.toNat) / 2+m.toNat - 1 - (i+j) / 2)),aH l ((i+j) / 2),p,rfl,rfl,OF hF hD,?_⟩;((conv=>whnf);refine bm (fun q7=>?_) (fun q7=>?_))
                   ·((conv=>whnf);refine bm (fun q8=>?_) (fun q8=>?_))
                    ·have q8:iS D (aH l ((a.toNat+b.toNat) / 2+m.toNat - 1 - (i+j) / 2)) (aH l ((i+j) / 2))=false:=(by have q8:(!(iS D (aH l ((a.toNat+b.toNat) / 2+m.toNat - 1 - (i+j) / 2)) (aH l ((i+j) / 2))))=true:=q8;simpa using q8);((conv=>whnf);refine bm (fun q9=>?_) (fun q9=>?_))
                     ·(conv=>whnf);refine⟨j - ((i+j) / 2+1),by omega,?_⟩;refine bL (e0:=lM l.length c a m b ((a+b).tdiv 2) ((a+b).tdiv 2+m) ((a+b).tdiv 2+m - 1) ((x+y).tdiv 2+1) y D p) (o0:=.cells true false 1 (flat aU.fl l)) (n0:=nx') hF ⟨(i+j) / 2+1,j,k',_,_,by rw [qh];omega,hy,by omega,by omega,by omega,by omega,rfl,by rw [hbs,if_neg (by simp [q8])],rfl,rfl,rfl⟩ ?_ (aI (aF _ _)) (Nat.le_refl _);unfold lM;refine List.forall_mem_cons.2 ⟨cJ hF.1 rfl,List.forall_mem_cons.2 ⟨dH hp rfl,?_⟩⟩;((repeat' refine iE rfl rfl ?_);exact iN)
                     ·exfalso;simp [aA,aG,aK,qh] at q9;omega
                    ·have q8:iS D (aH l ((a.toNat+b.toNat) / 2+m.toNat - 1 - (i+j) / 2)) (aH l ((i+j) / 2))=true:=(by have q8:(!(iS D (aH l ((a.toNat+b.toNat) / 2+m.toNat - 1 - (i+j) / 2)) (aH l ((i+j) / 2))))=false:=q8;simpa using q8);(conv=>whnf);refine⟨(i+j) / 2 - i,by omega,?_⟩;refine bL (e0:=lM l.length c a m b ((a+b).tdiv 2) ((a+b).tdiv 2+m) ((a+b).tdiv 2+m - 1) x ((x+y).tdiv 2) D p) (o0:=.cells true false 1 (flat aU.fl l)) (n0:=nx') hF ⟨i,(i+j) / 2,k',_,_,hx,qh,hi0,by omega,by omega,by omega,rfl,by rw [hbs,if_pos (by simp [q8])],rfl,rfl,rfl⟩ ?_ (aI (aF _ _)) (Nat.le_refl _);unfold lM;refine List.forall_mem_cons.2 ⟨cJ hF.1 rfl,List.forall_mem_cons.2 ⟨dH hp rfl,?_⟩⟩;((repeat' refine iE rfl rfl ?_);exact iN)
                   ·exfalso;have q7:WU D (aH l (((a.toNat+b.toNat) / 2+m.toNat - 1 - (i+j) / 2))) (aH l ((i+j) / 2))=false:=q7;rw [okc _ _ (by omega) (by omega)] at q7;cases q7
                  ·exfalso;simp [aA,aG,hM,qh] at q6;omega
                 ·exfalso;simp [aA,aG,hM,qh] at q5;omega
                ·exfalso;simp [aA,aG,hM,aK,qh] at q4;omega
               ·exfalso;simp [aA,aG] at q3;omega
              ·exfalso;simp [aA,aG,aK] at q2;omega
             ·exfalso;simp [aA,aG,aK] at q1;omega
            ·have h1:i=j:=(by simp [aA,aG] at h1;omega);subst h1;rw [CI] at hbs
             skip
             have hst:stM D l a.toNat m.toNat b.toNat=i:=(by unfold stM;simp only [if_neg hc];exact hbs);have low:=wK (D:=D) (L:=l) (a:=a.toNat) (m:=m.toNat) (b:=b.toNat) (by omega) (by omega);clear hbs hk hj hi0 hc g8;obtain⟨A,eA⟩:∃ A,a.toNat=A:=⟨_,rfl⟩;obtain⟨Q,eQ⟩:∃ Q,m.toNat=Q:=⟨_,rfl⟩;obtain⟨B,eB⟩:∃ B,b.toNat=B:=⟨_,rfl⟩;obtain⟨W,eW⟩:∃ W,(A+B) / 2=W:=⟨_,rfl⟩;rw [eA,eQ,eB] at hst;rw [eA,eQ,eB] at low;rw [hst,eW] at low;rw [eA,eB,eW] at hM;have zA:a=A:=(by omega);have zQ:m=Q:=(by omega);have zB:b=B:=(by omega);have uA:∀ _:Unit,a.toNat=A:=fun _=>eA;have uQ:∀ _:Unit,m.toNat=Q:=fun _=>eQ;have uB:∀ _:Unit,b.toNat=B:=fun _=>eB;have uW:∀ _:Unit,(A+B) / 2=W:=fun _=>eW;have zW:A+1≤W∧W+1≤B:=(by omega);clear eA eQ eB eW;have u1:∀ _:Unit,x.toNat=i:=fun _=>(by omega);have u2:∀ _:Unit,((a+b).tdiv 2).toNat=W:=fun _=>(by rw [hM];omega);have u3:∀ _:Unit,(m - x).toNat=Q - i:=fun _=>(by omega);have u4:∀ _:Unit,(((a+b).tdiv 2)+m - x).toNat=(W+Q - i):=fun _=>(by rw [hM];omega);have u5:∀ _:Unit,((((a+b).tdiv 2)+m - x) - m).toNat=(W+Q - i) - Q:=fun _=>(by rw [hM];omega);((conv=>whnf);refine bm (fun s1=>?_) (fun s1=>?_));rotate_left;(exfalso;simp [aA,aG,aK,hM] at s1;omega);have n1:¬ Q - A=1:=(by omega);have n2:¬ B - Q=1:=(by omega);((conv=>whnf);refine bm (fun s2=>?_) (fun s2=>?_))
             ·((conv=>whnf);refine bm (fun s3=>?_) (fun s3=>?_))
              ·skip
               have s2:x<m:=(by simpa [aA,aG,hM] using s2);have s3:m<((W:Int)+m - x):=(by simpa [aA,aG,hM] using s3);have c1:i<Q∧Q<(W+Q - i):=(by omega);(conv=>whnf);refine .inr ?_;(conv=>whnf);refine⟨0,c,[iv x,iv m,iv (((a+b).tdiv 2)+m - x)],p,l,D,rfl,rfl,aQ hC,bG hF hD,?_⟩;((conv=>whnf);refine bm (fun t=>?_) (fun t=>?_))
               ·have sw1:Sw l (bO m.toNat ((m - x).toNat+((((a+b).tdiv 2)+m - x) - m).toNat) l (m - x).toNat ((((a+b).tdiv 2)+m - x) - m).toNat):=rG _ _ _ _ _ (by simp only [uA (),uQ (),uB (),u1 (),u2 (),u3 (),u4 (),u5 ()];omega) (by simp only [uA (),uQ (),uB (),u1 (),u2 (),u3 (),u4 (),u5 ()];omega);((conv=>whnf);refine bm (fun s4=>?_) (fun s4=>?_))
                ·((conv=>whnf);refine bm (fun s5=>?_) (fun s5=>?_))
                 ·skip
                  have s4:a<x:=(by simpa [aA,aG,hM] using s4);have s5:x<(W:Int):=(by simpa [aA,aG,hM] using s5);have c2:A<i∧i<W:=(by omega);(conv=>whnf);refine .inr ?_;(conv=>whnf);refine⟨0,c,[iv a,iv x,iv ((a+b).tdiv 2)],p,bO m.toNat ((m - x).toNat+((((a+b).tdiv 2)+m - x) - m).toNat) l (m - x).toNat ((((a+b).tdiv 2)+m - x) - m).toNat,D,by rw [(sw1).len];rfl,rfl,aQ hC,bG hF hD,?_⟩;((conv=>whnf);refine bm (fun t=>?_) (fun t=>?_))
                  ·skip
                   have sw2:Sw l (aP D n (bO m.toNat ((m - x).toNat+((((a+b).tdiv 2)+m - x) - m).toNat) l (m - x).toNat ((((a+b).tdiv 2)+m - x) - m).toNat) a.toNat x.toNat ((a+b).tdiv 2).toNat):=(sw1).trans (lK D n _ _ _ _ (by simp only [uA (),uQ (),uB (),u1 (),u2 (),u3 (),u4 (),u5 ()];omega) (by simp only [uA (),uQ (),uB (),u1 (),u2 (),u3 (),u4 (),u5 ()];omega) (by rw [(sw1).len];simp only [uA (),uQ (),uB (),u1 (),u2 (),u3 (),u4 (),u5 ()];omega));((conv=>whnf);refine bm (fun s6=>?_) (fun s6=>?_))
                   ·((conv=>whnf);refine bm (fun s7=>?_) (fun s7=>?_))
                    ·skip
                     have s6:(W:Int)<((W:Int)+m - x):=(by simpa [aA,aG,hM] using s6);have s7:((W:Int)+m - x)<b:=(by simpa [aA,aG,hM] using s7);have c3:W<(W+Q - i)∧(W+Q - i)<B:=(by omega);(conv=>whnf);refine .inr ?_;(conv=>whnf);refine⟨0,c,[iv ((a+b).tdiv 2),iv (((a+b).tdiv 2)+m - x),iv b],p,aP D n (bO m.toNat ((m - x).toNat+((((a+b).tdiv 2)+m - x) - m).toNat) l (m - x).toNat ((((a+b).tdiv 2)+m - x) - m).toNat) a.toNat x.toNat ((a+b).tdiv 2).toNat,D,by rw [(sw2).len];rfl,rfl,aQ hC,bG hF hD,?_⟩;((conv=>whnf);refine bm (fun t=>?_) (fun t=>?_))
                     ·skip
                      (conv=>whnf);refine⟨rfl,?_⟩;show (0,aS.cells true false 1 (flat aU.fl (aP D n (aP D n (bO m.toNat ((m - x).toNat+((((a+b).tdiv 2)+m - x) - m).toNat) l (m - x).toNat ((((a+b).tdiv 2)+m - x) - m).toNat) a.toNat x.toNat ((a+b).tdiv 2).toNat) ((a+b).tdiv 2).toNat (((a+b).tdiv 2)+m - x).toNat b.toNat)))::F=_;rw [aP];simp only [hst,uA (),uQ (),uB (),u1 (),u2 (),u3 (),u4 (),u5 (),uW (),if_neg n1,if_neg n2,if_pos c1,if_pos c2,if_pos c3]
                     ·exfalso;have t:(decide (0≤((a+b).tdiv 2))&&decide (((a+b).tdiv 2)<(((a+b).tdiv 2)+m - x))&&decide ((((a+b).tdiv 2)+m - x)<b)&&decide (b≤(aP D n (bO m.toNat ((m - x).toNat+((((a+b).tdiv 2)+m - x) - m).toNat) l (m - x).toNat ((((a+b).tdiv 2)+m - x) - m).toNat) a.toNat x.toNat ((a+b).tdiv 2).toNat).length)&&decide (b - ((a+b).tdiv 2)≤n)&&decide ((aP D n (bO m.toNat ((m - x).toNat+((((a+b).tdiv 2)+m - x) - m).toNat) l (m - x).toNat ((((a+b).tdiv 2)+m - x) - m).toNat) a.toNat x.toNat ((a+b).tdiv 2).toNat).length≤1000000)&&fK D (aP D n (bO m.toNat ((m - x).toNat+((((a+b).tdiv 2)+m - x) - m).toNat) l (m - x).toNat ((((a+b).tdiv 2)+m - x) - m).toNat) a.toNat x.toNat ((a+b).tdiv 2).toNat)&&fG D)=false:=t;rw [hW,(sw2).fK hin,(sw2).len] at t;simp [hM] at t;omega
                    ·skip
                     have s7:¬ ((W:Int)+m - x)<b:=(by simpa [aA,aG,hM] using s7);have c3:¬ (W<(W+Q - i)∧(W+Q - i)<B):=(by omega);(conv=>whnf);refine⟨rfl,?_⟩;show (0,aS.cells true false 1 (flat aU.fl (aP D n (bO m.toNat ((m - x).toNat+((((a+b).tdiv 2)+m - x) - m).toNat) l (m - x).toNat ((((a+b).tdiv 2)+m - x) - m).toNat) a.toNat x.toNat ((a+b).tdiv 2).toNat)))::F=_;rw [aP];simp only [hst,uA (),uQ (),uB (),u1 (),u2 (),u3 (),u4 (),u5 (),uW (),if_neg n1,if_neg n2,if_pos c1,if_pos c2,if_neg c3]
                   ·skip
                    have s6:¬ (W:Int)<((W:Int)+m - x):=(by simpa [aA,aG,hM] using s6);have c3:¬ (W<(W+Q - i)∧(W+Q - i)<B):=(by omega);(conv=>whnf);refine⟨rfl,?_⟩;show (0,aS.cells true false 1 (flat aU.fl (aP D n (bO m.toNat ((m - x).toNat+((((a+b).tdiv 2)+m - x) - m).toNat) l (m - x).toNat ((((a+b).tdiv 2)+m - x) - m).toNat) a.toNat x.toNat ((a+b).tdiv 2).toNat)))::F=_;rw [aP];simp only [hst,uA (),uQ (),uB (),u1 (),u2 (),u3 (),u4 (),u5 (),uW (),if_neg n1,if_neg n2,if_pos c1,if_pos c2,if_neg c3]
                  ·exfalso;have t:(decide (0≤a)&&decide (a<x)&&decide (x<((a+b).tdiv 2))&&decide (((a+b).tdiv 2)≤(bO m.toNat ((m - x).toNat+((((a+b).tdiv 2)+m - x) - m).toNat) l (m - x).toNat ((((a+b).tdiv 2)+m - x) - m).toNat).length)&&decide (((a+b).tdiv 2) - a≤n)&&decide ((bO m.toNat ((m - x).toNat+((((a+b).tdiv 2)+m - x) - m).toNat) l (m - x).toNat ((((a+b).tdiv 2)+m - x) - m).toNat).length≤1000000)&&fK D (bO m.toNat ((m - x).toNat+((((a+b).tdiv 2)+m - x) - m).toNat) l (m - x).toNat ((((a+b).tdiv 2)+m - x) - m).toNat)&&fG D)=false:=t;rw [hW,(sw1).fK hin,(sw1).len] at t;simp [hM] at t;omega
                 ·skip
                  have s5:¬ x<(W:Int):=(by simpa [aA,aG,hM] using s5);have c2:¬ (A<i∧i<W):=(by omega);((conv=>whnf);refine bm (fun s6=>?_) (fun s6=>?_))
                  ·((conv=>whnf);refine bm (fun s7=>?_) (fun s7=>?_))
                   ·skip
                    have s6:(W:Int)<((W:Int)+m - x):=(by simpa [aA,aG,hM] using s6);have s7:((W:Int)+m - x)<b:=(by simpa [aA,aG,hM] using s7);have c3:W<(W+Q - i)∧(W+Q - i)<B:=(by omega);(conv=>whnf);refine .inr ?_;(conv=>whnf);refine⟨0,c,[iv ((a+b).tdiv 2),iv (((a+b).tdiv 2)+m - x),iv b],p,bO m.toNat ((m - x).toNat+((((a+b).tdiv 2)+m - x) - m).toNat) l (m - x).toNat ((((a+b).tdiv 2)+m - x) - m).toNat,D,by rw [(sw1).len];rfl,rfl,aQ hC,bG hF hD,?_⟩;((conv=>whnf);refine bm (fun t=>?_) (fun t=>?_))
                    ·skip
                     (conv=>whnf);refine⟨rfl,?_⟩;show (0,aS.cells true false 1 (flat aU.fl (aP D n (bO m.toNat ((m - x).toNat+((((a+b).tdiv 2)+m - x) - m).toNat) l (m - x).toNat ((((a+b).tdiv 2)+m - x) - m).toNat) ((a+b).tdiv 2).toNat (((a+b).tdiv 2)+m - x).toNat b.toNat)))::F=_;rw [aP];simp only [hst,uA (),uQ (),uB (),u1 (),u2 (),u3 (),u4 (),u5 (),uW (),if_neg n1,if_neg n2,if_pos c1,if_neg c2,if_pos c3]
                    ·exfalso;have t:(decide (0≤((a+b).tdiv 2))&&decide (((a+b).tdiv 2)<(((a+b).tdiv 2)+m - x))&&decide ((((a+b).tdiv 2)+m - x)<b)&&decide (b≤(bO m.toNat ((m - x).toNat+((((a+b).tdiv 2)+m - x) - m).toNat) l (m - x).toNat ((((a+b).tdiv 2)+m - x) - m).toNat).length)&&decide (b - ((a+b).tdiv 2)≤n)&&decide ((bO m.toNat ((m - x).toNat+((((a+b).tdiv 2)+m - x) - m).toNat) l (m - x).toNat ((((a+b).tdiv 2)+m - x) - m).toNat).length≤1000000)&&fK D (bO m.toNat ((m - x).toNat+((((a+b).tdiv 2)+m - x) - m).toNat) l (m - x).toNat ((((a+b).tdiv 2)+m - x) - m).toNat)&&fG D)=false:=t;rw [hW,(sw1).fK hin,(sw1).len] at t;simp [hM] at t;omega
                   ·skip
                    have s7:¬ ((W:Int)+m - x)<b:=(by simpa [aA,aG,hM] using s7);have c3:¬ (W<(W+Q - i)∧(W+Q - i)<B):=(by omega);(conv=>whnf);refine⟨rfl,?_⟩;show (0,aS.cells true false 1 (flat aU.fl (bO m.toNat ((m - x).toNat+((((a+b).tdiv 2)+m - x) - m).toNat) l (m - x).toNat ((((a+b).tdiv 2)+m - x) - m).toNat)))::F=_;rw [aP];simp only [hst,uA (),uQ (),uB (),u1 (),u2 (),u3 (),u4 (),u5 (),uW (),if_neg n1,if_neg n2,if_pos c1,if_neg c2,if_neg c3]
                  ·skip
                   have s6:¬ (W:Int)<((W:Int)+m - x):=(by simpa [aA,aG,hM] using s6);have c3:¬ (W<(W+Q - i)∧(W+Q - i)<B):=(by omega);(conv=>whnf);refine⟨rfl,?_⟩;show (0,aS.cells true false 1 (flat aU.fl (bO m.toNat ((m - x).toNat+((((a+b).tdiv 2)+m - x) - m).toNat) l (m - x).toNat ((((a+b).tdiv 2)+m - x) - m).toNat)))::F=_;rw [aP];simp only [hst,uA (),uQ (),uB (),u1 (),u2 (),u3 (),u4 (),u5 (),uW (),if_neg n1,if_neg n2,if_pos c1,if_neg c2,if_neg c3]
                ·skip
                 have s4:¬ a<x:=(by simpa [aA,aG,hM] using s4);have c2:¬ (A<i∧i<W):=(by omega);((conv=>whnf);refine bm (fun s6=>?_) (fun s6=>?_))
                 ·((conv=>whnf);refine bm (fun s7=>?_) (fun s7=>?_))
                  ·skip
                   have s6:(W:Int)<((W:Int)+m - x):=(by simpa [aA,aG,hM] using s6);have s7:((W:Int)+m - x)<b:=(by simpa [aA,aG,hM] using s7);have c3:W<(W+Q - i)∧(W+Q - i)<B:=(by omega);(conv=>whnf);refine .inr ?_;(conv=>whnf);refine⟨0,c,[iv ((a+b).tdiv 2),iv (((a+b).tdiv 2)+m - x),iv b],p,bO m.toNat ((m - x).toNat+((((a+b).tdiv 2)+m - x) - m).toNat) l (m - x).toNat ((((a+b).tdiv 2)+m - x) - m).toNat,D,by rw [(sw1).len];rfl,rfl,aQ hC,bG hF hD,?_⟩;((conv=>whnf);refine bm (fun t=>?_) (fun t=>?_))
                   ·skip
                    (conv=>whnf);refine⟨rfl,?_⟩;show (0,aS.cells true false 1 (flat aU.fl (aP D n (bO m.toNat ((m - x).toNat+((((a+b).tdiv 2)+m - x) - m).toNat) l (m - x).toNat ((((a+b).tdiv 2)+m - x) - m).toNat) ((a+b).tdiv 2).toNat (((a+b).tdiv 2)+m - x).toNat b.toNat)))::F=_;rw [aP];simp only [hst,uA (),uQ (),uB (),u1 (),u2 (),u3 (),u4 (),u5 (),uW (),if_neg n1,if_neg n2,if_pos c1,if_neg c2,if_pos c3]
                   ·exfalso;have t:(decide (0≤((a+b).tdiv 2))&&decide (((a+b).tdiv 2)<(((a+b).tdiv 2)+m - x))&&decide ((((a+b).tdiv 2)+m - x)<b)&&decide (b≤(bO m.toNat ((m - x).toNat+((((a+b).tdiv 2)+m - x) - m).toNat) l (m - x).toNat ((((a+b).tdiv 2)+m - x) - m).toNat).length)&&decide (b - ((a+b).tdiv 2)≤n)&&decide ((bO m.toNat ((m - x).toNat+((((a+b).tdiv 2)+m - x) - m).toNat) l (m - x).toNat ((((a+b).tdiv 2)+m - x) - m).toNat).length≤1000000)&&fK D (bO m.toNat ((m - x).toNat+((((a+b).tdiv 2)+m - x) - m).toNat) l (m - x).toNat ((((a+b).tdiv 2)+m - x) - m).toNat)&&fG D)=false:=t;rw [hW,(sw1).fK hin,(sw1).len] at t;simp [hM] at t;omega
                  ·skip
                   have s7:¬ ((W:Int)+m - x)<b:=(by simpa [aA,aG,hM] using s7);have c3:¬ (W<(W+Q - i)∧(W+Q - i)<B):=(by omega);(conv=>whnf);refine⟨rfl,?_⟩;show (0,aS.cells true false 1 (flat aU.fl (bO m.toNat ((m - x).toNat+((((a+b).tdiv 2)+m - x) - m).toNat) l (m - x).toNat ((((a+b).tdiv 2)+m - x) - m).toNat)))::F=_;rw [aP];simp only [hst,uA (),uQ (),uB (),u1 (),u2 (),u3 (),u4 (),u5 (),uW (),if_neg n1,if_neg n2,if_pos c1,if_neg c2,if_neg c3]
                 ·skip
                  have s6:¬ (W:Int)<((W:Int)+m - x):=(by simpa [aA,aG,hM] using s6);have c3:¬ (W<(W+Q - i)∧(W+Q - i)<B):=(by omega);(conv=>whnf);refine⟨rfl,?_⟩;show (0,aS.cells true false 1 (flat aU.fl (bO m.toNat ((m - x).toNat+((((a+b).tdiv 2)+m - x) - m).toNat) l (m - x).toNat ((((a+b).tdiv 2)+m - x) - m).toNat)))::F=_;rw [aP];simp only [hst,uA (),uQ (),uB (),u1 (),u2 (),u3 (),u4 (),u5 (),uW (),if_neg n1,if_neg n2,if_pos c1,if_neg c2,if_neg c3]
               ·exfalso;have t:(decide (0≤x)&&decide (x<m)&&decide (m<(((a+b).tdiv 2)+m - x))&&decide ((((a+b).tdiv 2)+m - x)≤l.length)&&decide (l.length≤1000000))=false:=t;simp [hM] at t;omega
              ·skip
               have s3:¬ m<((W:Int)+m - x):=(by simpa [aA,aG,hM] using s3);have c1:¬ (i<Q∧Q<(W+Q - i)):=(by omega);((conv=>whnf);refine bm (fun s4=>?_) (fun s4=>?_))
               ·((conv=>whnf);refine bm (fun s5=>?_) (fun s5=>?_))
                ·skip
                 have s4:a<x:=(by simpa [aA,aG,hM] using s4);have s5:x<(W:Int):=(by simpa [aA,aG,hM] using s5);have c2:A<i∧i<W:=(by omega);(conv=>whnf);refine .inr ?_;(conv=>whnf);refine⟨0,c,[iv a,iv x,iv ((a+b).tdiv 2)],p,l,D,by rw [((Sw.refl l)).len];rfl,rfl,aQ hC,bG hF hD,?_⟩;((conv=>whnf);refine bm (fun t=>?_) (fun t=>?_))
                 ·skip
                  have sw2:Sw l (aP D n (l) a.toNat x.toNat ((a+b).tdiv 2).toNat):=((Sw.refl l)).trans (lK D n _ _ _ _ (by simp only [uA (),uQ (),uB (),u1 (),u2 (),u3 (),u4 (),u5 ()];omega) (by simp only [uA (),uQ (),uB (),u1 (),u2 (),u3 (),u4 (),u5 ()];omega) (by rw [((Sw.refl l)).len];simp only [uA (),uQ (),uB (),u1 (),u2 (),u3 (),u4 (),u5 ()];omega));((conv=>whnf);refine bm (fun s6=>?_) (fun s6=>?_))
                  ·((conv=>whnf);refine bm (fun s7=>?_) (fun s7=>?_))
                   ·skip
                    have s6:(W:Int)<((W:Int)+m - x):=(by simpa [aA,aG,hM] using s6);have s7:((W:Int)+m - x)<b:=(by simpa [aA,aG,hM] using s7);have c3:W<(W+Q - i)∧(W+Q - i)<B:=(by omega);(conv=>whnf);refine .inr ?_;(conv=>whnf);refine⟨0,c,[iv ((a+b).tdiv 2),iv (((a+b).tdiv 2)+m - x),iv b],p,aP D n (l) a.toNat x.toNat ((a+b).tdiv 2).toNat,D,by rw [(sw2).len];rfl,rfl,aQ hC,bG hF hD,?_⟩;((conv=>whnf);refine bm (fun t=>?_) (fun t=>?_))
                    ·skip
                     (conv=>whnf);refine⟨rfl,?_⟩;show (0,aS.cells true false 1 (flat aU.fl (aP D n (aP D n (l) a.toNat x.toNat ((a+b).tdiv 2).toNat) ((a+b).tdiv 2).toNat (((a+b).tdiv 2)+m - x).toNat b.toNat)))::F=_;rw [aP];simp only [hst,uA (),uQ (),uB (),u1 (),u2 (),u3 (),u4 (),u5 (),uW (),if_neg n1,if_neg n2,if_neg c1,if_pos c2,if_pos c3]
                    ·exfalso;have t:(decide (0≤((a+b).tdiv 2))&&decide (((a+b).tdiv 2)<(((a+b).tdiv 2)+m - x))&&decide ((((a+b).tdiv 2)+m - x)<b)&&decide (b≤(aP D n (l) a.toNat x.toNat ((a+b).tdiv 2).toNat).length)&&decide (b - ((a+b).tdiv 2)≤n)&&decide ((aP D n (l) a.toNat x.toNat ((a+b).tdiv 2).toNat).length≤1000000)&&fK D (aP D n (l) a.toNat x.toNat ((a+b).tdiv 2).toNat)&&fG D)=false:=t;rw [hW,(sw2).fK hin,(sw2).len] at t;simp [hM] at t;omega
                   ·skip
                    have s7:¬ ((W:Int)+m - x)<b:=(by simpa [aA,aG,hM] using s7);have c3:¬ (W<(W+Q - i)∧(W+Q - i)<B):=(by omega);(conv=>whnf);refine⟨rfl,?_⟩;show (0,aS.cells true false 1 (flat aU.fl (aP D n (l) a.toNat x.toNat ((a+b).tdiv 2).toNat)))::F=_;rw [aP];simp only [hst,uA (),uQ (),uB (),u1 (),u2 (),u3 (),u4 (),u5 (),uW (),if_neg n1,if_neg n2,if_neg c1,if_pos c2,if_neg c3]
                  ·skip
                   have s6:¬ (W:Int)<((W:Int)+m - x):=(by simpa [aA,aG,hM] using s6);have c3:¬ (W<(W+Q - i)∧(W+Q - i)<B):=(by omega);(conv=>whnf);refine⟨rfl,?_⟩;show (0,aS.cells true false 1 (flat aU.fl (aP D n (l) a.toNat x.toNat ((a+b).tdiv 2).toNat)))::F=_;rw [aP];simp only [hst,uA (),uQ (),uB (),u1 (),u2 (),u3 (),u4 (),u5 (),uW (),if_neg n1,if_neg n2,if_neg c1,if_pos c2,if_neg c3]
                 ·exfalso;have t:(decide (0≤a)&&decide (a<x)&&decide (x<((a+b).tdiv 2))&&decide (((a+b).tdiv 2)≤(l).length)&&decide (((a+b).tdiv 2) - a≤n)&&decide ((l).length≤1000000)&&fK D (l)&&fG D)=false:=t;rw [hW,((Sw.refl l)).fK hin,((Sw.refl l)).len] at t;simp [hM] at t;omega
                ·skip
                 have s5:¬ x<(W:Int):=(by simpa [aA,aG,hM] using s5);have c2:¬ (A<i∧i<W):=(by omega);((conv=>whnf);refine bm (fun s6=>?_) (fun s6=>?_))
                 ·((conv=>whnf);refine bm (fun s7=>?_) (fun s7=>?_))
                  ·skip
                   have s6:(W:Int)<((W:Int)+m - x):=(by simpa [aA,aG,hM] using s6);have s7:((W:Int)+m - x)<b:=(by simpa [aA,aG,hM] using s7);have c3:W<(W+Q - i)∧(W+Q - i)<B:=(by omega);(conv=>whnf);refine .inr ?_;(conv=>whnf);refine⟨0,c,[iv ((a+b).tdiv 2),iv (((a+b).tdiv 2)+m - x),iv b],p,l,D,by rw [((Sw.refl l)).len];rfl,rfl,aQ hC,bG hF hD,?_⟩;((conv=>whnf);refine bm (fun t=>?_) (fun t=>?_))
                   ·skip
                    (conv=>whnf);refine⟨rfl,?_⟩;show (0,aS.cells true false 1 (flat aU.fl (aP D n (l) ((a+b).tdiv 2).toNat (((a+b).tdiv 2)+m - x).toNat b.toNat)))::F=_;rw [aP];simp only [hst,uA (),uQ (),uB (),u1 (),u2 (),u3 (),u4 (),u5 (),uW (),if_neg n1,if_neg n2,if_neg c1,if_neg c2,if_pos c3]
                   ·exfalso;have t:(decide (0≤((a+b).tdiv 2))&&decide (((a+b).tdiv 2)<(((a+b).tdiv 2)+m - x))&&decide ((((a+b).tdiv 2)+m - x)<b)&&decide (b≤(l).length)&&decide (b - ((a+b).tdiv 2)≤n)&&decide ((l).length≤1000000)&&fK D (l)&&fG D)=false:=t;rw [hW,((Sw.refl l)).fK hin,((Sw.refl l)).len] at t;simp [hM] at t;omega
                  ·skip
                   have s7:¬ ((W:Int)+m - x)<b:=(by simpa [aA,aG,hM] using s7);have c3:¬ (W<(W+Q - i)∧(W+Q - i)<B):=(by omega);(conv=>whnf);refine⟨rfl,?_⟩;show (0,aS.cells true false 1 (flat aU.fl (l)))::F=_;rw [aP];simp only [hst,uA (),uQ (),uB (),u1 (),u2 (),u3 (),u4 (),u5 (),uW (),if_neg n1,if_neg n2,if_neg c1,if_neg c2,if_neg c3]
                 ·skip
                  have s6:¬ (W:Int)<((W:Int)+m - x):=(by simpa [aA,aG,hM] using s6);have c3:¬ (W<(W+Q - i)∧(W+Q - i)<B):=(by omega);(conv=>whnf);refine⟨rfl,?_⟩;show (0,aS.cells true false 1 (flat aU.fl (l)))::F=_;rw [aP];simp only [hst,uA (),uQ (),uB (),u1 (),u2 (),u3 (),u4 (),u5 (),uW (),if_neg n1,if_neg n2,if_neg c1,if_neg c2,if_neg c3]
               ·skip
                have s4:¬ a<x:=(by simpa [aA,aG,hM] using s4);have c2:¬ (A<i∧i<W):=(by omega);((conv=>whnf);refine bm (fun s6=>?_) (fun s6=>?_))
                ·((conv=>whnf);refine bm (fun s7=>?_) (fun s7=>?_))
                 ·skip
                  have s6:(W:Int)<((W:Int)+m - x):=(by simpa [aA,aG,hM] using s6);have s7:((W:Int)+m - x)<b:=(by simpa [aA,aG,hM] using s7);have c3:W<(W+Q - i)∧(W+Q - i)<B:=(by omega);(conv=>whnf);refine .inr ?_;(conv=>whnf);refine⟨0,c,[iv ((a+b).tdiv 2),iv (((a+b).tdiv 2)+m - x),iv b],p,l,D,by rw [((Sw.refl l)).len];rfl,rfl,aQ hC,bG hF hD,?_⟩;((conv=>whnf);refine bm (fun t=>?_) (fun t=>?_))
                  ·skip
                   (conv=>whnf);refine⟨rfl,?_⟩;show (0,aS.cells true false 1 (flat aU.fl (aP D n (l) ((a+b).tdiv 2).toNat (((a+b).tdiv 2)+m - x).toNat b.toNat)))::F=_;rw [aP];simp only [hst,uA (),uQ (),uB (),u1 (),u2 (),u3 (),u4 (),u5 (),uW (),if_neg n1,if_neg n2,if_neg c1,if_neg c2,if_pos c3]
                  ·exfalso;have t:(decide (0≤((a+b).tdiv 2))&&decide (((a+b).tdiv 2)<(((a+b).tdiv 2)+m - x))&&decide ((((a+b).tdiv 2)+m - x)<b)&&decide (b≤(l).length)&&decide (b - ((a+b).tdiv 2)≤n)&&decide ((l).length≤1000000)&&fK D (l)&&fG D)=false:=t;rw [hW,((Sw.refl l)).fK hin,((Sw.refl l)).len] at t;simp [hM] at t;omega
                 ·skip
                  have s7:¬ ((W:Int)+m - x)<b:=(by simpa [aA,aG,hM] using s7);have c3:¬ (W<(W+Q - i)∧(W+Q - i)<B):=(by omega);(conv=>whnf);refine⟨rfl,?_⟩;show (0,aS.cells true false 1 (flat aU.fl (l)))::F=_;rw [aP];simp only [hst,uA (),uQ (),uB (),u1 (),u2 (),u3 (),u4 (),u5 (),uW (),if_neg n1,if_neg n2,if_neg c1,if_neg c2,if_neg c3]
                ·skip
                 have s6:¬ (W:Int)<((W:Int)+m - x):=(by simpa [aA,aG,hM] using s6);have c3:¬ (W<(W+Q - i)∧(W+Q - i)<B):=(by omega);(conv=>whnf);refine⟨rfl,?_⟩;show (0,aS.cells true false 1 (flat aU.fl (l)))::F=_;rw [aP];simp only [hst,uA (),uQ (),uB (),u1 (),u2 (),u3 (),u4 (),u5 (),uW (),if_neg n1,if_neg n2,if_neg c1,if_neg c2,if_neg c3]
             ·skip
              have s2:¬ x<m:=(by simpa [aA,aG,hM] using s2);have c1:¬ (i<Q∧Q<(W+Q - i)):=(by omega);((conv=>whnf);refine bm (fun s4=>?_) (fun s4=>?_))
              ·((conv=>whnf);refine bm (fun s5=>?_) (fun s5=>?_))
               ·skip
                have s4:a<x:=(by simpa [aA,aG,hM] using s4);have s5:x<(W:Int):=(by simpa [aA,aG,hM] using s5);have c2:A<i∧i<W:=(by omega);(conv=>whnf);refine .inr ?_;(conv=>whnf);refine⟨0,c,[iv a,iv x,iv ((a+b).tdiv 2)],p,l,D,by rw [((Sw.refl l)).len];rfl,rfl,aQ hC,bG hF hD,?_⟩;((conv=>whnf);refine bm (fun t=>?_) (fun t=>?_))
                ·skip
                 have sw2:Sw l (aP D n (l) a.toNat x.toNat ((a+b).tdiv 2).toNat):=((Sw.refl l)).trans (lK D n _ _ _ _ (by simp only [uA (),uQ (),uB (),u1 (),u2 (),u3 (),u4 (),u5 ()];omega) (by simp only [uA (),uQ (),uB (),u1 (),u2 (),u3 (),u4 (),u5 ()];omega) (by rw [((Sw.refl l)).len];simp only [uA (),uQ (),uB (),u1 (),u2 (),u3 (),u4 (),u5 ()];omega));((conv=>whnf);refine bm (fun s6=>?_) (fun s6=>?_))
                 ·((conv=>whnf);refine bm (fun s7=>?_) (fun s7=>?_))
                  ·skip
                   have s6:(W:Int)<((W:Int)+m - x):=(by simpa [aA,aG,hM] using s6);have s7:((W:Int)+m - x)<b:=(by simpa [aA,aG,hM] using s7);have c3:W<(W+Q - i)∧(W+Q - i)<B:=(by omega);(conv=>whnf);refine .inr ?_;(conv=>whnf);refine⟨0,c,[iv ((a+b).tdiv 2),iv (((a+b).tdiv 2)+m - x),iv b],p,aP D n (l) a.toNat x.toNat ((a+b).tdiv 2).toNat,D,by rw [(sw2).len];rfl,rfl,aQ hC,bG hF hD,?_⟩;((conv=>whnf);refine bm (fun t=>?_) (fun t=>?_))
                   ·skip
                    (conv=>whnf);refine⟨rfl,?_⟩;show (0,aS.cells true false 1 (flat aU.fl (aP D n (aP D n (l) a.toNat x.toNat ((a+b).tdiv 2).toNat) ((a+b).tdiv 2).toNat (((a+b).tdiv 2)+m - x).toNat b.toNat)))::F=_;rw [aP];simp only [hst,uA (),uQ (),uB (),u1 (),u2 (),u3 (),u4 (),u5 (),uW (),if_neg n1,if_neg n2,if_neg c1,if_pos c2,if_pos c3]
                   ·exfalso;have t:(decide (0≤((a+b).tdiv 2))&&decide (((a+b).tdiv 2)<(((a+b).tdiv 2)+m - x))&&decide ((((a+b).tdiv 2)+m - x)<b)&&decide (b≤(aP D n (l) a.toNat x.toNat ((a+b).tdiv 2).toNat).length)&&decide (b - ((a+b).tdiv 2)≤n)&&decide ((aP D n (l) a.toNat x.toNat ((a+b).tdiv 2).toNat).length≤1000000)&&fK D (aP D n (l) a.toNat x.toNat ((a+b).tdiv 2).toNat)&&fG D)=false:=t;rw [hW,(sw2).fK hin,(sw2).len] at t;simp [hM] at t;omega
                  ·skip
                   have s7:¬ ((W:Int)+m - x)<b:=(by simpa [aA,aG,hM] using s7);have c3:¬ (W<(W+Q - i)∧(W+Q - i)<B):=(by omega);(conv=>whnf);refine⟨rfl,?_⟩;show (0,aS.cells true false 1 (flat aU.fl (aP D n (l) a.toNat x.toNat ((a+b).tdiv 2).toNat)))::F=_;rw [aP];simp only [hst,uA (),uQ (),uB (),u1 (),u2 (),u3 (),u4 (),u5 (),uW (),if_neg n1,if_neg n2,if_neg c1,if_pos c2,if_neg c3]
                 ·skip
                  have s6:¬ (W:Int)<((W:Int)+m - x):=(by simpa [aA,aG,hM] using s6);have c3:¬ (W<(W+Q - i)∧(W+Q - i)<B):=(by omega);(conv=>whnf);refine⟨rfl,?_⟩;show (0,aS.cells true false 1 (flat aU.fl (aP D n (l) a.toNat x.toNat ((a+b).tdiv 2).toNat)))::F=_;rw [aP];simp only [hst,uA (),uQ (),uB (),u1 (),u2 (),u3 (),u4 (),u5 (),uW (),if_neg n1,if_neg n2,if_neg c1,if_pos c2,if_neg c3]
                ·exfalso;have t:(decide (0≤a)&&decide (a<x)&&decide (x<((a+b).tdiv 2))&&decide (((a+b).tdiv 2)≤(l).length)&&decide (((a+b).tdiv 2) - a≤n)&&decide ((l).length≤1000000)&&fK D (l)&&fG D)=false:=t;rw [hW,((Sw.refl l)).fK hin,((Sw.refl l)).len] at t;simp [hM] at t;omega
               ·skip
                have s5:¬ x<(W:Int):=(by simpa [aA,aG,hM] using s5);have c2:¬ (A<i∧i<W):=(by omega);((conv=>whnf);refine bm (fun s6=>?_) (fun s6=>?_))
                ·((conv=>whnf);refine bm (fun s7=>?_) (fun s7=>?_))
                 ·skip
                  have s6:(W:Int)<((W:Int)+m - x):=(by simpa [aA,aG,hM] using s6);have s7:((W:Int)+m - x)<b:=(by simpa [aA,aG,hM] using s7);have c3:W<(W+Q - i)∧(W+Q - i)<B:=(by omega);(conv=>whnf);refine .inr ?_;(conv=>whnf);refine⟨0,c,[iv ((a+b).tdiv 2),iv (((a+b).tdiv 2)+m - x),iv b],p,l,D,by rw [((Sw.refl l)).len];rfl,rfl,aQ hC,bG hF hD,?_⟩;((conv=>whnf);refine bm (fun t=>?_) (fun t=>?_))
                  ·skip
                   (conv=>whnf);refine⟨rfl,?_⟩;show (0,aS.cells true false 1 (flat aU.fl (aP D n (l) ((a+b).tdiv 2).toNat (((a+b).tdiv 2)+m - x).toNat b.toNat)))::F=_;rw [aP];simp only [hst,uA (),uQ (),uB (),u1 (),u2 (),u3 (),u4 (),u5 (),uW (),if_neg n1,if_neg n2,if_neg c1,if_neg c2,if_pos c3]
                  ·exfalso;have t:(decide (0≤((a+b).tdiv 2))&&decide (((a+b).tdiv 2)<(((a+b).tdiv 2)+m - x))&&decide ((((a+b).tdiv 2)+m - x)<b)&&decide (b≤(l).length)&&decide (b - ((a+b).tdiv 2)≤n)&&decide ((l).length≤1000000)&&fK D (l)&&fG D)=false:=t;rw [hW,((Sw.refl l)).fK hin,((Sw.refl l)).len] at t;simp [hM] at t;omega
                 ·skip
                  have s7:¬ ((W:Int)+m - x)<b:=(by simpa [aA,aG,hM] using s7);have c3:¬ (W<(W+Q - i)∧(W+Q - i)<B):=(by omega);(conv=>whnf);refine⟨rfl,?_⟩;show (0,aS.cells true false 1 (flat aU.fl (l)))::F=_;rw [aP];simp only [hst,uA (),uQ (),uB (),u1 (),u2 (),u3 (),u4 (),u5 (),uW (),if_neg n1,if_neg n2,if_neg c1,if_neg c2,if_neg c3]
                ·skip
                 have s6:¬ (W:Int)<((W:Int)+m - x):=(by simpa [aA,aG,hM] using s6);have c3:¬ (W<(W+Q - i)∧(W+Q - i)<B):=(by omega);(conv=>whnf);refine⟨rfl,?_⟩;show (0,aS.cells true false 1 (flat aU.fl (l)))::F=_;rw [aP];simp only [hst,uA (),uQ (),uB (),u1 (),u2 (),u3 (),u4 (),u5 (),uW (),if_neg n1,if_neg n2,if_neg c1,if_neg c2,if_neg c3]
              ·skip
               have s4:¬ a<x:=(by simpa [aA,aG,hM] using s4);have c2:¬ (A<i∧i<W):=(by omega);((conv=>whnf);refine bm (fun s6=>?_) (fun s6=>?_))
               ·((conv=>whnf);refine bm (fun s7=>?_) (fun s7=>?_))
                ·skip
                 have s6:(W:Int)<((W:Int)+m - x):=(by simpa [aA,aG,hM] using s6);have s7:((W:Int)+m - x)<b:=(by simpa [aA,aG,hM] using s7);have c3:W<(W+Q - i)∧(W+Q - i)<B:=(by omega);(conv=>whnf);refine .inr ?_;(conv=>whnf);refine⟨0,c,[iv ((a+b).tdiv 2),iv (((a+b).tdiv 2)+m - x),iv b],p,l,D,by rw [((Sw.refl l)).len];rfl,rfl,aQ hC,bG hF hD,?_⟩;((conv=>whnf);refine bm (fun t=>?_) (fun t=>?_))
                 ·skip
                  (conv=>whnf);refine⟨rfl,?_⟩;show (0,aS.cells true false 1 (flat aU.fl (aP D n (l) ((a+b).tdiv 2).toNat (((a+b).tdiv 2)+m - x).toNat b.toNat)))::F=_;rw [aP];simp only [hst,uA (),uQ (),uB (),u1 (),u2 (),u3 (),u4 (),u5 (),uW (),if_neg n1,if_neg n2,if_neg c1,if_neg c2,if_pos c3]
                 ·exfalso;have t:(decide (0≤((a+b).tdiv 2))&&decide (((a+b).tdiv 2)<(((a+b).tdiv 2)+m - x))&&decide ((((a+b).tdiv 2)+m - x)<b)&&decide (b≤(l).length)&&decide (b - ((a+b).tdiv 2)≤n)&&decide ((l).length≤1000000)&&fK D (l)&&fG D)=false:=t;rw [hW,((Sw.refl l)).fK hin,((Sw.refl l)).len] at t;simp [hM] at t;omega
                ·skip
                 have s7:¬ ((W:Int)+m - x)<b:=(by simpa [aA,aG,hM] using s7);have c3:¬ (W<(W+Q - i)∧(W+Q - i)<B):=(by omega);(conv=>whnf);refine⟨rfl,?_⟩;show (0,aS.cells true false 1 (flat aU.fl (l)))::F=_;rw [aP];simp only [hst,uA (),uQ (),uB (),u1 (),u2 (),u3 (),u4 (),u5 (),uW (),if_neg n1,if_neg n2,if_neg c1,if_neg c2,if_neg c3]
               ·skip
                have s6:¬ (W:Int)<((W:Int)+m - x):=(by simpa [aA,aG,hM] using s6);have c3:¬ (W<(W+Q - i)∧(W+Q - i)<B):=(by omega);(conv=>whnf);refine⟨rfl,?_⟩;show (0,aS.cells true false 1 (flat aU.fl (l)))::F=_;rw [aP];simp only [hst,uA (),uQ (),uB (),u1 (),u2 (),u3 (),u4 (),u5 (),uW (),if_neg n1,if_neg n2,if_neg c1,if_neg c2,if_neg c3]
          ·exfalso;simp [aA,aG,aK,hM] at g10;omega
        ·exfalso;simp [aA,aG,aK,hM] at g7;omega
       ·exfalso;simp [aA,aG,aK,hM] at g6;omega
      ·exfalso;simp [aA,aG,aK] at g5;omega
    ·exfalso;simp [aA,aG,aK] at g3;omega
  ·exfalso;simp [aA,aG,aK] at g1;omega
end Go.Aw
end
