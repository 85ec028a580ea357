/-
  Parts of a proof. No condition.
-/
import Derived.Test.YtjahkcbdecgbhaaGreatQBb
set_option linter.unusedSimpArgs false
set_option linter.unusedVariables false
noncomputable section
namespace Go.Aw
set_option maxRecDepth 100000
set_option maxHeartbeats 4000000
def DV (N:Nat)(j:Int):List (Nat × Value):=[(3,.pointer (some ⟨3,0,none⟩)),(118,.slice (some ⟨5,0,none⟩) N N),(119,iv N),(120,iv j)]
theorem aLE (l:List Pt)(m:List Ed)(n:Int)(c1 c2:Nat)(hok:cX l m n=true):body [(160,PQ (GP 1000))] 153 [aE l.length m.length c1 c2 n] (aB aQ aU l m) 2 (fun v h nx=>JR (.pointer (some ⟨4,0,none⟩)) (YB l m c1 c2 n (2*m.length) (bC l m m.length) (outs l m)) 2000 v h nx):=by
 have hsz:l.length≤400∧3≤m.length∧m.length≤400:=by
  simp only [cX,W2,Bool.and_eq_true,decide_eq_true_eq] at hok;omega
 obtain⟨hl,hm3,hm⟩:=hsz;have hM:kK l m=true:=by
  simp only [cX,Bool.and_eq_true] at hok;exact KB (by omega) (by omega) (fun i hi=>eV hok.2.1 hi) (fun i hi=>eV hok.2.2.1 hi)
 (conv=>whnf);refine⟨aJK l m n c1 c2,aE8 aGa DK (XA l m n c1 c2 hl).h,?_⟩;rintro e h nx ⟨rfl,rfl,rfl⟩;unfold NP rL aB;(conv=>whnf);refine⟨fun q e h nx=>∃ (i:Nat) (j:Int),j=i∧i≤m.length∧q=m.length - i∧e=yM m c2 j∧((i=0∧h=rL l m c1 c2 n∧nx=6)∨(0<i∧(∃ k,k=2*i∧h=xW l m c1 c2 n k (bC l m i))∧nx=7)),⟨m.length,?_⟩,?_⟩
 ·refine aK (e0:=yM m c2 0) (h0:=rL l m c1 c2 n) (n0:=6) ⟨0,0,rfl,Nat.zero_le _,rfl,rfl,.inl ⟨rfl,rfl,rfl⟩⟩ ?_ ?_ (by decide)
  ·unfold yM;((repeat' refine iE rfl rfl ?_);exact iN)
  ·unfold rL aX aB pQ aP;refine List.forall_mem_cons.2 ⟨⟨Nat.le_of_ble_eq_true rfl,_,rfl,aN (RT _)⟩,?_⟩;((repeat'(first|refine iF rfl rfl ?_|refine iC rfl rfl rfl ?_|refine iJ rfl rfl rfl rfl ?_));exact iN)
 ·rintro q e h nx ⟨i,j,hj,hi,rfl,rfl,⟨hi0,rfl,rfl⟩|⟨hip,⟨k,hk,rfl⟩,rfl⟩⟩
  ·subst hi0;unfold yM rL aX aB pQ;((conv=>whnf);refine bm (fun h1=>?_) (fun h1=>?_))
   ·have he:=nB hM (i:=0) (by omega);have pa:=oT hok (i:=(cC m 0).a.toNat) (by omega);have pb:=oT hok (i:=(cC m 0).b.toNat) (by omega)
    repeat' first
     |(((conv=>whnf);refine bm (fun g=>?_) (fun g=>?_)))
     |((conv=>whnf)
       refine oA (EX m (i:=0) (by omega) ?_) ?_
       ·show _+Int.toNat j*5=_;omega)
     |((conv=>whnf)
       refine oA (jE l (i:=(cC m 0).a.toNat) (by omega) ?_) ?_
       ·show _+Int.toNat (cC m 0).a*2=_;omega)
     |((conv=>whnf)
       refine oA (jE l (i:=(cC m 0).b.toNat) (by omega) ?_) ?_
       ·show _+Int.toNat (cC m 0).b*2=_;omega)
    all_goals first
     |(exfalso;simp [aA,aC,aH] at g;omega)
     |(exfalso;simp [aA,aC] at g;rw [g] at hm3;simp at hm3)
     |skip
    (conv=>whnf);refine⟨m.length - 1,by omega,?_⟩;refine yW (e0:=yM m c2 (j+1)) (h0:=xW l m c1 c2 n 2 (bC l m 1)) (n0:=7) [(6,10)] ⟨1,_,by omega,by omega,rfl,rfl,.inr ⟨Nat.one_pos,⟨2,rfl,rfl⟩,rfl⟩⟩ ?_ ?_ ?_ (by decide) (by decide)
    ·unfold yM;((repeat' refine iE rfl rfl ?_);exact iN)
    ·unfold xW aX aB pQ;refine List.forall_mem_cons.2 ⟨⟨Nat.le_of_ble_eq_true rfl,_,rfl,aW (aF _ _) (by subst hj;rfl)⟩,List.forall_mem_cons.2 ⟨⟨Nat.le_of_ble_eq_true rfl,_,rfl,aN (RT _)⟩,?_⟩⟩;((repeat'(first|refine iF rfl rfl ?_|refine iC rfl rfl rfl ?_|refine iJ rfl rfl rfl rfl ?_));exact iN)
    ·show ∀ k∈[6,5,3,4,2,0,1],∀ k'∈[6,5,3,4,2,0,1],_;decide
   ·exfalso;simp [aA,aC] at h1;omega
  ·have hdl:=bR l m i;generalize hD:bC l m i=D at hdl;unfold yM xW aX aB pQ;((conv=>whnf);refine bm (fun h1=>?_) (fun h1=>?_))
   ·have hlt:i<m.length:=(by simp [aA,aC] at h1;omega);have he:=nB hM (i:=i) (by omega);have pa:=oT hok (i:=(cC m i).a.toNat) (by omega);have pb:=oT hok (i:=(cC m i).b.toNat) (by omega)
    repeat' first
     |((conv=>whnf)
       refine bm2 (k:=k) ?_)
     |(((conv=>whnf);refine bm (fun g=>?_) (fun g=>?_)))
     |((conv=>whnf)
       refine oA (EX m (i:=i) (by omega) ?_) ?_
       ·show _+Int.toNat j*5=_;omega)
     |((conv=>whnf)
       refine oA (jE l (i:=(cC m i).a.toNat) (by omega) ?_) ?_
       ·show _+Int.toNat (cC m i).a*2=_;omega)
     |((conv=>whnf)
       refine oA (jE l (i:=(cC m i).b.toNat) (by omega) ?_) ?_
       ·show _+Int.toNat (cC m i).b*2=_;omega)
    all_goals first
     |(exfalso;simp [aA,aC,aH] at g;omega)
     |(exfalso;simp [aA,aC] at g;rw [g] at hm3;simp at hm3)
     |skip
    ·(conv=>whnf);refine⟨m.length - (i+1),by omega,?_⟩;refine yW (e0:=yM m c2 (j+1)) (h0:=xW l m c1 c2 n (k+2) (bC l m (i+1))) (n0:=7) [(6,11)] ⟨i+1,_,by omega,by omega,rfl,rfl,.inr ⟨by omega,⟨k+2,by omega,rfl⟩,rfl⟩⟩ ?_ ?_ ?_ (by decide) (by decide)
     ·unfold yM;((repeat' refine iE rfl rfl ?_);exact iN)
     ·unfold xW aX aB pQ;refine List.forall_mem_cons.2 ⟨⟨Nat.le_of_ble_eq_true rfl,_,rfl,aW (aF _ _) ?_⟩,List.forall_mem_cons.2 ⟨⟨Nat.le_of_ble_eq_true rfl,_,rfl,aN (RT _)⟩,?_⟩⟩
      ·rw [bC,hD];have hg:=SB rK D (dA l m i) (dB l m i) (n:=k) (by omega);rw [← hg];unfold dA dB;rw [← hj];rfl
      ·((repeat'(first|refine iF rfl rfl ?_|refine iC rfl rfl rfl ?_|refine iJ rfl rfl rfl rfl ?_));exact iN)
     ·show ∀ k∈[6,5,3,4,2,0,1],∀ k'∈[6,5,3,4,2,0,1],_;decide
    ·exact aD7 (by rw [bE,hdl,hk];rfl) (by omega) g
   ·have hge:i=m.length:=(by simp [aA,aC] at h1;omega);have hDe:D=bC l m m.length:=(by rw [← hD,hge]);have hDk:D.length=k:=(by omega);clear hD hdl hip;(conv=>whnf);refine⟨fun q e h nx=>∃ (i:Nat) (j:Int),j=i∧i≤k∧q=k - i∧e=oN k j∧h=fV l m c1 c2 n k D (sD l.length D i) (qA l.length D i)∧nx=2000,⟨k,?_⟩,?_⟩
    ·refine aK (e0:=oN k 0) (h0:=fV l m c1 c2 n k D (sD l.length D 0) (qA l.length D 0)) (n0:=2000) ⟨0,0,rfl,Nat.zero_le _,rfl,rfl,rfl,rfl⟩ ?_ ?_ (by decide)
     ·unfold oN;((repeat' refine iE rfl rfl ?_);exact iN)
     ·rw [show qA l.length D 0=List.replicate l.length [] from rfl,aCf];unfold xW aX aB pQ;refine List.forall_mem_cons.2 ⟨⟨Nat.le_of_ble_eq_true rfl,_,rfl,aN (aF _ _)⟩,List.forall_mem_cons.2 ⟨⟨Nat.le_of_ble_eq_true rfl,_,rfl,aN (RT _)⟩,?_⟩⟩;((repeat'(first|refine iF rfl rfl ?_|refine iC rfl rfl rfl ?_|refine iJ rfl rfl rfl rfl ?_));exact iN)
    ·rintro q e h nx ⟨i,j,hj,hi,rfl,rfl,rfl,rfl⟩;by_cases hlt:i<k
     ·have hf:=l9 (l:=l) hM (i:=i) (by omega);rw [← hDe] at hf;have hol:=nQ l.length D i;have hle:=CZ l.length D i (cA D i).fr.toNat fun i' hi'=>by
       have:=(l9 (l:=l) hM (i:=i') (by omega));rw [← hDe] at this;omega
      have hnx:qA l.length D (i+1)=(qA l.length D i).set (cA D i).fr.toNat (bK (qA l.length D i) (cA D i).fr.toNat++[(cA D i).no]):=rfl;rw [show sD l.length D i=(cA D i).fr.toNat from if_pos (by omega)];generalize qA l.length D i=ls at hol hnx hle ⊢;generalize hs:(cA D i).fr.toNat=s at hnx hle ⊢;by_cases h0:(bK ls s).length=0
      ·have ho7:WG (bK ls s)=[]:=if_pos h0;have hvv:tV (tN s s) (bK ls s)=aP:=if_pos h0;have key:∀ o,o=s*1→nth (tC s ls) o=some aP:=fun o ho=>(by rw [GR (by omega) ho,hvv]);unfold oN fV aX pQ;rw [ho7]
       repeat' first
        |(((conv=>whnf);refine bm (fun g=>?_) (fun g=>?_)))
        |((conv=>whnf)
          refine oA (aEO D (i:=i) (by omega) ?_) ?_
          ·show _+Int.toNat j*5=_;omega)
        |((conv=>whnf)
          refine iB (key _ ?_) ?_
          ·show _+Int.toNat (cA D i).fr*1=_;omega)
       all_goals first
        |(exfalso;simp [aA,aC,aH] at g;omega)
        |(exfalso;simp [aA,aC] at g;rw [g] at hm3;simp at hm3)
        |(exfalso
          have hb:Nat.ble (0+Int.toNat (cA D i).fr*1+1) (tC s ls).length=true:=Nat.ble_eq_true_of_le (by rw [kW];omega);exact Bool.false_ne_true (g.symm.trans hb))
        |skip
       (conv=>whnf);refine⟨k - (i+1),by omega,?_⟩;refine aEP (s:=s) (s':=sD l.length D (i+1)) (q:=1) (ls:=ls) (x:=(cA D i).no) (j:=j+1) (D:=D) (k:=k) (l:=l) (m:=m) (c1:=c1) (c2:=c2) (n:=n) (by omega) (by omega) ⟨i+1,j+1,by omega,by omega,rfl,rfl,congrArg (fV l m c1 c2 n k D (sD l.length D (i+1))) hnx.symm,rfl⟩ ?_ ?_ (by omega) ?_ ?_ ?_
       ·unfold oN;exact List.forall_mem_cons.2 ⟨rfl,List.forall_mem_cons.2 ⟨rfl,List.forall_mem_cons.2 ⟨rfl,List.forall_mem_cons.2 ⟨rfl,fun _ h=>(by cases h)⟩⟩⟩⟩
       ·unfold rM aX pQ;exact List.forall_mem_cons.2 ⟨rfl,List.forall_mem_cons.2 ⟨rfl,List.forall_mem_cons.2 ⟨rfl,List.forall_mem_cons.2 ⟨rfl,List.forall_mem_cons.2 ⟨rfl,List.forall_mem_cons.2 ⟨rfl,fun _ h=>(by cases h)⟩⟩⟩⟩⟩⟩
       ·show some (aV.cells true false 1 (dJ (tC s ls) (0+Int.toNat (cA D i).fr*1) [.slice (some ⟨2002,0,none⟩) 1 1]))=_;rw [OF (i:=s) (by omega) (by rw [kW];omega)]
       ·rw [List.eq_nil_of_length_eq_zero h0];rfl
       ·intro i1 a1 a2 a3
        repeat first
         |rw [j5 _ _ (by omega)]
         |rw [iS _ _ (by omega)]
         |rw [bD (by omega)]
          |rw [dL,if_neg (by omega)]
        exact kB a2 a3 a1
      ·have ho7:WG (bK ls s)=[(7,.cells true false 1 (flat aO.fl (bK ls s)))]:=if_neg h0;generalize hq:(bK ls s).length=q at h0 hle;have hvv:tV (tN s s) (bK ls s)=.slice (some ⟨7,0,none⟩) q q:=(by rw [tV,if_neg (by omega),tN,if_pos rfl,hq]);have hqk:q≤1000:=(by omega);have key:∀ o,o=s*1→nth (tC s ls) o=some (.slice (some ⟨7,0,none⟩) q q):=fun o ho=>(by rw [GR (by omega) ho,hvv]);unfold oN fV aX pQ;rw [ho7]
       repeat' first
        |((conv=>whnf)
          refine bm1 (k:=q) ?_)
        |(((conv=>whnf);refine bm (fun g=>?_) (fun g=>?_)))
        |((conv=>whnf)
          refine oA (aEO D (i:=i) (by omega) ?_) ?_
          ·show _+Int.toNat j*5=_;omega)
        |((conv=>whnf)
          refine iB (key _ ?_) ?_
          ·show _+Int.toNat (cA D i).fr*1=_;omega)
       all_goals first
        |(exfalso;simp [aA,aC,aH] at g;omega)
        |(exfalso;simp [aA,aC] at g;rw [g] at hm3;simp at hm3)
        |(exfalso
          have hb:Nat.ble (0+Int.toNat (cA D i).fr*1+1) (tC s ls).length=true:=Nat.ble_eq_true_of_le (by rw [kW];omega);exact Bool.false_ne_true (g.symm.trans hb))
        |skip
       ·(conv=>whnf);refine⟨k - (i+1),by omega,?_⟩;refine aEP (s:=s) (s':=sD l.length D (i+1)) (q:=q+1) (ls:=ls) (x:=(cA D i).no) (j:=j+1) (D:=D) (k:=k) (l:=l) (m:=m) (c1:=c1) (c2:=c2) (n:=n) (by omega) (by omega) ⟨i+1,j+1,by omega,by omega,rfl,rfl,congrArg (fV l m c1 c2 n k D (sD l.length D (i+1))) hnx.symm,rfl⟩ ?_ ?_ (by omega) ?_ ?_ ?_
        ·unfold oN;exact List.forall_mem_cons.2 ⟨rfl,List.forall_mem_cons.2 ⟨rfl,List.forall_mem_cons.2 ⟨rfl,List.forall_mem_cons.2 ⟨rfl,fun _ h=>(by cases h)⟩⟩⟩⟩
        ·unfold rM aX pQ;exact List.forall_mem_cons.2 ⟨rfl,List.forall_mem_cons.2 ⟨rfl,List.forall_mem_cons.2 ⟨rfl,List.forall_mem_cons.2 ⟨rfl,List.forall_mem_cons.2 ⟨rfl,List.forall_mem_cons.2 ⟨rfl,fun _ h=>(by cases h)⟩⟩⟩⟩⟩⟩
        ·show some (aV.cells true false 1 (dJ (tC s ls) (0+Int.toNat (cA D i).fr*1) [.slice (some ⟨2002,0,none⟩) (q+1) (q+1)]))=_;rw [OF (i:=s) (by omega) (by rw [kW];omega)]
        ·have hg:=c9 aO (bK ls s) (cA D i).no (n:=q) hq.symm;unfold ob;rw [← hg];rfl
        ·intro i1 a1 a2 a3
         repeat first
          |rw [j5 _ _ (by omega)]
          |rw [iS _ _ (by omega)]
          |rw [bD (by omega)]
          |rw [dL,if_neg (by omega)]
         show look ((7,_)::tH s ls ls.length) _=_;rw [bD (by omega)];exact kB a2 a3 a1
       ·exact m7 (by rw [bE,hq];rfl) (by omega) g
     ·have hik:i=k:=(by omega);subst hik;clear hlt hi;rw [show sD l.length D i=l.length from if_neg (by omega)];have hol:=nQ l.length D i;have hfr:∀ i',i'<i→(cA D i').fr.toNat<l.length∧(cA D i').no=i':=fun i' hi'=>by
       have:=(l9 (l:=l) hM (i:=i') (by omega));rw [← hDe] at this;omega
      have hout:∀ s,s<l.length→(bK (qA l.length D i) s).length≠0∧(bK (qA l.length D i) s).length≤1000∧YL D (bK (qA l.length D i) s)=true:=fun s hs=>by
       refine⟨?_,?_,?_⟩
       ·rw [C2 i hfr s,hDe,show i=2*m.length by omega];exact TW hok hs
       ·have:=CZ l.length D i s fun i' hi'=>(hfr i' hi').1;omega
       ·rw [C2 i hfr s];refine List.all_eq_true.2 fun x hx=>?_;obtain⟨i',h1,rfl,_⟩:=KF hx;simp only [Bool.and_eq_true,decide_eq_true_eq];omega
      have hW:aBQ D=true:=(by rw [hDe];exact aBV hok hM);generalize hlsE:qA l.length D i=ls at hol hout ⊢;unfold oN fV aX pQ;((conv=>whnf);refine bm (fun h1=>?_) (fun h1=>?_))
      ·exfalso;simp [aA,aC] at h1;omega
      ·(conv=>whnf);refine⟨fun q e h nx=>∃ (t:Nat) (j:Int),j=t∧t≤l.length∧q=l.length - t∧e=DV l.length j∧h=fV l m c1 c2 n i D l.length (srN D ls t)∧nx=2000,⟨l.length,?_⟩,?_⟩
       ·refine OV (e0:=DV l.length 0) (ls:=srN D ls 0) (by rw [rH];omega) (by rw [rH];omega) ⟨0,0,rfl,Nat.zero_le _,rfl,rfl,rfl,rfl⟩ ?_ ?_ rfl ?_
        ·unfold DV;((repeat' refine iE rfl rfl ?_);exact iN)
        ·unfold rM aX pQ;exact List.forall_mem_cons.2 ⟨rfl,List.forall_mem_cons.2 ⟨rfl,List.forall_mem_cons.2 ⟨rfl,List.forall_mem_cons.2 ⟨rfl,List.forall_mem_cons.2 ⟨rfl,List.forall_mem_cons.2 ⟨rfl,fun _ h=>(by cases h)⟩⟩⟩⟩⟩⟩
        ·intro i1 a1 a2;rw [lB (by omega)]
         repeat rw [bD (by omega)]
         exact kB (by have:=rH D ls 0;omega) a2 a1
       ·rintro q e h nx ⟨t,j,hj,ht,rfl,rfl,rfl,rfl⟩;have hsl:=rH D ls t;have hat:=Q4 D ls (i:=t) (by omega);have hnx:srN D ls (t+1)=(srN D ls t).set t (oC D 1000 (bK ls t)):=rfl;generalize hls':srN D ls t=ls' at hsl hat hnx ⊢;by_cases hlt:t<l.length
        ·obtain⟨o1,o2,o3⟩:=hout t hlt;have hA:bK ls' t=bK ls t:=(by rw [hat,if_neg (by omega)]);generalize hq:(bK ls t).length=q at o1 o2;have key:∀ o,o=t*1→nth (tC l.length ls') o=some (.slice (some ⟨t+1000,0,none⟩) q q):=fun o ho=>by
          rw [GR (by omega) ho,tV,hA,if_neg (by omega),tN,if_neg (by omega),hq]
         have ho7:WG (bK ls' l.length)=[]:=lB (by omega);unfold DV fV aX pQ;rw [ho7]
         repeat' first
          |(((conv=>whnf);refine bm (fun g=>?_) (fun g=>?_)))
          |((conv=>whnf)
            refine iB (key _ ?_) ?_
            ·show _+Int.toNat j*1=_;omega)
         all_goals first
          |(exfalso;simp [aA,aC,aH] at g;omega)
          |skip
         (conv=>whnf);refine⟨t+1000,q,[],(3,0),bK ls t,.dirs D,by rw [hq];rfl,?_,?_,?_,?_⟩
         ·repeat rw [bD (by omega)]
          rw [← hA];exact kB (by omega) (by rw [hA,hq];exact o1) (by omega)
         ·exact aS (aS (aS (aS (aS (aS (aS (KO _ _ _)))))))
         ·refine⟨4,6,0,1,true,false,1,[],true,false,1,[.slice (some ⟨5,0,none⟩) l.length l.length,aP],true,false,5,flat rK.fl D,l.length,c1,m.length,c2,n,i,?_,?_,?_,?_⟩
          ·rw [dL,if_neg (by omega)];rfl
          ·rw [dL,if_neg (by omega),hDk];rfl
          ·rw [dL,if_neg (by omega)];rfl
          ·exact List.take_length
         ·rw [aDU (by rw [hq];exact o2) (by omega) o3 hW];refine aJ rfl ?_;((conv=>whnf);refine bm (fun g2=>?_) (fun g2=>?_))
          ·(conv=>whnf);refine⟨l.length - (t+1),by omega,?_⟩;have hlen:∀ i1,(bK (ls'.set t (oC D 1000 (bK ls t))) i1).length=(bK ls' i1).length:=fun i1=>by
            rw [tT _ (by omega)];split
            ·rename_i e;rw [qC,e,hA]
            ·rfl
           refine OV (e0:=DV l.length (j+1)) (ls:=ls'.set t (oC D 1000 (bK ls t))) (s:=l.length) (k:=i) (D:=D) (l:=l) (m:=m) (c1:=c1) (c2:=c2) (n:=n) (by rw [List.length_set];omega) (by rw [List.length_set];omega) ⟨t+1,j+1,by omega,by omega,rfl,rfl,congrArg (fV l m c1 c2 n i D l.length) hnx.symm,rfl⟩ ?_ ?_ ?_ ?_
           ·unfold DV;((repeat' refine iE rfl rfl ?_);exact iN)
           ·unfold rM aX pQ;exact List.forall_mem_cons.2 ⟨rfl,List.forall_mem_cons.2 ⟨rfl,List.forall_mem_cons.2 ⟨rfl,List.forall_mem_cons.2 ⟨rfl,List.forall_mem_cons.2 ⟨rfl,List.forall_mem_cons.2 ⟨rfl,fun _ h=>(by cases h)⟩⟩⟩⟩⟩⟩
           ·rw [aA5 (List.length_set) (fun i1 _=>hlen i1)];rfl
           ·intro i1 a1 a2;rw [List.length_set] at a1;rw [hlen] at a2;rw [tT _ (by omega)];by_cases e:i1=t
            ·rw [if_pos e,e,HL];rfl
            ·rw [if_neg e,j5 _ _ (by omega)]
             repeat rw [bD (by omega)]
             exact kB (by omega) a2 a1
          ·exfalso;simp [aA,aC,aH] at g2;omega
        ·unfold DV fV aX pQ;((conv=>whnf);refine bm (fun h1=>?_) (fun h1=>?_))
         ·exfalso;simp [aA,aC] at h1;omega
         ·(conv=>whnf);have htt:t=l.length:=(by omega);subst htt;have hi2:i=2*m.length:=(by omega);refine Y5 (k:=2*m.length) (D:=bC l m m.length) (ls:=outs l m) (s:=l.length) (by rw [fK];omega) (fK l m) ?_;unfold outs;rw [← hDe,← hi2,hlsE,hls'];rfl
end Go.Aw
end

noncomputable section
namespace Go.Aw
set_option maxRecDepth 100000
def pB:Value→Nat
 |.slice (some _) _ c=>c
 |_=>0
section
variable {α β:Type}(E:El α)(G:El β)
theorem Y0 {h:Heap}{nx:Nat}{v:Value}{l:List α}(hl:gZ E h v l):In [.slice (some ⟨0,0,none⟩) l.length (pB v)] [(0,.cells false true E.sz (flat E.fl l))] 1 [v] h nx:=by
 unfold gZ at hl;split at hl
 ·rename_i n c;obtain⟨rfl,rfl,rfl⟩:=hl;exact RH rfl true E.sz E.pos
 ·rename_i k o n c;obtain⟨rfl,wr,g,sz,cs,hk,hcs⟩:=hl;exact aBS rfl hk hcs (aF E l) true E.sz E.pos
 ·exact hl.elim
theorem KK {p q:Value}{n:Int}{r:List Value}(hr:eH r=true){h:Heap}{nx:Nat}{l:List α}{m:List β}(hl:gZ E h p l)(hm:gZ G h q m) :
  In (aE l.length m.length (pB p) (pB q) n::r) (aB E G l m) 2 (mapA p q n::r) h nx :=
 aAE hr (P0 rfl rfl (Y0 (nx:=nx) E hl) (Y0 (nx:=nx) G hm) ⟨_,_,rfl,aF E l⟩ ⟨_,_,rfl,aF G m⟩) ⟨_,_,_,rfl⟩ ⟨_,_,_,rfl⟩
end
theorem zJ (s:Nat)(ls:List (List Int)):∀ n,gM (tH s ls n)=true
 |0=>rfl
 |n+1=>by
  unfold tH;split
  ·exact zJ s ls n
  ·exact zJ s ls n
theorem PS {l:List Pt}{m:List Ed}{c1 c2:Nat}{n:Int}{k:Nat}{D:List Dt}{ls:List (List Int)}:gM (YB l m c1 c2 n k D ls)=true:=zJ _ _ _
def aD6 (l:List Pt)(m:List Ed)(c1 c2:Nat)(n:Int):Heap:=YB l m c1 c2 n (2*m.length) (bC l m m.length) (outs l m)
def S2:Nat × XF:=(153,fun args h nx K=>∃ l m n p q,args=[mapA p q n]∧gZ aQ h p l∧gZ aU h q m∧cX l m n=true∧K (.pointer (some ⟨nx+4,0,none⟩)) (app (mU nx (aD6 l m (pB p) (pB q) n)) (eD h)) (nx+2000))
theorem aIG:cO Go.Proofs.Tryz.prog S2.1 S2.2:=by
 refine (gC (S:=fun args0 h0 n0 v1 h1 j=>∃ l m n c1 c2,cX l m n=true∧args0=[aE l.length m.length c1 c2 n]∧h0=aB aQ aU l m∧n0=2∧v1=.pointer (some ⟨4,0,none⟩)∧h1=aD6 l m c1 c2 n∧j=2000) (aL (xl:=[(160,PQ (GP 1000))]) (.cons (aAX 1000) .nil)) ?_).mono ?_ ?_
 ·rintro args0 h0 n0 v1 h1 j ⟨l,m,n,c1,c2,hok,rfl,rfl,rfl,rfl,rfl,rfl⟩;exact⟨PS,_,aLE l m n c1 c2 hok,fun v h nx e=>e⟩
 ·rintro args h nx K ⟨l,m,n,p,q,rfl,hl,hm,hok,hx⟩;exact⟨_,_,2,_,_,_,⟨l,m,n,pB p,pB q,hok,rfl,rfl,rfl,rfl,rfl,rfl⟩,KK aQ aU rfl hl hm,hx⟩
 ·rintro args h nx K ⟨l,m,n,p,q,rfl,hl,hm,hok,hx⟩;exact⟨_,_,_,hx,fun K' hk=>⟨l,m,n,p,q,rfl,hl,hm,hok,hk⟩⟩
def qV (x:Int):List Int→Nat→Int
 |[],_=>-1
 |b::r,i=>if x=b then i else qV x r (i+1)
def aGm (l:List Int):List Value→Option (Bool × Value)
 |[.int .i64 x]=>some (decide (l.length≤1000000),iv (qV x l 0))
 |_=>none
theorem aBG {l:List Int}{r:List Value}{v:Value}(hs:aGm l r=some (true,v)):∃ x,r=[iv x]∧l.length≤1000000∧v=iv (qV x l 0):=by
 unfold aGm at hs;split at hs
 ·rename_i x;injection hs with hs;injection hs with h1 h2;exact⟨x,rfl,by simpa using h1,h2.symm⟩
 ·cases hs
def WB (x:Int)(l:List Int)(c:Nat)(j:Int):List (Nat × Value):=[(0,.slice (some ⟨0,0,none⟩) l.length c),(1,iv x),(7,iv l.length),(8,iv j)]
def hIn (l:List Int):Heap:=[(0,.cells false true 1 (flat aO.fl l))]
def sR:Nat × XF:=(167,lX aO aGm)
theorem aJg:cO Go.Proofs.Tryz.prog sR.1 sR.2:=SR aO (aL (xl:=[]) .nil) fun l r v hs=>by
 obtain⟨x,rfl,hlen,rfl⟩:=aBG hs;refine⟨rfl,rfl,fun c=>?_⟩;(conv=>whnf);refine⟨fun q e h nx=>∃ (i:Nat) (j:Int),j=i∧i≤l.length∧q=l.length - i∧qV x l 0=qV x (l.drop i) i∧e=WB x l c j∧h=hIn l∧nx=1,⟨l.length,?_⟩,?_⟩
 ·refine aK (e0:=WB x l c 0) (h0:=hIn l) (n0:=1) ⟨0,0,rfl,Nat.zero_le _,rfl,rfl,rfl,rfl,rfl⟩ ?_ ?_ (by decide)
  ·unfold WB;((repeat' refine iE rfl rfl ?_);exact iN)
  ·unfold hIn;((repeat'(first|refine iF rfl rfl ?_|refine iC rfl rfl rfl ?_|refine iJ rfl rfl rfl rfl ?_));exact iN)
 ·rintro q e h nx ⟨i,j,hj,hi,rfl,hb,rfl,rfl,rfl⟩;unfold WB hIn;((conv=>whnf);refine bm (fun h1=>?_) (fun h1=>?_))
  ·have hlt:i<l.length:=(by simp [aA,aC] at h1;omega);have hd:l.drop i=aM l i::l.drop (i+1):=(by rw [dD hlt];exact List.drop_eq_getElem_cons hlt);rw [hd,qV] at hb;((conv=>whnf);refine bm (fun h2=>?_) (fun h2=>?_))
   ·(conv=>whnf);refine iB (fN l (i:=i) hlt ?_) ?_
    ·show _+Int.toNat j*1=_;omega
    ((conv=>whnf);refine bm (fun h3=>?_) (fun h3=>?_))
    ·have h3:x=aM l i:=(by simpa [aA,aC] using h3);(conv=>whnf);rw [hb,if_pos h3,hj]
    ·have h3:¬ x=aM l i:=(by simpa [aA,aC] using h3);((conv=>whnf);refine bm (fun h4=>?_) (fun h4=>?_))
     ·(conv=>whnf);refine⟨l.length - (i+1),by omega,?_⟩;refine aK (e0:=WB x l c (j+1)) (h0:=hIn l) (n0:=1) ⟨i+1,j+1,by omega,hlt,rfl,by rw [hb,if_neg h3],rfl,rfl,rfl⟩ ?_ ?_ (by decide)
      ·unfold WB;((repeat' refine iE rfl rfl ?_);exact iN)
      ·unfold hIn;((repeat'(first|refine iF rfl rfl ?_|refine iC rfl rfl rfl ?_|refine iJ rfl rfl rfl rfl ?_));exact iN)
     ·exfalso;simp [aA,aC,aH] at h4;omega
   ·exfalso;simp [aA,aC] at h2;omega
  ·have hge:l.length≤i:=(by simp [aA,aC] at h1;omega);(conv=>whnf);rw [hb,List.drop_eq_nil_of_le hge];rfl
def fcV (k:Nat):Option (Nat × Nat)→Value
 |none=>aP
 |some (a,b)=>.slice (some ⟨k,0,none⟩) a b
theorem TB {ρ:Nat→Nat}{k:Nat}{o:Option (Nat × Nat)}:bS ρ (fcV k o)=fcV (ρ k) o:=by
 cases o with
 |none=>rfl
 |some p=>rfl
theorem aA2 {k n:Nat}{o:Option (Nat × Nat)}(h:k<n):CR n (fcV k o):=by
 cases o with
 |none=>exact cG rfl
 |some p=>exact⟨h,fun h=>by cases h⟩
def IA (k0 k1 kd kt kf:Nat)(nP nE nD nL c1 c2:Nat)(n:Int)(fo:Option (Nat × Nat)):List Value :=
 [.slice (some ⟨k0,0,none⟩) nP c1,.slice (some ⟨k1,0,none⟩) nE c2,iv n,.slice (some ⟨kd,0,none⟩) nD nD,.slice (some ⟨kt,0,none⟩) nL nL,fcV kf fo]
structure vR (h:Heap) (p k0 k1 kd kt kf:Nat) (nm:Nat→Nat) (l:List Pt) (D:List Dt) (ls:List (List Int)) (nE c1 c2:Nat) (n:Int) (fo:Option (Nat × Nat)):Prop where
 st:∃ wr g sz,look h p=some (.cells wr g sz (IA k0 k1 kd kt kf l.length nE D.length ls.length c1 c2 n fo))
 pt:∃ wr g sz cs,look h k0=some (.cells wr g sz cs)∧cs.take (flat aQ.fl l).length=flat aQ.fl l
 da:∃ wr g sz cs,look h kd=some (.cells wr g sz cs)∧cs.take (flat rK.fl D).length=flat rK.fl D
 tb:∃ wr g sz,look h kt=some (.cells wr g sz ((List.range ls.length).map fun i=>tV (nm i) (bK ls i)))
 li:∀ i,i<ls.length→(bK ls i).length≠0→∃ wr g sz cs,look h (nm i)=some (.cells wr g sz cs)∧cs.take (flat aO.fl (bK ls i)).length=flat aO.fl (bK ls i)
def fZ (l:List Pt)(D:List Dt)(ls:List (List Int))(nE c1 c2:Nat)(n:Int)(fo:Option (Nat × Nat))(s:Nat):Heap :=
 (0,.cells false false 1 (IA 4 5 1 2 6 l.length nE D.length ls.length c1 c2 n fo))::(1,.cells false true 5 (flat rK.fl D))::(2,.cells false false 1 (tC s ls))::(4,.cells false true 2 (flat aQ.fl l))::(eD (WG (bK ls s))++eD (tH s ls ls.length))
def rhW (p k0 k1 kd kt kf k3:Nat)(nm:Nat→Nat)(s:Nat)(k:Nat):Nat :=
 if 1000≤k then nm (k - 1000) else if k=0 then p else if k=1 then kd else if k=2 then kt else if k=3 then k3 else if k=4 then k0 else if k=5 then k1 else if k=6 then kf else nm s
theorem aES {p k0 k1 kd kt kf k3:Nat}{nm:Nat→Nat}{s i:Nat}:rhW p k0 k1 kd kt kf k3 nm s (tN s i)=nm i:=by
 unfold tN;split
 ·rename_i e;rw [e];rfl
 ·unfold rhW;rw [if_pos (by omega),Nat.add_sub_cancel]
theorem IQ {h:Heap}{k:Nat}{o:aV}(hm:(k,o)∈eD h):∃ o',(k,o')∈h∧o=o'.closed:=by
 induction h with
 |nil=>cases hm
 |cons x r ih =>
  obtain⟨j,q⟩:=x;unfold eD at hm;rcases List.mem_cons.1 hm with e|hm
  ·injection e with e1 e2;subst e1 e2;exact⟨q,.head _,rfl⟩
  ·obtain⟨o',h1,h2⟩:=ih hm;exact⟨o',.tail _ h1,h2⟩
theorem E6 {l:List Pt}{D:List Dt}{ls:List (List Int)}{nE c1 c2:Nat}{n:Int}{fo:Option (Nat × Nat)}{s k:Nat}{o:aV}(h:(k,o)∈fZ l D ls nE c1 c2 n fo s) :
  (k=0∧o=.cells false false 1 (IA 4 5 1 2 6 l.length nE D.length ls.length c1 c2 n fo))∨(k=1∧o=.cells false true 5 (flat rK.fl D))∨(k=2∧o=.cells false false 1 (tC s ls))∨(k=4∧o=.cells false true 2 (flat aQ.fl l)) ∨
  ∃ i,i<ls.length∧(bK ls i).length≠0∧k=tN s i∧o=.cells false false 1 (flat aO.fl (bK ls i)):=by
 unfold fZ at h;simp only [List.mem_cons,List.mem_append] at h;rcases h with h|h|h|h|h|h
 ·injection h with e1 e2;exact .inl ⟨e1,e2⟩
 ·injection h with e1 e2;exact .inr (.inl ⟨e1,e2⟩)
 ·injection h with e1 e2;exact .inr (.inr (.inl ⟨e1,e2⟩))
 ·injection h with e1 e2;exact .inr (.inr (.inr (.inl ⟨e1,e2⟩)))
 ·obtain⟨o',h1,h2⟩:=IQ h;unfold WG at h1;split at h1
  ·cases h1
  ·rename_i hc;simp only [List.mem_cons,List.not_mem_nil,or_false] at h1;injection h1 with e1 e2;subst e1 e2 h2;refine .inr (.inr (.inr (.inr ⟨s,?_,hc,by unfold tN;rw [if_pos rfl],rfl⟩)));refine Decidable.byContradiction fun hq=>hc ?_;unfold bK;rw [List.getD_eq_getElem?_getD,List.getElem?_eq_none (by omega)];rfl
 ·obtain⟨o',h1,h2⟩:=IQ h;obtain⟨i,a1,a2,a3,a4⟩:=AO h1;injection a4 with e1 e2;subst e1 e2 h2;exact .inr (.inr (.inr (.inr ⟨i,a1,a3,by unfold tN;rw [if_neg a2],rfl⟩)))
theorem aF3 {s i n:Nat}(h:i+1000<n):tN s i<n:=by
 unfold tN;split <;> omega
theorem TQ {h:Heap}{p k0 k1 kd kt kf k3:Nat}{nm:Nat→Nat}{l:List Pt}{D:List Dt}{ls:List (List Int)}{nE c1 c2:Nat}{n:Int}{fo:Option (Nat × Nat)}(hw:vR h p k0 k1 kd kt kf nm l D ls nE c1 c2 n fo)(hn:ls.length≤1000)(s:Nat) :
  ∀ k o,look (fZ l D ls nE c1 c2 n fo s) k=some o→k<2000∧∃ g sz cs0,o=.cells false g sz cs0∧sz≠0∧(g=true→dF cs0=true)∧(∀ v∈cs0,CR 2000 v)∧∃ wr g' sz' cs,look h (rhW p k0 k1 kd kt kf k3 nm s k)=some (.cells wr g' sz' cs)∧cs.take cs0.length=cs0.map (bS (rhW p k0 k1 kd kt kf k3 nm s)):=by
 intro k o hk;have hsl:∀ {q a b:Nat},q<2000→CR 2000 (.slice (some ⟨q,0,none⟩) a b):=fun hq=>⟨hq,fun h=>by cases h⟩;rcases E6 (a8 hk) with ⟨rfl,rfl⟩|⟨rfl,rfl⟩|⟨rfl,rfl⟩|⟨rfl,rfl⟩|⟨i,hi,h0,rfl,rfl⟩
 ·obtain⟨wr,g,sz,h1⟩:=hw.st;refine⟨by omega,false,1,_,rfl,by omega,(fun h=>by cases h),?_,wr,g,sz,_,h1,?_⟩
  ·unfold IA;exact List.forall_mem_cons.2 ⟨hsl (by omega),List.forall_mem_cons.2 ⟨hsl (by omega),List.forall_mem_cons.2 ⟨cG rfl,List.forall_mem_cons.2 ⟨hsl (by omega),List.forall_mem_cons.2 ⟨hsl (by omega),List.forall_mem_cons.2 ⟨aA2 (by omega),fun _ h=>(by cases h)⟩⟩⟩⟩⟩⟩
  ·show _=[_,_,_,_,_,bS _ (fcV 6 fo)];rw [TB];rfl
 ·obtain⟨wr,g,sz,cs,h1,h2⟩:=hw.da;exact⟨by omega,true,5,_,rfl,by omega,fun _=>aF rK D,fun v hv=>cG (a9 (aF rK D) hv),wr,g,sz,cs,h1,by rw [h2];exact (bL (aF rK D)).symm⟩
 ·obtain⟨wr,g,sz,h1⟩:=hw.tb;refine⟨by omega,false,1,_,rfl,by omega,(fun h=>by cases h),IJ (by omega) (by omega),wr,g,sz,_,h1,?_⟩;rw [show (tC s ls).length=((List.range ls.length).map fun i=>tV (nm i) (bK ls i)).length by rw [kW];simp,List.take_length];unfold tC;rw [List.map_map];refine List.map_congr_left fun i hi=>?_;show _=bS _ (tV (tN s i) (bK ls i));rw [D6,aES]
 ·obtain⟨wr,g,sz,cs,h1,h2⟩:=hw.pt;exact⟨by omega,true,2,_,rfl,by omega,fun _=>aF aQ l,fun v hv=>cG (a9 (aF aQ l) hv),wr,g,sz,cs,h1,by rw [h2];exact (bL (aF aQ l)).symm⟩
 ·obtain⟨wr,g,sz,cs,h1,h2⟩:=hw.li i hi h0;exact⟨aF3 (by omega),false,1,_,rfl,by omega,(fun h=>by cases h),fun v hv=>cG (a9 (aF aO _) hv),wr,g,sz,cs,by rw [aES];exact h1,by rw [h2];exact (bL (aF aO _)).symm⟩
theorem aAG {h:Heap}{p k0 k1 kd kt kf:Nat}{nm:Nat→Nat}{l:List Pt}{D:List Dt}{ls:List (List Int)}{nE c1 c2:Nat}{n:Int}{fo:Option (Nat × Nat)}(hw:vR h p k0 k1 kd kt kf nm l D ls nE c1 c2 n fo)(hn:ls.length≤1000)(s:Nat){r:List Value}(hr:eH r=true){nx:Nat} :
  In (.pointer (some ⟨0,0,none⟩)::r) (fZ l D ls nE c1 c2 n fo s) 2000 (.pointer (some ⟨p,0,none⟩)::r) h nx:=by
 refine tK (rhW p k0 k1 kd kt kf 0 nm s) ?_ ?_ (TQ hw hn s)
 ·rw [List.map_cons];congr 1
  conv=>lhs;rw [← List.map_id r]
  exact List.map_congr_left fun v hv=>by rw [gP,iA (bU hr hv)];rfl
 ·exact List.forall_mem_cons.2 ⟨⟨Nat.le_of_ble_eq_true rfl,rfl⟩,fun v hv=>dE (bU hr hv)⟩
theorem aE0 {h:Heap}{p k0 k1 kd kt kf k3:Nat}{nm:Nat→Nat}{l:List Pt}{D:List Dt}{ls:List (List Int)}{nE c1 c2:Nat}{n:Int}{fo:Option (Nat × Nat)}(hw:vR h p k0 k1 kd kt kf nm l D ls nE c1 c2 n fo)(hn:ls.length≤1000)(s:Nat){L:List Int}{c:Nat}
  (hL:∃ wr g sz cs,look h k3=some (.cells wr g sz cs)∧cs.take (flat aO.fl L).length=flat aO.fl L) {nx:Nat} :
  In [.pointer (some ⟨0,0,none⟩),.slice (some ⟨3,0,none⟩) L.length c] ((3,.cells false true 1 (flat aO.fl L))::fZ l D ls nE c1 c2 n fo s) 2000 [.pointer (some ⟨p,0,none⟩),.slice (some ⟨k3,0,none⟩) L.length c] h nx:=by
 refine tK (rhW p k0 k1 kd kt kf k3 nm s) rfl ?_ fun k o hk=>?_
 ·exact List.forall_mem_cons.2 ⟨⟨Nat.le_of_ble_eq_true rfl,rfl⟩,List.forall_mem_cons.2 ⟨⟨Nat.le_of_ble_eq_true rfl,fun h=>by cases h⟩,fun _ h=>(by cases h)⟩⟩
 ·rw [aD] at hk;split at hk
  ·rename_i hb;injection hk with hk;subst hk;have:=beq_true hb;subst this;obtain⟨wr,g,sz,cs,h1,h2⟩:=hL;exact⟨by omega,true,1,_,rfl,by omega,fun _=>aF aO L,fun v hv=>cG (a9 (aF aO L) hv),wr,g,sz,cs,h1,by rw [h2];exact (bL (aF aO L)).symm⟩
  ·exact TQ hw hn s k o hk
def wbX (s:List Pt→List Dt→List (List Int)→List Value→Option (Bool × Value)):XF:=fun args h nx K =>
 ∃ p r k0 k1 kd kt kf nm l D ls nE c1 c2 n fo,args=.pointer (some ⟨p,0,none⟩)::r∧vR h p k0 k1 kd kt kf nm l D ls nE c1 c2 n fo∧(match s l D ls r with|some pr=>dK pr.1 (K pr.2 h nx)|none=>False)
theorem Q7 {P:Program}{C:VC}{f:Nat}{s:List Pt→List Dt→List (List Int)→List Value→Option (Bool × Value)}(hC:bG P C)
  (hs:∀ l D ls r v,s l D ls r=some (true,v)→eH r=true∧gT v=true∧ls.length≤1000∧∃ s0,∀ nE c1 c2 n fo,C f (.pointer (some ⟨0,0,none⟩)::r) (fZ l D ls nE c1 c2 n fo s0) 2000 (fun u _ _=>u=v)):cO P f (wbX s):=by
 refine (gC (S:=fun args0 h0 n0 v1 h1 k=>∃ l D ls r s0 nE c1 c2 n fo,s l D ls r=some (true,v1)∧gT v1=true∧C f (.pointer (some ⟨0,0,none⟩)::r) (fZ l D ls nE c1 c2 n fo s0) 2000 (fun u _ _=>u=v1)∧args0=.pointer (some ⟨0,0,none⟩)::r∧h0=fZ l D ls nE c1 c2 n fo s0∧n0=2000∧h1=[]∧k=0) hC ?_).mono ?_ ?_
 ·rintro args0 h0 n0 v1 h1 k ⟨l,D,ls,r,s0,nE,c1,c2,n,fo,e1,e2,e3,rfl,rfl,rfl,rfl,rfl⟩;exact⟨rfl,_,e3,fun v h nx e=>by rw [e];exact kH e2⟩
 ·rintro args h nx K ⟨p,r,k0,k1,kd,kt,kf,nm,l,D,ls,nE,c1,c2,n,fo,rfl,hw,hx⟩;split at hx
  case h_2=>exact hx.elim
  rename_i pr e1;obtain⟨bb,u⟩:=pr;obtain⟨rfl,hx⟩:=aG.1 hx;obtain⟨a1,a2,a3,s0,a4⟩:=hs l D ls r u e1;refine⟨_,_,2000,u,[],0,⟨l,D,ls,r,s0,nE,c1,c2,n,fo,e1,a2,a4 nE c1 c2 n fo,rfl,rfl,rfl,rfl,rfl⟩,aAG hw a3 s0 a1,?_⟩;simp only [o5,sL,mU,lD,m0 a2,Nat.add_zero];exact hx
 ·rintro args h nx K ⟨p,r,k0,k1,kd,kt,kf,nm,l,D,ls,nE,c1,c2,n,fo,rfl,hw,hx⟩;split at hx
  case h_2=>exact hx.elim
  rename_i pr e1;obtain⟨hb,hx⟩:=aG.1 hx;exact⟨pr.2,h,nx,hx,fun K' hk=>⟨p,r,k0,k1,kd,kt,kf,nm,l,D,ls,nE,c1,c2,n,fo,rfl,hw,by rw [e1];exact aJ hb hk⟩⟩
end Go.Aw
end

noncomputable section
namespace Go.Aw
set_option maxRecDepth 100000
set_option maxHeartbeats 2000000
def BZ (xl:List (Nat × XF)):CM:={ aA with X:=look xl,M:=2 }
theorem aCM {xl:List (Nat × XF)}(h:kM xl):pU Go.Proofs.Tryz.prog (BZ xl) where
 ar:=gE.ar
 tab:=gE.tab
 mixed:=gE.mixed
 funcs:=gE.funcs
 xs:=h.look
def eY (d:Int):Int:=if d % 2=0 then d+1 else d - 1
def RF (D:List Dt)(ls:List (List Int))(d:Int):List Int:=bK ls (cA D d.toNat).tt.toNat
def A8 (D:List Dt)(ls:List (List Int))(d:Int):Int:=aM (RF D ls d) ((qV (eY d) (RF D ls d) 0 - 1+(RF D ls d).length) % (RF D ls d).length).toNat
def nxB (D:List Dt)(ls:List (List Int))(d:Int):Bool:=decide (0≤d)&&decide (d<D.length)&&decide (D.length≤1000)&&decide (ls.length≤1000)&&(decide (0≤(cA D d.toNat).tt)&&decide ((cA D d.toNat).tt<ls.length)) &&
 (decide (0≤qV (eY d) (RF D ls d) 0)&&decide (qV (eY d) (RF D ls d) 0<(RF D ls d).length)&&decide ((RF D ls d).length≤1000))
def nxS (l:List Pt)(D:List Dt)(ls:List (List Int)):List Value→Option (Bool × Value)
 |[.int .i64 d]=>some (nxB D ls d,iv (A8 D ls d))
 |_=>none
theorem S7 (m:List Dt){i o:Nat}(hi:i<m.length)(ho:o=i*5+4):nth (flat rK.fl m) o=some (iv (cA m i).tt):=by
 rw [pC hi];exact lL rK m hi (k:=4) rfl (by decide) (by rw [ho];rfl)
theorem aIN (m:List Dt){i o:Nat}(hi:i<m.length)(ho:o=i*5+3):nth (flat rK.fl m) o=some (iv (cA m i).fr):=by
 rw [pC hi];exact lL rK m hi (k:=3) rfl (by decide) (by rw [ho];rfl)
theorem aLH (n:Nat):n ^^^ 1=if n % 2=0 then n+1 else n - 1:=by
 have h1:(n ^^^ 1) / 2=n / 2:=(by rw [Nat.xor_div_two];simp);have h2:(n ^^^ 1) % 2=(n % 2) ^^^ 1:=Nat.xor_mod_two_pow (n:=1);split
 ·rename_i h;rw [h] at h2;have:(0:Nat) ^^^ 1=1:=rfl;omega
 ·rename_i h;rw [show n % 2=1 by omega] at h2;have:(1:Nat) ^^^ 1=0:=rfl;omega
theorem aM4 {d:Int}(h:0≤d):((d.toNat ^^^ 1:Nat):Int)=eY d:=by
 rw [aLH];unfold eY;split <;> split <;> omega
def aHm:Nat × XF:=(78,wbX nxS)
theorem aKY:cO Go.Proofs.Tryz.prog aHm.1 aHm.2:=Q7 (nW (aCM (xl:=[sR]) (.cons aJg .nil)) 5).1 fun l D ls r v hs=>by
 have:∃ d,r=[iv d]∧nxB D ls d=true∧v=iv (A8 D ls d):=by
  unfold nxS at hs;split at hs
  ·rename_i d;injection hs with hs;injection hs with h1 h2;exact⟨d,rfl,h1,h2.symm⟩
  ·cases hs
 obtain⟨d,rfl,hB,rfl⟩:=this;clear hs;unfold nxB at hB;simp only [Bool.and_eq_true,decide_eq_true_eq] at hB;obtain⟨⟨⟨⟨⟨h1,h2⟩,h3⟩,h4⟩,h5,h6⟩,⟨h7,h8⟩,h9⟩:=hB;refine⟨rfl,rfl,h4,(cA D d.toNat).tt.toNat,fun nE c1 c2 n fo=>?_⟩;have hnn:A8 D ls d=aM (RF D ls d) ((qV (eY d) (RF D ls d) 0 - 1+(RF D ls d).length) % (RF D ls d).length).toNat:=rfl;generalize A8 D ls d=X at hnn ⊢;unfold RF at h7 h8 h9 hnn;generalize hs:(cA D d.toNat).tt.toNat=s at h7 h8 h9 hnn ⊢;have h0:(bK ls s).length≠0:=(by omega);have ho7:WG (bK ls s)=[(7,.cells true false 1 (flat aO.fl (bK ls s)))]:=if_neg h0;generalize hq:(bK ls s).length=q at *;have hvv:tV (tN s s) (bK ls s)=.slice (some ⟨7,0,none⟩) q q:=(by rw [tV,if_neg (by omega),tN,if_pos rfl,hq]);have key:∀ o,o=s*1→nth (tC s ls) o=some (.slice (some ⟨7,0,none⟩) q q):=fun o ho=>(by rw [GR (by omega) ho,hvv]);unfold fZ IA;rw [ho7]
 repeat' first
  |(((conv=>whnf);refine bm (fun g=>?_) (fun g=>?_)))
  |((conv=>whnf)
    refine iB (S7 D (i:=d.toNat) (by omega) ?_) ?_
    ·show _+Int.toNat d*5+4=_;omega)
  |((conv=>whnf)
    refine iB (key _ ?_) ?_
    ·show _+Int.toNat (cA D d.toNat).tt*1=_;omega)
 all_goals first
  |(exfalso;simp [BZ,aA,aC,vA] at g;omega)
  |skip
 (conv=>whnf);refine⟨bK ls s,⟨hq.symm,_,_,_,_,rfl,by rw [List.drop_zero,List.take_length]⟩,?_⟩;((conv=>whnf);refine bm (fun g1=>?_) (fun g1=>?_))
 ·have hxo:(BZ [sR]).A.num ((BZ [sR]).A.bit BinOp.xor ((BZ [sR]).A.toN d) ((BZ [sR]).A.toN 1))=eY d:=aM4 h1;generalize (BZ [sR]).A.num ((BZ [sR]).A.bit BinOp.xor ((BZ [sR]).A.toN d) ((BZ [sR]).A.toN 1))=bk at hxo;subst hxo;generalize qV (eY d) (bK ls s) 0=a at h7 h8 hnn;have hix:0≤(a - 1+(q:Int)).tmod q∧(a - 1+(q:Int)).tmod q<q∧(a - 1+(q:Int)).tmod q=(a - 1+(q:Int)) % q:=by
   have e:(a - 1+(q:Int)).tmod q=(a - 1+(q:Int)) % q:=Int.tmod_eq_emod_of_nonneg (by omega);rw [e];exact⟨Int.emod_nonneg _ (by omega),Int.emod_lt_of_pos _ (by omega),rfl⟩
  have hget:∀ o,o=((a - 1+(q:Int)).tmod q).toNat*1→nth (flat aO.fl (bK ls s)) o=some (iv X):=fun o ho=>by
   rw [fN (bK ls s) (i:=((a - 1+(q:Int)).tmod q).toNat) (by omega) ho,hnn,hix.2.2]
  generalize hz:(a - 1+(q:Int)).tmod q=z at hix hget
  repeat' first
   |(((conv=>whnf);refine bm (fun g=>?_) (fun g=>?_)))
   |((conv=>whnf)
     refine iB (hget _ ?_) ?_
     ·show _+Int.toNat ((a - 1+(q:Int)).tmod q)*1=_;rw [hz];omega)
  all_goals first
   |(exfalso;simp [BZ,aA,aC,aH] at g;omega)
   |(exfalso
     have g:(decide (0≤(a - 1+(q:Int)).tmod q)&&decide ((a - 1+(q:Int)).tmod q<q))=false:=g;rw [hz] at g;simp at g;omega)
   |(exfalso
     rename_i g4 g3 g2;simp [BZ,aA,aC] at g2 g3 g4;omega)
   |(conv=>whnf)
 ·have g1:decide ((bK ls s).length≤1000000)=false:=g1;exact absurd g1 (by rw [decide_eq_true (by omega)];decide)
end Go.Aw
end
