/-
  Parts of a proof. No condition.
-/
import Derived.Test.YtjahkcbdecgbhaaGreatQBb
set_option linter.unusedSimpArgs false
set_option linter.unusedVariables false
noncomputable section
namespace Go.Aw
set_option maxRecDepth 100000
set_option maxHeartbeats 4000000
def GN (N:Nat)(j:Int):List (Nat × Value):=[(3,.pointer (some ⟨3,0,none⟩)),(118,.slice (some ⟨5,0,none⟩) N N),(119,iv N),(120,iv j)]
theorem aNf (l:List Pt)(m:List Ed)(n:Int)(c1 c2:Nat)(hok:cX l m n=true):body [(160,RH (H3 1000))] 153 [aF l.length m.length c1 c2 n] (aD aP aS l m) 2 (fun v h nx=>F8 (.pointer (some ⟨4,0,none⟩)) (Z4 l m c1 c2 n (2*m.length) (aR l m m.length) (outs l m)) 2000 v h nx):=by
 have hsz:l.length≤400∧3≤m.length∧m.length≤400:=by
  simp only [cX,YP,Bool.and_eq_true,decide_eq_true_eq] at hok;omega
 obtain⟨hl,hm3,hm⟩:=hsz;have hM:oG l m=true:=by
  simp only [cX,Bool.and_eq_true] at hok;exact M4 (by omega) (by omega) (fun i hi=>fG hok.2.1 hi) (fun i hi=>fG hok.2.2.1 hi)
 (conv=>whnf);refine⟨aK2 l m n c1 c2,aEY aGV yW (XW l m n c1 c2 hl).h,?_⟩;rintro e h nx ⟨rfl,rfl,rfl⟩;unfold O8 sC aD;(conv=>whnf);refine⟨fun q e h nx=>∃ (i:Nat) (j:Int),j=i∧i≤m.length∧q=m.length - i∧e=z7 m c2 j∧((i=0∧h=sC l m c1 c2 n∧nx=6)∨(0<i∧(∃ k,k=2*i∧h=yZ l m c1 c2 n k (aR l m i))∧nx=7)),⟨m.length,?_⟩,?_⟩
 ·refine aM (e0:=z7 m c2 0) (h0:=sC l m c1 c2 n) (n0:=6) ⟨0,0,rfl,Nat.zero_le _,rfl,rfl,.inl ⟨rfl,rfl,rfl⟩⟩ ?_ ?_ (by decide)
  ·unfold z7;((repeat' refine iE rfl rfl ?_);exact iN)
  ·unfold sC aY aD qQ aQ;refine List.forall_mem_cons.2 ⟨⟨Nat.le_of_ble_eq_true rfl,_,rfl,aO (SN _)⟩,?_⟩;((repeat'(first|refine iF rfl rfl ?_|refine iC rfl rfl rfl ?_|refine iJ rfl rfl rfl rfl ?_));exact iN)
 ·rintro q e h nx ⟨i,j,hj,hi,rfl,rfl,⟨hi0,rfl,rfl⟩|⟨hip,⟨k,hk,rfl⟩,rfl⟩⟩
  ·subst hi0;unfold z7 sC aY aD qQ;((conv=>whnf);refine bm (fun h1=>?_) (fun h1=>?_))
   ·have he:=pJ hM (i:=0) (by omega);have pa:=rM hok (i:=(cO m 0).a.toNat) (by omega);have pb:=rM hok (i:=(cO m 0).b.toNat) (by omega)
    repeat' first
     |(((conv=>whnf);refine bm (fun g=>?_) (fun g=>?_)))
     |((conv=>whnf)
       refine nV (BS m (i:=0) (by omega) ?_) ?_
       ·show _+Int.toNat j*5=_;omega)
     |((conv=>whnf)
       refine nV (jO l (i:=(cO m 0).a.toNat) (by omega) ?_) ?_
       ·show _+Int.toNat (cO m 0).a*2=_;omega)
     |((conv=>whnf)
       refine nV (jO l (i:=(cO m 0).b.toNat) (by omega) ?_) ?_
       ·show _+Int.toNat (cO m 0).b*2=_;omega)
    all_goals first
     |(exfalso;simp [aA,aB,aI] at g;omega)
     |(exfalso;simp [aA,aB] at g;rw [g] at hm3;simp at hm3)
     |skip
    (conv=>whnf);refine⟨m.length - 1,by omega,?_⟩;refine yU (e0:=z7 m c2 (j+1)) (h0:=yZ l m c1 c2 n 2 (aR l m 1)) (n0:=7) [(6,10)] ⟨1,_,by omega,by omega,rfl,rfl,.inr ⟨Nat.one_pos,⟨2,rfl,rfl⟩,rfl⟩⟩ ?_ ?_ ?_ (by decide) (by decide)
    ·unfold z7;((repeat' refine iE rfl rfl ?_);exact iN)
    ·unfold yZ aY aD qQ;refine List.forall_mem_cons.2 ⟨⟨Nat.le_of_ble_eq_true rfl,_,rfl,aZ (aG _ _) (by subst hj;rfl)⟩,List.forall_mem_cons.2 ⟨⟨Nat.le_of_ble_eq_true rfl,_,rfl,aO (SN _)⟩,?_⟩⟩;((repeat'(first|refine iF rfl rfl ?_|refine iC rfl rfl rfl ?_|refine iJ rfl rfl rfl rfl ?_));exact iN)
    ·show ∀ k∈[6,5,3,4,2,0,1],∀ k'∈[6,5,3,4,2,0,1],_;decide
   ·exfalso;simp [aA,aB] at h1;omega
  ·have hdl:=bI l m i;generalize hD:aR l m i=D at hdl;unfold z7 yZ aY aD qQ;((conv=>whnf);refine bm (fun h1=>?_) (fun h1=>?_))
   ·have hlt:i<m.length:=(by simp [aA,aB] at h1;omega);have he:=pJ hM (i:=i) (by omega);have pa:=rM hok (i:=(cO m i).a.toNat) (by omega);have pb:=rM hok (i:=(cO m i).b.toNat) (by omega)
    repeat' first
     |((conv=>whnf)
       refine bm2 (k:=k) ?_)
     |(((conv=>whnf);refine bm (fun g=>?_) (fun g=>?_)))
     |((conv=>whnf)
       refine nV (BS m (i:=i) (by omega) ?_) ?_
       ·show _+Int.toNat j*5=_;omega)
     |((conv=>whnf)
       refine nV (jO l (i:=(cO m i).a.toNat) (by omega) ?_) ?_
       ·show _+Int.toNat (cO m i).a*2=_;omega)
     |((conv=>whnf)
       refine nV (jO l (i:=(cO m i).b.toNat) (by omega) ?_) ?_
       ·show _+Int.toNat (cO m i).b*2=_;omega)
    all_goals first
     |(exfalso;simp [aA,aB,aI] at g;omega)
     |(exfalso;simp [aA,aB] at g;rw [g] at hm3;simp at hm3)
     |skip
    ·(conv=>whnf);refine⟨m.length - (i+1),by omega,?_⟩;refine yU (e0:=z7 m c2 (j+1)) (h0:=yZ l m c1 c2 n (k+2) (aR l m (i+1))) (n0:=7) [(6,11)] ⟨i+1,_,by omega,by omega,rfl,rfl,.inr ⟨by omega,⟨k+2,by omega,rfl⟩,rfl⟩⟩ ?_ ?_ ?_ (by decide) (by decide)
     ·unfold z7;((repeat' refine iE rfl rfl ?_);exact iN)
     ·unfold yZ aY aD qQ;refine List.forall_mem_cons.2 ⟨⟨Nat.le_of_ble_eq_true rfl,_,rfl,aZ (aG _ _) ?_⟩,List.forall_mem_cons.2 ⟨⟨Nat.le_of_ble_eq_true rfl,_,rfl,aO (SN _)⟩,?_⟩⟩
      ·rw [aR,hD];have hg:=RO pS D (dA l m i) (dB l m i) (n:=k) (by omega);rw [← hg];unfold dA dB;rw [← hj];rfl
      ·((repeat'(first|refine iF rfl rfl ?_|refine iC rfl rfl rfl ?_|refine iJ rfl rfl rfl rfl ?_));exact iN)
     ·show ∀ k∈[6,5,3,4,2,0,1],∀ k'∈[6,5,3,4,2,0,1],_;decide
    ·exact aFC (by rw [bD,hdl,hk];rfl) (by omega) g
   ·have hge:i=m.length:=(by simp [aA,aB] at h1;omega);have hDe:D=aR l m m.length:=(by rw [← hD,hge]);have hDk:D.length=k:=(by omega);clear hD hdl hip;(conv=>whnf);refine⟨fun q e h nx=>∃ (i:Nat) (j:Int),j=i∧i≤k∧q=k - i∧e=oX k j∧h=gK l m c1 c2 n k D (sD l.length D i) (qP l.length D i)∧nx=2000,⟨k,?_⟩,?_⟩
    ·refine aM (e0:=oX k 0) (h0:=gK l m c1 c2 n k D (sD l.length D 0) (qP l.length D 0)) (n0:=2000) ⟨0,0,rfl,Nat.zero_le _,rfl,rfl,rfl,rfl⟩ ?_ ?_ (by decide)
     ·unfold oX;((repeat' refine iE rfl rfl ?_);exact iN)
     ·rw [show qP l.length D 0=List.replicate l.length [] from rfl,aEc];unfold yZ aY aD qQ;refine List.forall_mem_cons.2 ⟨⟨Nat.le_of_ble_eq_true rfl,_,rfl,aO (aG _ _)⟩,List.forall_mem_cons.2 ⟨⟨Nat.le_of_ble_eq_true rfl,_,rfl,aO (SN _)⟩,?_⟩⟩;((repeat'(first|refine iF rfl rfl ?_|refine iC rfl rfl rfl ?_|refine iJ rfl rfl rfl rfl ?_));exact iN)
    ·rintro q e h nx ⟨i,j,hj,hi,rfl,rfl,rfl,rfl⟩;by_cases hlt:i<k
     ·have hf:=mM (l:=l) hM (i:=i) (by omega);rw [← hDe] at hf;have hol:=nY l.length D i;have hle:=DJ l.length D i (bY D i).fr.toNat fun i' hi'=>by
       have:=(mM (l:=l) hM (i:=i') (by omega));rw [← hDe] at this;omega
      have hnx:qP l.length D (i+1)=(qP l.length D i).set (bY D i).fr.toNat (bO (qP l.length D i) (bY D i).fr.toNat++[(bY D i).no]):=rfl;rw [show sD l.length D i=(bY D i).fr.toNat from if_pos (by omega)];generalize qP l.length D i=ls at hol hnx hle ⊢;generalize hs:(bY D i).fr.toNat=s at hnx hle ⊢;by_cases h0:(bO ls s).length=0
      ·have ho7:X8 (bO ls s)=[]:=if_pos h0;have hvv:tV (tN s s) (bO ls s)=aQ:=if_pos h0;have key:∀ o,o=s*1→nth (tC s ls) o=some aQ:=fun o ho=>(by rw [GL (by omega) ho,hvv]);unfold oX gK aY qQ;rw [ho7]
       repeat' first
        |(((conv=>whnf);refine bm (fun g=>?_) (fun g=>?_)))
        |((conv=>whnf)
          refine nV (aGC D (i:=i) (by omega) ?_) ?_
          ·show _+Int.toNat j*5=_;omega)
        |((conv=>whnf)
          refine gI (key _ ?_) ?_
          ·show _+Int.toNat (bY D i).fr*1=_;omega)
       all_goals first
        |(exfalso;simp [aA,aB,aI] at g;omega)
        |(exfalso;simp [aA,aB] at g;rw [g] at hm3;simp at hm3)
        |(exfalso
          have hb:Nat.ble (0+Int.toNat (bY D i).fr*1+1) (tC s ls).length=true:=Nat.ble_eq_true_of_le (by rw [lK];omega);exact Bool.false_ne_true (g.symm.trans hb))
        |skip
       (conv=>whnf);refine⟨k - (i+1),by omega,?_⟩;refine aFY (s:=s) (s':=sD l.length D (i+1)) (q:=1) (ls:=ls) (x:=(bY D i).no) (j:=j+1) (D:=D) (k:=k) (l:=l) (m:=m) (c1:=c1) (c2:=c2) (n:=n) (by omega) (by omega) ⟨i+1,j+1,by omega,by omega,rfl,rfl,congrArg (gK l m c1 c2 n k D (sD l.length D (i+1))) hnx.symm,rfl⟩ ?_ ?_ (by omega) ?_ ?_ ?_
       ·unfold oX;exact List.forall_mem_cons.2 ⟨rfl,List.forall_mem_cons.2 ⟨rfl,List.forall_mem_cons.2 ⟨rfl,List.forall_mem_cons.2 ⟨rfl,fun _ h=>(by cases h)⟩⟩⟩⟩
       ·unfold r8 aY qQ;exact List.forall_mem_cons.2 ⟨rfl,List.forall_mem_cons.2 ⟨rfl,List.forall_mem_cons.2 ⟨rfl,List.forall_mem_cons.2 ⟨rfl,List.forall_mem_cons.2 ⟨rfl,List.forall_mem_cons.2 ⟨rfl,fun _ h=>(by cases h)⟩⟩⟩⟩⟩⟩
       ·show some (aX.cells true false 1 (c8 (tC s ls) (0+Int.toNat (bY D i).fr*1) [.slice (some ⟨2002,0,none⟩) 1 1]))=_;rw [NZ (i:=s) (by omega) (by rw [lK];omega)]
       ·rw [List.eq_nil_of_length_eq_zero h0];rfl
       ·intro i1 a1 a2 a3
        repeat first
         |rw [jC _ _ (by omega)]
         |rw [jH _ _ (by omega)]
         |rw [bC (by omega)]
          |rw [c7,if_neg (by omega)]
        exact lB a2 a3 a1
      ·have ho7:X8 (bO ls s)=[(7,.cells true false 1 (flat aN.fl (bO ls s)))]:=if_neg h0;generalize hq:(bO ls s).length=q at h0 hle;have hvv:tV (tN s s) (bO ls s)=.slice (some ⟨7,0,none⟩) q q:=(by rw [tV,if_neg (by omega),tN,if_pos rfl,hq]);have hqk:q≤1000:=(by omega);have key:∀ o,o=s*1→nth (tC s ls) o=some (.slice (some ⟨7,0,none⟩) q q):=fun o ho=>(by rw [GL (by omega) ho,hvv]);unfold oX gK aY qQ;rw [ho7]
       repeat' first
        |((conv=>whnf)
          refine bm1 (k:=q) ?_)
        |(((conv=>whnf);refine bm (fun g=>?_) (fun g=>?_)))
        |((conv=>whnf)
          refine nV (aGC D (i:=i) (by omega) ?_) ?_
          ·show _+Int.toNat j*5=_;omega)
        |((conv=>whnf)
          refine gI (key _ ?_) ?_
          ·show _+Int.toNat (bY D i).fr*1=_;omega)
       all_goals first
        |(exfalso;simp [aA,aB,aI] at g;omega)
        |(exfalso;simp [aA,aB] at g;rw [g] at hm3;simp at hm3)
        |(exfalso
          have hb:Nat.ble (0+Int.toNat (bY D i).fr*1+1) (tC s ls).length=true:=Nat.ble_eq_true_of_le (by rw [lK];omega);exact Bool.false_ne_true (g.symm.trans hb))
        |skip
       ·(conv=>whnf);refine⟨k - (i+1),by omega,?_⟩;refine aFY (s:=s) (s':=sD l.length D (i+1)) (q:=q+1) (ls:=ls) (x:=(bY D i).no) (j:=j+1) (D:=D) (k:=k) (l:=l) (m:=m) (c1:=c1) (c2:=c2) (n:=n) (by omega) (by omega) ⟨i+1,j+1,by omega,by omega,rfl,rfl,congrArg (gK l m c1 c2 n k D (sD l.length D (i+1))) hnx.symm,rfl⟩ ?_ ?_ (by omega) ?_ ?_ ?_
        ·unfold oX;exact List.forall_mem_cons.2 ⟨rfl,List.forall_mem_cons.2 ⟨rfl,List.forall_mem_cons.2 ⟨rfl,List.forall_mem_cons.2 ⟨rfl,fun _ h=>(by cases h)⟩⟩⟩⟩
        ·unfold r8 aY qQ;exact List.forall_mem_cons.2 ⟨rfl,List.forall_mem_cons.2 ⟨rfl,List.forall_mem_cons.2 ⟨rfl,List.forall_mem_cons.2 ⟨rfl,List.forall_mem_cons.2 ⟨rfl,List.forall_mem_cons.2 ⟨rfl,fun _ h=>(by cases h)⟩⟩⟩⟩⟩⟩
        ·show some (aX.cells true false 1 (c8 (tC s ls) (0+Int.toNat (bY D i).fr*1) [.slice (some ⟨2002,0,none⟩) (q+1) (q+1)]))=_;rw [NZ (i:=s) (by omega) (by rw [lK];omega)]
        ·have hg:=eL aN (bO ls s) (bY D i).no (n:=q) hq.symm;unfold ob;rw [← hg];rfl
        ·intro i1 a1 a2 a3
         repeat first
          |rw [jC _ _ (by omega)]
          |rw [jH _ _ (by omega)]
          |rw [bC (by omega)]
          |rw [c7,if_neg (by omega)]
         show look ((7,_)::tH s ls ls.length) _=_;rw [bC (by omega)];exact lB a2 a3 a1
       ·exact nW (by rw [bD,hq];rfl) (by omega) g
     ·have hik:i=k:=(by omega);subst hik;clear hlt hi;rw [show sD l.length D i=l.length from if_neg (by omega)];have hol:=nY l.length D i;have hfr:∀ i',i'<i→(bY D i').fr.toNat<l.length∧(bY D i').no=i':=fun i' hi'=>by
       have:=(mM (l:=l) hM (i:=i') (by omega));rw [← hDe] at this;omega
      have hout:∀ s,s<l.length→(bO (qP l.length D i) s).length≠0∧(bO (qP l.length D i) s).length≤1000∧fH D (bO (qP l.length D i) s)=true:=fun s hs=>by
       refine⟨?_,?_,?_⟩
       ·rw [DN i hfr s,hDe,show i=2*m.length by omega];exact UX hok hs
       ·have:=DJ l.length D i s fun i' hi'=>(hfr i' hi').1;omega
       ·rw [DN i hfr s];refine List.all_eq_true.2 fun x hx=>?_;obtain⟨i',h1,rfl,_⟩:=KX hx;simp only [Bool.and_eq_true,decide_eq_true_eq];omega
      have hW:fW D=true:=(by rw [hDe];exact aBt hok hM);generalize hlsE:qP l.length D i=ls at hol hout ⊢;unfold oX gK aY qQ;((conv=>whnf);refine bm (fun h1=>?_) (fun h1=>?_))
      ·exfalso;simp [aA,aB] at h1;omega
      ·(conv=>whnf);refine⟨fun q e h nx=>∃ (t:Nat) (j:Int),j=t∧t≤l.length∧q=l.length - t∧e=GN l.length j∧h=gK l m c1 c2 n i D l.length (srN D ls t)∧nx=2000,⟨l.length,?_⟩,?_⟩
       ·refine OS (e0:=GN l.length 0) (ls:=srN D ls 0) (by rw [qW];omega) (by rw [qW];omega) ⟨0,0,rfl,Nat.zero_le _,rfl,rfl,rfl,rfl⟩ ?_ ?_ rfl ?_
        ·unfold GN;((repeat' refine iE rfl rfl ?_);exact iN)
        ·unfold r8 aY qQ;exact List.forall_mem_cons.2 ⟨rfl,List.forall_mem_cons.2 ⟨rfl,List.forall_mem_cons.2 ⟨rfl,List.forall_mem_cons.2 ⟨rfl,List.forall_mem_cons.2 ⟨rfl,List.forall_mem_cons.2 ⟨rfl,fun _ h=>(by cases h)⟩⟩⟩⟩⟩⟩
        ·intro i1 a1 a2;rw [lT (by omega)]
         repeat rw [bC (by omega)]
         exact lB (by have:=qW D ls 0;omega) a2 a1
       ·rintro q e h nx ⟨t,j,hj,ht,rfl,rfl,rfl,rfl⟩;have hsl:=qW D ls t;have hat:=TP D ls (i:=t) (by omega);have hnx:srN D ls (t+1)=(srN D ls t).set t (sN D 1000 (bO ls t)):=rfl;generalize hls':srN D ls t=ls' at hsl hat hnx ⊢;by_cases hlt:t<l.length
        ·obtain⟨o1,o2,o3⟩:=hout t hlt;have hA:bO ls' t=bO ls t:=(by rw [hat,if_neg (by omega)]);generalize hq:(bO ls t).length=q at o1 o2;have key:∀ o,o=t*1→nth (tC l.length ls') o=some (.slice (some ⟨t+1000,0,none⟩) q q):=fun o ho=>by
          rw [GL (by omega) ho,tV,hA,if_neg (by omega),tN,if_neg (by omega),hq]
         have ho7:X8 (bO ls' l.length)=[]:=lT (by omega);unfold GN gK aY qQ;rw [ho7]
         repeat' first
          |(((conv=>whnf);refine bm (fun g=>?_) (fun g=>?_)))
          |((conv=>whnf)
            refine gI (key _ ?_) ?_
            ·show _+Int.toNat j*1=_;omega)
         all_goals first
          |(exfalso;simp [aA,aB,aI] at g;omega)
          |skip
         (conv=>whnf);refine⟨t+1000,q,[],3,bO ls t,D,by rw [hq];rfl,?_,?_,?_,?_⟩
         ·repeat rw [bC (by omega)]
          rw [← hA];exact lB (by omega) (by rw [hA,hq];exact o1) (by omega)
         ·exact aV (aV (aV (aV (aV (aV (aV (MI _ _ _)))))))
         ·refine⟨4,6,0,1,true,false,1,[],true,false,1,[.slice (some ⟨5,0,none⟩) l.length l.length,aQ],true,false,5,flat pS.fl D,l.length,c1,m.length,c2,n,i,?_,?_,?_,?_⟩
          ·rw [c7,if_neg (by omega)];rfl
          ·rw [c7,if_neg (by omega),hDk];rfl
          ·rw [c7,if_neg (by omega)];rfl
          ·exact List.take_length
         ·rw [aFz (by rw [hq];exact o2) (by omega) o3 hW];refine aJ rfl ?_;((conv=>whnf);refine bm (fun g2=>?_) (fun g2=>?_))
          ·(conv=>whnf);refine⟨l.length - (t+1),by omega,?_⟩;have hlen:∀ i1,(bO (ls'.set t (sN D 1000 (bO ls t))) i1).length=(bO ls' i1).length:=fun i1=>by
            rw [vL _ (by omega)];split
            ·rename_i e;rw [Q0,e,hA]
            ·rfl
           refine OS (e0:=GN l.length (j+1)) (ls:=ls'.set t (sN D 1000 (bO ls t))) (s:=l.length) (k:=i) (D:=D) (l:=l) (m:=m) (c1:=c1) (c2:=c2) (n:=n) (by rw [List.length_set];omega) (by rw [List.length_set];omega) ⟨t+1,j+1,by omega,by omega,rfl,rfl,congrArg (gK l m c1 c2 n i D l.length) hnx.symm,rfl⟩ ?_ ?_ ?_ ?_
           ·unfold GN;((repeat' refine iE rfl rfl ?_);exact iN)
           ·unfold r8 aY qQ;exact List.forall_mem_cons.2 ⟨rfl,List.forall_mem_cons.2 ⟨rfl,List.forall_mem_cons.2 ⟨rfl,List.forall_mem_cons.2 ⟨rfl,List.forall_mem_cons.2 ⟨rfl,List.forall_mem_cons.2 ⟨rfl,fun _ h=>(by cases h)⟩⟩⟩⟩⟩⟩
           ·rw [aBB (List.length_set) (fun i1 _=>hlen i1)];rfl
           ·intro i1 a1 a2;rw [List.length_set] at a1;rw [hlen] at a2;rw [vL _ (by omega)];by_cases e:i1=t
            ·rw [if_pos e,e,wR];rfl
            ·rw [if_neg e,jC _ _ (by omega)]
             repeat rw [bC (by omega)]
             exact lB (by omega) a2 a1
          ·exfalso;simp [aA,aB,aI] at g2;omega
        ·unfold GN gK aY qQ;((conv=>whnf);refine bm (fun h1=>?_) (fun h1=>?_))
         ·exfalso;simp [aA,aB] at h1;omega
         ·(conv=>whnf);have htt:t=l.length:=(by omega);subst htt;have hi2:i=2*m.length:=(by omega);refine aBe (k:=2*m.length) (D:=aR l m m.length) (ls:=outs l m) (s:=l.length) (by rw [fF];omega) (fF l m) ?_;unfold outs;rw [← hDe,← hi2,hlsE,hls'];rfl
end Go.Aw
end

noncomputable section
namespace Go.Aw
set_option maxRecDepth 100000
def gW:Value→Nat
 |.slice (some _) _ c=>c
 |_=>0
section
variable {α β:Type}(E:El α)(G:El β)
theorem RR {h:Heap}{nx:Nat}{v:Value}{l:List α}(hl:eO E h v l):In [.slice (some ⟨0,0,none⟩) l.length (gW v)] [(0,.cells false true E.sz (flat E.fl l))] 1 [v] h nx:=by
 unfold eO at hl;split at hl
 ·rename_i n c;obtain⟨rfl,rfl,rfl⟩:=hl;exact RQ rfl true E.sz E.pos
 ·rename_i k o n c;obtain⟨rfl,wr,g,sz,cs,hk,hcs⟩:=hl;exact aAH rfl hk hcs (aG E l) true E.sz E.pos
 ·exact hl.elim
theorem vM {p q:Value}{n:Int}{r:List Value}(hr:dW r=true){h:Heap}{nx:Nat}{l:List α}{m:List β}(hl:eO E h p l)(hm:eO G h q m) :
  In (aF l.length m.length (gW p) (gW q) n::r) (aD E G l m) 2 (mapA p q n::r) h nx :=
 aAb hr (TZ rfl rfl (RR (nx:=nx) E hl) (RR (nx:=nx) G hm) ⟨_,_,rfl,aG E l⟩ ⟨_,_,rfl,aG G m⟩) ⟨_,_,_,rfl⟩ ⟨_,_,_,rfl⟩
end
theorem AD (s:Nat)(ls:List (List Int)):∀ n,fN (tH s ls n)=true
 |0=>rfl
 |n+1=>by
  unfold tH;split
  ·exact AD s ls n
  ·exact AD s ls n
theorem T2 {l:List Pt}{m:List Ed}{c1 c2:Nat}{n:Int}{k:Nat}{D:List Dt}{ls:List (List Int)}:fN (Z4 l m c1 c2 n k D ls)=true:=AD _ _ _
def aDX (l:List Pt)(m:List Ed)(c1 c2:Nat)(n:Int):Heap:=Z4 l m c1 c2 n (2*m.length) (aR l m m.length) (outs l m)
def OZ:Nat × XF:=(153,fun args h nx K=>∃ l m n p q,args=[mapA p q n]∧eO aP h p l∧eO aS h q m∧cX l m n=true∧K (.pointer (some ⟨nx+4,0,none⟩)) (app (kQ nx (aDX l m (gW p) (gW q) n)) (eU h)) (nx+2000))
theorem aFL:cH Go.Proofs.Tryz.prog OZ.1 OZ.2:=by
 refine (gC (S:=fun args0 h0 n0 v1 h1 j=>∃ l m n c1 c2,cX l m n=true∧args0=[aF l.length m.length c1 c2 n]∧h0=aD aP aS l m∧n0=2∧v1=.pointer (some ⟨4,0,none⟩)∧h1=aDX l m c1 c2 n∧j=2000) (aL (xl:=[(160,RH (H3 1000))]) (.cons (aGJ 1000) .nil)) ?_).mono ?_ ?_
 ·rintro args0 h0 n0 v1 h1 j ⟨l,m,n,c1,c2,hok,rfl,rfl,rfl,rfl,rfl,rfl⟩;exact⟨T2,_,aNf l m n c1 c2 hok,fun v h nx e=>e⟩
 ·rintro args h nx K ⟨l,m,n,p,q,rfl,hl,hm,hok,hx⟩;exact⟨_,_,2,_,_,_,⟨l,m,n,gW p,gW q,hok,rfl,rfl,rfl,rfl,rfl,rfl⟩,vM aP aS rfl hl hm,hx⟩
 ·rintro args h nx K ⟨l,m,n,p,q,rfl,hl,hm,hok,hx⟩;exact⟨_,_,_,hx,fun K' hk=>⟨l,m,n,p,q,rfl,hl,hm,hok,hk⟩⟩
def rS (x:Int):List Int→Nat→Int
 |[],_=>-1
 |b::r,i=>if x=b then i else rS x r (i+1)
def aHn (l:List Int):List Value→Option (Bool × Value)
 |[.int .i64 x]=>some (decide (l.length≤1000000),iv (rS x l 0))
 |_=>none
theorem aAv {l:List Int}{r:List Value}{v:Value}(hs:aHn l r=some (true,v)):∃ x,r=[iv x]∧l.length≤1000000∧v=iv (rS x l 0):=by
 unfold aHn at hs;split at hs
 ·rename_i x;injection hs with hs;injection hs with h1 h2;exact⟨x,rfl,by simpa using h1,h2.symm⟩
 ·cases hs
def YQ (x:Int)(l:List Int)(c:Nat)(j:Int):List (Nat × Value):=[(0,.slice (some ⟨0,0,none⟩) l.length c),(1,iv x),(7,iv l.length),(8,iv j)]
def hIn (l:List Int):Heap:=[(0,.cells false true 1 (flat aN.fl l))]
def uH:Nat × XF:=(167,lX aN aHn)
theorem aJJ:cH Go.Proofs.Tryz.prog uH.1 uH.2:=PI aN (aL (xl:=[]) .nil) fun l r v hs=>by
 obtain⟨x,rfl,hlen,rfl⟩:=aAv hs;refine⟨rfl,rfl,fun c=>?_⟩;(conv=>whnf);refine⟨fun q e h nx=>∃ (i:Nat) (j:Int),j=i∧i≤l.length∧q=l.length - i∧rS x l 0=rS x (l.drop i) i∧e=YQ x l c j∧h=hIn l∧nx=1,⟨l.length,?_⟩,?_⟩
 ·refine aM (e0:=YQ x l c 0) (h0:=hIn l) (n0:=1) ⟨0,0,rfl,Nat.zero_le _,rfl,rfl,rfl,rfl,rfl⟩ ?_ ?_ (by decide)
  ·unfold YQ;((repeat' refine iE rfl rfl ?_);exact iN)
  ·unfold hIn;((repeat'(first|refine iF rfl rfl ?_|refine iC rfl rfl rfl ?_|refine iJ rfl rfl rfl rfl ?_));exact iN)
 ·rintro q e h nx ⟨i,j,hj,hi,rfl,hb,rfl,rfl,rfl⟩;unfold YQ hIn;((conv=>whnf);refine bm (fun h1=>?_) (fun h1=>?_))
  ·have hlt:i<l.length:=(by simp [aA,aB] at h1;omega);have hd:l.drop i=aK l i::l.drop (i+1):=(by rw [dR hlt];exact List.drop_eq_getElem_cons hlt);rw [hd,rS] at hb;((conv=>whnf);refine bm (fun h2=>?_) (fun h2=>?_))
   ·(conv=>whnf);refine gI (eK l (i:=i) hlt ?_) ?_
    ·show _+Int.toNat j*1=_;omega
    ((conv=>whnf);refine bm (fun h3=>?_) (fun h3=>?_))
    ·have h3:x=aK l i:=(by simpa [aA,aB] using h3);(conv=>whnf);rw [hb,if_pos h3,hj]
    ·have h3:¬ x=aK l i:=(by simpa [aA,aB] using h3);((conv=>whnf);refine bm (fun h4=>?_) (fun h4=>?_))
     ·(conv=>whnf);refine⟨l.length - (i+1),by omega,?_⟩;refine aM (e0:=YQ x l c (j+1)) (h0:=hIn l) (n0:=1) ⟨i+1,j+1,by omega,hlt,rfl,by rw [hb,if_neg h3],rfl,rfl,rfl⟩ ?_ ?_ (by decide)
      ·unfold YQ;((repeat' refine iE rfl rfl ?_);exact iN)
      ·unfold hIn;((repeat'(first|refine iF rfl rfl ?_|refine iC rfl rfl rfl ?_|refine iJ rfl rfl rfl rfl ?_));exact iN)
     ·exfalso;simp [aA,aB,aI] at h4;omega
   ·exfalso;simp [aA,aB] at h2;omega
  ·have hge:l.length≤i:=(by simp [aA,aB] at h1;omega);(conv=>whnf);rw [hb,List.drop_eq_nil_of_le hge];rfl
def fcV (k:Nat):Option (Nat × Nat)→Value
 |none=>aQ
 |some (a,b)=>.slice (some ⟨k,0,none⟩) a b
theorem VO {ρ:Nat→Nat}{k:Nat}{o:Option (Nat × Nat)}:bP ρ (fcV k o)=fcV (ρ k) o:=by
 cases o with
 |none=>rfl
 |some p=>rfl
theorem aBQ {k n:Nat}{o:Option (Nat × Nat)}(h:k<n):B3 n (fcV k o):=by
 cases o with
 |none=>exact cL rfl
 |some p=>exact⟨h,fun h=>by cases h⟩
def xO (k0 k1 kd kt kf:Nat)(nP nE nD nL c1 c2:Nat)(n:Int)(fo:Option (Nat × Nat)):List Value :=
 [.slice (some ⟨k0,0,none⟩) nP c1,.slice (some ⟨k1,0,none⟩) nE c2,iv n,.slice (some ⟨kd,0,none⟩) nD nD,.slice (some ⟨kt,0,none⟩) nL nL,fcV kf fo]
structure wP (h:Heap) (p k0 k1 kd kt kf:Nat) (nm:Nat→Nat) (l:List Pt) (D:List Dt) (ls:List (List Int)) (nE c1 c2:Nat) (n:Int) (fo:Option (Nat × Nat)):Prop where
 st:∃ wr g sz,look h p=some (.cells wr g sz (xO k0 k1 kd kt kf l.length nE D.length ls.length c1 c2 n fo))
 pt:∃ wr g sz cs,look h k0=some (.cells wr g sz cs)∧cs.take (flat aP.fl l).length=flat aP.fl l
 da:∃ wr g sz cs,look h kd=some (.cells wr g sz cs)∧cs.take (flat pS.fl D).length=flat pS.fl D
 tb:∃ wr g sz,look h kt=some (.cells wr g sz ((List.range ls.length).map fun i=>tV (nm i) (bO ls i)))
 li:∀ i,i<ls.length→(bO ls i).length≠0→∃ wr g sz cs,look h (nm i)=some (.cells wr g sz cs)∧cs.take (flat aN.fl (bO ls i)).length=flat aN.fl (bO ls i)
def fZ (l:List Pt)(D:List Dt)(ls:List (List Int))(nE c1 c2:Nat)(n:Int)(fo:Option (Nat × Nat))(s:Nat):Heap :=
 (0,.cells false false 1 (xO 4 5 1 2 6 l.length nE D.length ls.length c1 c2 n fo))::(1,.cells false true 5 (flat pS.fl D))::(2,.cells false false 1 (tC s ls))::(4,.cells false true 2 (flat aP.fl l))::(eU (X8 (bO ls s))++eU (tH s ls ls.length))
def rhW (p k0 k1 kd kt kf k3:Nat)(nm:Nat→Nat)(s:Nat)(k:Nat):Nat :=
 if 1000≤k then nm (k - 1000) else if k=0 then p else if k=1 then kd else if k=2 then kt else if k=3 then k3 else if k=4 then k0 else if k=5 then k1 else if k=6 then kf else nm s
theorem aGB {p k0 k1 kd kt kf k3:Nat}{nm:Nat→Nat}{s i:Nat}:rhW p k0 k1 kd kt kf k3 nm s (tN s i)=nm i:=by
 unfold tN;split
 ·rename_i e;rw [e];rfl
 ·unfold rhW;rw [if_pos (by omega),Nat.add_sub_cancel]
theorem JA {h:Heap}{k:Nat}{o:aX}(hm:(k,o)∈eU h):∃ o',(k,o')∈h∧o=o'.closed:=by
 induction h with
 |nil=>cases hm
 |cons x r ih =>
  obtain⟨j,q⟩:=x;unfold eU at hm;rcases List.mem_cons.1 hm with e|hm
  ·injection e with e1 e2;subst e1 e2;exact⟨q,.head _,rfl⟩
  ·obtain⟨o',h1,h2⟩:=ih hm;exact⟨o',.tail _ h1,h2⟩
theorem GA {l:List Pt}{D:List Dt}{ls:List (List Int)}{nE c1 c2:Nat}{n:Int}{fo:Option (Nat × Nat)}{s k:Nat}{o:aX}(h:(k,o)∈fZ l D ls nE c1 c2 n fo s) :
  (k=0∧o=.cells false false 1 (xO 4 5 1 2 6 l.length nE D.length ls.length c1 c2 n fo))∨(k=1∧o=.cells false true 5 (flat pS.fl D))∨(k=2∧o=.cells false false 1 (tC s ls))∨(k=4∧o=.cells false true 2 (flat aP.fl l)) ∨
  ∃ i,i<ls.length∧(bO ls i).length≠0∧k=tN s i∧o=.cells false false 1 (flat aN.fl (bO ls i)):=by
 unfold fZ at h;simp only [List.mem_cons,List.mem_append] at h;rcases h with h|h|h|h|h|h
 ·injection h with e1 e2;exact .inl ⟨e1,e2⟩
 ·injection h with e1 e2;exact .inr (.inl ⟨e1,e2⟩)
 ·injection h with e1 e2;exact .inr (.inr (.inl ⟨e1,e2⟩))
 ·injection h with e1 e2;exact .inr (.inr (.inr (.inl ⟨e1,e2⟩)))
 ·obtain⟨o',h1,h2⟩:=JA h;unfold X8 at h1;split at h1
  ·cases h1
  ·rename_i hc;simp only [List.mem_cons,List.not_mem_nil,or_false] at h1;injection h1 with e1 e2;subst e1 e2 h2;refine .inr (.inr (.inr (.inr ⟨s,?_,hc,by unfold tN;rw [if_pos rfl],rfl⟩)));refine Decidable.byContradiction fun hq=>hc ?_;unfold bO;rw [List.getD_eq_getElem?_getD,List.getElem?_eq_none (by omega)];rfl
 ·obtain⟨o',h1,h2⟩:=JA h;obtain⟨i,a1,a2,a3,a4⟩:=yA h1;injection a4 with e1 e2;subst e1 e2 h2;exact .inr (.inr (.inr (.inr ⟨i,a1,a3,by unfold tN;rw [if_neg a2],rfl⟩)))
theorem aGy {s i n:Nat}(h:i+1000<n):tN s i<n:=by
 unfold tN;split <;> omega
theorem LJ {h:Heap}{p k0 k1 kd kt kf k3:Nat}{nm:Nat→Nat}{l:List Pt}{D:List Dt}{ls:List (List Int)}{nE c1 c2:Nat}{n:Int}{fo:Option (Nat × Nat)}(hw:wP h p k0 k1 kd kt kf nm l D ls nE c1 c2 n fo)(hn:ls.length≤1000)(s:Nat) :
  ∀ k o,look (fZ l D ls nE c1 c2 n fo s) k=some o→k<2000∧∃ g sz cs0,o=.cells false g sz cs0∧sz≠0∧(g=true→dG cs0=true)∧(∀ v∈cs0,B3 2000 v)∧∃ wr g' sz' cs,look h (rhW p k0 k1 kd kt kf k3 nm s k)=some (.cells wr g' sz' cs)∧cs.take cs0.length=cs0.map (bP (rhW p k0 k1 kd kt kf k3 nm s)):=by
 intro k o hk;have hsl:∀ {q a b:Nat},q<2000→B3 2000 (.slice (some ⟨q,0,none⟩) a b):=fun hq=>⟨hq,fun h=>by cases h⟩;rcases GA (bA hk) with ⟨rfl,rfl⟩|⟨rfl,rfl⟩|⟨rfl,rfl⟩|⟨rfl,rfl⟩|⟨i,hi,h0,rfl,rfl⟩
 ·obtain⟨wr,g,sz,h1⟩:=hw.st;refine⟨by omega,false,1,_,rfl,by omega,(fun h=>by cases h),?_,wr,g,sz,_,h1,?_⟩
  ·unfold xO;exact List.forall_mem_cons.2 ⟨hsl (by omega),List.forall_mem_cons.2 ⟨hsl (by omega),List.forall_mem_cons.2 ⟨cL rfl,List.forall_mem_cons.2 ⟨hsl (by omega),List.forall_mem_cons.2 ⟨hsl (by omega),List.forall_mem_cons.2 ⟨aBQ (by omega),fun _ h=>(by cases h)⟩⟩⟩⟩⟩⟩
  ·show _=[_,_,_,_,_,bP _ (fcV 6 fo)];rw [VO];rfl
 ·obtain⟨wr,g,sz,cs,h1,h2⟩:=hw.da;exact⟨by omega,true,5,_,rfl,by omega,fun _=>aG pS D,fun v hv=>cL (aW (aG pS D) hv),wr,g,sz,cs,h1,by rw [h2];exact (bW (aG pS D)).symm⟩
 ·obtain⟨wr,g,sz,h1⟩:=hw.tb;refine⟨by omega,false,1,_,rfl,by omega,(fun h=>by cases h),JQ (by omega) (by omega),wr,g,sz,_,h1,?_⟩;rw [show (tC s ls).length=((List.range ls.length).map fun i=>tV (nm i) (bO ls i)).length by rw [lK];simp,List.take_length];unfold tC;rw [List.map_map];refine List.map_congr_left fun i hi=>?_;show _=bP _ (tV (tN s i) (bO ls i));rw [F9,aGB]
 ·obtain⟨wr,g,sz,cs,h1,h2⟩:=hw.pt;exact⟨by omega,true,2,_,rfl,by omega,fun _=>aG aP l,fun v hv=>cL (aW (aG aP l) hv),wr,g,sz,cs,h1,by rw [h2];exact (bW (aG aP l)).symm⟩
 ·obtain⟨wr,g,sz,cs,h1,h2⟩:=hw.li i hi h0;exact⟨aGy (by omega),false,1,_,rfl,by omega,(fun h=>by cases h),fun v hv=>cL (aW (aG aN _) hv),wr,g,sz,cs,by rw [aGB];exact h1,by rw [h2];exact (bW (aG aN _)).symm⟩
theorem aC4 {h:Heap}{p k0 k1 kd kt kf:Nat}{nm:Nat→Nat}{l:List Pt}{D:List Dt}{ls:List (List Int)}{nE c1 c2:Nat}{n:Int}{fo:Option (Nat × Nat)}(hw:wP h p k0 k1 kd kt kf nm l D ls nE c1 c2 n fo)(hn:ls.length≤1000)(s:Nat){r:List Value}(hr:dW r=true){nx:Nat} :
  In (.pointer (some ⟨0,0,none⟩)::r) (fZ l D ls nE c1 c2 n fo s) 2000 (.pointer (some ⟨p,0,none⟩)::r) h nx:=by
 refine xK (rhW p k0 k1 kd kt kf 0 nm s) ?_ ?_ (LJ hw hn s)
 ·rw [List.map_cons];congr 1
  conv=>lhs;rw [← List.map_id r]
  exact List.map_congr_left fun v hv=>by rw [iQ,gY (cB hr hv)];rfl
 ·exact List.forall_mem_cons.2 ⟨⟨Nat.le_of_ble_eq_true rfl,rfl⟩,fun v hv=>cY (cB hr hv)⟩
theorem aFp {h:Heap}{p k0 k1 kd kt kf k3:Nat}{nm:Nat→Nat}{l:List Pt}{D:List Dt}{ls:List (List Int)}{nE c1 c2:Nat}{n:Int}{fo:Option (Nat × Nat)}(hw:wP h p k0 k1 kd kt kf nm l D ls nE c1 c2 n fo)(hn:ls.length≤1000)(s:Nat){L:List Int}{c:Nat}
  (hL:∃ wr g sz cs,look h k3=some (.cells wr g sz cs)∧cs.take (flat aN.fl L).length=flat aN.fl L) {nx:Nat} :
  In [.pointer (some ⟨0,0,none⟩),.slice (some ⟨3,0,none⟩) L.length c] ((3,.cells false true 1 (flat aN.fl L))::fZ l D ls nE c1 c2 n fo s) 2000 [.pointer (some ⟨p,0,none⟩),.slice (some ⟨k3,0,none⟩) L.length c] h nx:=by
 refine xK (rhW p k0 k1 kd kt kf k3 nm s) rfl ?_ fun k o hk=>?_
 ·exact List.forall_mem_cons.2 ⟨⟨Nat.le_of_ble_eq_true rfl,rfl⟩,List.forall_mem_cons.2 ⟨⟨Nat.le_of_ble_eq_true rfl,fun h=>by cases h⟩,fun _ h=>(by cases h)⟩⟩
 ·rw [aE] at hk;split at hk
  ·rename_i hb;injection hk with hk;subst hk;have:=beq_true hb;subst this;obtain⟨wr,g,sz,cs,h1,h2⟩:=hL;exact⟨by omega,true,1,_,rfl,by omega,fun _=>aG aN L,fun v hv=>cL (aW (aG aN L) hv),wr,g,sz,cs,h1,by rw [h2];exact (bW (aG aN L)).symm⟩
  ·exact LJ hw hn s k o hk
def wbX (s:List Pt→List Dt→List (List Int)→List Value→Option (Bool × Value)):XF:=fun args h nx K =>
 ∃ p r k0 k1 kd kt kf nm l D ls nE c1 c2 n fo,args=.pointer (some ⟨p,0,none⟩)::r∧wP h p k0 k1 kd kt kf nm l D ls nE c1 c2 n fo∧(match s l D ls r with|some pr=>dJ pr.1 (K pr.2 h nx)|none=>False)
theorem SS {P:Program}{C:VC}{f:Nat}{s:List Pt→List Dt→List (List Int)→List Value→Option (Bool × Value)}(hC:bH P C)
  (hs:∀ l D ls r v,s l D ls r=some (true,v)→dW r=true∧gT v=true∧ls.length≤1000∧∃ s0,∀ nE c1 c2 n fo,C f (.pointer (some ⟨0,0,none⟩)::r) (fZ l D ls nE c1 c2 n fo s0) 2000 (fun u _ _=>u=v)):cH P f (wbX s):=by
 refine (gC (S:=fun args0 h0 n0 v1 h1 k=>∃ l D ls r s0 nE c1 c2 n fo,s l D ls r=some (true,v1)∧gT v1=true∧C f (.pointer (some ⟨0,0,none⟩)::r) (fZ l D ls nE c1 c2 n fo s0) 2000 (fun u _ _=>u=v1)∧args0=.pointer (some ⟨0,0,none⟩)::r∧h0=fZ l D ls nE c1 c2 n fo s0∧n0=2000∧h1=[]∧k=0) hC ?_).mono ?_ ?_
 ·rintro args0 h0 n0 v1 h1 k ⟨l,D,ls,r,s0,nE,c1,c2,n,fo,e1,e2,e3,rfl,rfl,rfl,rfl,rfl⟩;exact⟨rfl,_,e3,fun v h nx e=>by rw [e];exact kD e2⟩
 ·rintro args h nx K ⟨p,r,k0,k1,kd,kt,kf,nm,l,D,ls,nE,c1,c2,n,fo,rfl,hw,hx⟩;split at hx
  case h_2=>exact hx.elim
  rename_i pr e1;obtain⟨bb,u⟩:=pr;obtain⟨rfl,hx⟩:=aH.1 hx;obtain⟨a1,a2,a3,s0,a4⟩:=hs l D ls r u e1;refine⟨_,_,2000,u,[],0,⟨l,D,ls,r,s0,nE,c1,c2,n,fo,e1,a2,a4 nE c1 c2 n fo,rfl,rfl,rfl,rfl,rfl⟩,aC4 hw a3 s0 a1,?_⟩;simp only [mY,lD,kQ,j7,mA a2,Nat.add_zero];exact hx
 ·rintro args h nx K ⟨p,r,k0,k1,kd,kt,kf,nm,l,D,ls,nE,c1,c2,n,fo,rfl,hw,hx⟩;split at hx
  case h_2=>exact hx.elim
  rename_i pr e1;obtain⟨hb,hx⟩:=aH.1 hx;exact⟨pr.2,h,nx,hx,fun K' hk=>⟨p,r,k0,k1,kd,kt,kf,nm,l,D,ls,nE,c1,c2,n,fo,rfl,hw,by rw [e1];exact aJ hb hk⟩⟩
end Go.Aw
end

noncomputable section
namespace Go.Aw
set_option maxRecDepth 100000
set_option maxHeartbeats 2000000
def C6 (xl:List (Nat × XF)):C0:={ aA with X:=look xl,M:=2 }
theorem aF2 {xl:List (Nat × XF)}(h:nZ xl):o7 Go.Proofs.Tryz.prog (C6 xl) where
 ar:=fI.ar
 tab:=fI.tab
 mixed:=fI.mixed
 funcs:=fI.funcs
 xs:=h.look
def fK (d:Int):Int:=if d % 2=0 then d+1 else d - 1
def SI (D:List Dt)(ls:List (List Int))(d:Int):List Int:=bO ls (bY D d.toNat).tt.toNat
def yB (D:List Dt)(ls:List (List Int))(d:Int):Int:=aK (SI D ls d) ((rS (fK d) (SI D ls d) 0 - 1+(SI D ls d).length) % (SI D ls d).length).toNat
def nxB (D:List Dt)(ls:List (List Int))(d:Int):Bool:=decide (0≤d)&&decide (d<D.length)&&decide (D.length≤1000)&&decide (ls.length≤1000)&&(decide (0≤(bY D d.toNat).tt)&&decide ((bY D d.toNat).tt<ls.length)) &&
 (decide (0≤rS (fK d) (SI D ls d) 0)&&decide (rS (fK d) (SI D ls d) 0<(SI D ls d).length)&&decide ((SI D ls d).length≤1000))
def nxS (l:List Pt)(D:List Dt)(ls:List (List Int)):List Value→Option (Bool × Value)
 |[.int .i64 d]=>some (nxB D ls d,iv (yB D ls d))
 |_=>none
theorem VL (m:List Dt){i o:Nat}(hi:i<m.length)(ho:o=i*5+4):nth (flat pS.fl m) o=some (iv (bY m i).tt):=by
 rw [pC hi];exact l9 pS m hi (k:=4) rfl (by decide) (by rw [ho];rfl)
theorem aG5 (m:List Dt){i o:Nat}(hi:i<m.length)(ho:o=i*5+3):nth (flat pS.fl m) o=some (iv (bY m i).fr):=by
 rw [pC hi];exact l9 pS m hi (k:=3) rfl (by decide) (by rw [ho];rfl)
theorem aM0 (n:Nat):n ^^^ 1=if n % 2=0 then n+1 else n - 1:=by
 have h1:(n ^^^ 1) / 2=n / 2:=(by rw [Nat.xor_div_two];simp);have h2:(n ^^^ 1) % 2=(n % 2) ^^^ 1:=Nat.xor_mod_two_pow (n:=1);split
 ·rename_i h;rw [h] at h2;have:(0:Nat) ^^^ 1=1:=rfl;omega
 ·rename_i h;rw [show n % 2=1 by omega] at h2;have:(1:Nat) ^^^ 1=0:=rfl;omega
theorem aN5 {d:Int}(h:0≤d):((d.toNat ^^^ 1:Nat):Int)=fK d:=by
 rw [aM0];unfold fK;split <;> split <;> omega
def aIT:Nat × XF:=(78,wbX nxS)
theorem aLD:cH Go.Proofs.Tryz.prog aIT.1 aIT.2:=SS (j3 (aF2 (xl:=[uH]) (.cons aJJ .nil)) 5).1 fun l D ls r v hs=>by
 have:∃ d,r=[iv d]∧nxB D ls d=true∧v=iv (yB D ls d):=by
  unfold nxS at hs;split at hs
  ·rename_i d;injection hs with hs;injection hs with h1 h2;exact⟨d,rfl,h1,h2.symm⟩
  ·cases hs
 obtain⟨d,rfl,hB,rfl⟩:=this;clear hs;unfold nxB at hB;simp only [Bool.and_eq_true,decide_eq_true_eq] at hB;obtain⟨⟨⟨⟨⟨h1,h2⟩,h3⟩,h4⟩,h5,h6⟩,⟨h7,h8⟩,h9⟩:=hB;refine⟨rfl,rfl,h4,(bY D d.toNat).tt.toNat,fun nE c1 c2 n fo=>?_⟩;have hnn:yB D ls d=aK (SI D ls d) ((rS (fK d) (SI D ls d) 0 - 1+(SI D ls d).length) % (SI D ls d).length).toNat:=rfl;generalize yB D ls d=X at hnn ⊢;unfold SI at h7 h8 h9 hnn;generalize hs:(bY D d.toNat).tt.toNat=s at h7 h8 h9 hnn ⊢;have h0:(bO ls s).length≠0:=(by omega);have ho7:X8 (bO ls s)=[(7,.cells true false 1 (flat aN.fl (bO ls s)))]:=if_neg h0;generalize hq:(bO ls s).length=q at *;have hvv:tV (tN s s) (bO ls s)=.slice (some ⟨7,0,none⟩) q q:=(by rw [tV,if_neg (by omega),tN,if_pos rfl,hq]);have key:∀ o,o=s*1→nth (tC s ls) o=some (.slice (some ⟨7,0,none⟩) q q):=fun o ho=>(by rw [GL (by omega) ho,hvv]);unfold fZ xO;rw [ho7]
 repeat' first
  |(((conv=>whnf);refine bm (fun g=>?_) (fun g=>?_)))
  |((conv=>whnf)
    refine gI (VL D (i:=d.toNat) (by omega) ?_) ?_
    ·show _+Int.toNat d*5+4=_;omega)
  |((conv=>whnf)
    refine gI (key _ ?_) ?_
    ·show _+Int.toNat (bY D d.toNat).tt*1=_;omega)
 all_goals first
  |(exfalso;simp [C6,aA,aB,vY] at g;omega)
  |skip
 (conv=>whnf);refine⟨bO ls s,⟨hq.symm,_,_,_,_,rfl,by rw [List.drop_zero,List.take_length]⟩,?_⟩;((conv=>whnf);refine bm (fun g1=>?_) (fun g1=>?_))
 ·have hxo:(C6 [uH]).A.num ((C6 [uH]).A.bit BinOp.xor ((C6 [uH]).A.toN d) ((C6 [uH]).A.toN 1))=fK d:=aN5 h1;generalize (C6 [uH]).A.num ((C6 [uH]).A.bit BinOp.xor ((C6 [uH]).A.toN d) ((C6 [uH]).A.toN 1))=bk at hxo;subst hxo;generalize rS (fK d) (bO ls s) 0=a at h7 h8 hnn;have hix:0≤(a - 1+(q:Int)).tmod q∧(a - 1+(q:Int)).tmod q<q∧(a - 1+(q:Int)).tmod q=(a - 1+(q:Int)) % q:=by
   have e:(a - 1+(q:Int)).tmod q=(a - 1+(q:Int)) % q:=Int.tmod_eq_emod_of_nonneg (by omega);rw [e];exact⟨Int.emod_nonneg _ (by omega),Int.emod_lt_of_pos _ (by omega),rfl⟩
  have hget:∀ o,o=((a - 1+(q:Int)).tmod q).toNat*1→nth (flat aN.fl (bO ls s)) o=some (iv X):=fun o ho=>by
   rw [eK (bO ls s) (i:=((a - 1+(q:Int)).tmod q).toNat) (by omega) ho,hnn,hix.2.2]
  generalize hz:(a - 1+(q:Int)).tmod q=z at hix hget
  repeat' first
   |(((conv=>whnf);refine bm (fun g=>?_) (fun g=>?_)))
   |((conv=>whnf)
     refine gI (hget _ ?_) ?_
     ·show _+Int.toNat ((a - 1+(q:Int)).tmod q)*1=_;rw [hz];omega)
  all_goals first
   |(exfalso;simp [C6,aA,aB,aI] at g;omega)
   |(exfalso
     have g:(decide (0≤(a - 1+(q:Int)).tmod q)&&decide ((a - 1+(q:Int)).tmod q<q))=false:=g;rw [hz] at g;simp at g;omega)
   |(exfalso
     rename_i g4 g3 g2;simp [C6,aA,aB] at g2 g3 g4;omega)
   |(conv=>whnf)
 ·have g1:decide ((bO ls s).length≤1000000)=false:=g1;exact absurd g1 (by rw [decide_eq_true (by omega)];decide)
end Go.Aw
end
