/-
  Parts of a proof. No condition.
-/
import Derived.Test.YtjahkcbdecgbhaaGreatQAw
set_option linter.unusedSimpArgs false
set_option linter.unusedVariables false
noncomputable section
namespace Go.Aw
set_option maxRecDepth 100000
set_option maxHeartbeats 4000000
def FR (N:Nat)(j:Int):List (Nat × Value):=[(3,.pointer (some ⟨3,0,none⟩)),(118,.slice (some ⟨5,0,none⟩) N N),(119,iv N),(120,iv j)]
theorem aKo (l:List Pt)(m:List Ed)(n:Int)(c1 c2:Nat)(hok:dH l m n=true):body [(160,SJ (HR 1000))] 153 [aD l.length m.length c1 c2 n] (aH aZ aY l m) 2 (fun v h nx=>L6 (.pointer (some ⟨4,0,none⟩)) (XV l m c1 c2 n (2*m.length) (aV l m m.length) (outs l m)) 2000 v h nx):=by
 have hsz:l.length≤400∧3≤m.length∧m.length≤400:=by
  simp only [dH,szB,Bool.and_eq_true,decide_eq_true_eq] at hok;omega
 obtain⟨hl,hm3,hm⟩:=hsz;have hM:YT l m=true:=by
  simp only [dH,Bool.and_eq_true] at hok;exact QV (by omega) (by omega) (fun i hi=>fH hok.2.1 hi) (fun i hi=>fH hok.2.2.1 hi)
 (conv=>whnf);refine⟨aIH l m n c1 c2,aD9 aHe CO (W4 l m n c1 c2 hl).h,?_⟩;rintro e h nx ⟨rfl,rfl,rfl⟩;unfold N4 qM aH;(conv=>whnf);refine⟨fun q e h nx=>∃ (i:Nat) (j:Int),j=i∧i≤m.length∧q=m.length - i∧e=xU m c2 j∧((i=0∧h=qM l m c1 c2 n∧nx=6)∨(0<i∧(∃ k,k=2*i∧h=xI l m c1 c2 n k (aV l m i))∧nx=7)),⟨m.length,?_⟩,?_⟩
 ·refine cO (e0:=xU m c2 0) (h0:=qM l m c1 c2 n) (n0:=6) ⟨0,0,rfl,Nat.zero_le _,rfl,rfl,.inl ⟨rfl,rfl,rfl⟩⟩ ?_ ?_ (by decide)
  ·unfold xU;((repeat' refine iE rfl rfl ?_);exact iN)
  ·unfold qM bP aH pF aP;refine List.forall_mem_cons.2 ⟨⟨Nat.le_of_ble_eq_true rfl,_,rfl,aK (QP _)⟩,?_⟩;((repeat'(first|refine iF rfl rfl ?_|refine iC rfl rfl rfl ?_|refine iJ rfl rfl rfl rfl ?_));exact iN)
 ·rintro q e h nx ⟨i,j,hj,hi,rfl,rfl,⟨hi0,rfl,rfl⟩|⟨hip,⟨k,hk,rfl⟩,rfl⟩⟩
  ·subst hi0;unfold xU qM bP aH pF;((conv=>whnf);refine bm (fun h1=>?_) (fun h1=>?_))
   ·have he:=zH hM (i:=0) (by omega);have pa:=qA hok (i:=(cX m 0).a.toNat) (by omega);have pb:=qA hok (i:=(cX m 0).b.toNat) (by omega)
    repeat' first
     |(((conv=>whnf);refine bm (fun g=>?_) (fun g=>?_)))
     |((conv=>whnf)
       refine IF (YH m (i:=0) (by omega) ?_) ?_
       ·show _+Int.toNat j*5=_;omega)
     |((conv=>whnf)
       refine IF (uY l (i:=(cX m 0).a.toNat) (by omega) ?_) ?_
       ·show _+Int.toNat (cX m 0).a*2=_;omega)
     |((conv=>whnf)
       refine IF (uY l (i:=(cX m 0).b.toNat) (by omega) ?_) ?_
       ·show _+Int.toNat (cX m 0).b*2=_;omega)
    all_goals first
     |(exfalso;simp [aA,aF,aI] at g;omega)
     |(exfalso;simp [aA,aF] at g;rw [g] at hm3;simp at hm3)
     |skip
    (conv=>whnf);refine⟨m.length - 1,by omega,?_⟩;refine wX (e0:=xU m c2 (j+1)) (h0:=xI l m c1 c2 n 2 (aV l m 1)) (n0:=7) [(6,10)] ⟨1,_,by omega,by omega,rfl,rfl,.inr ⟨Nat.one_pos,⟨2,rfl,rfl⟩,rfl⟩⟩ ?_ ?_ ?_ (by decide) (by decide)
    ·unfold xU;((repeat' refine iE rfl rfl ?_);exact iN)
    ·unfold xI bP aH pF;refine List.forall_mem_cons.2 ⟨⟨Nat.le_of_ble_eq_true rfl,_,rfl,bG (aE _ _) (by subst hj;rfl)⟩,List.forall_mem_cons.2 ⟨⟨Nat.le_of_ble_eq_true rfl,_,rfl,aK (QP _)⟩,?_⟩⟩;((repeat'(first|refine iF rfl rfl ?_|refine iC rfl rfl rfl ?_|refine iJ rfl rfl rfl rfl ?_));exact iN)
    ·show ∀ k∈[6,5,3,4,2,0,1],∀ k'∈[6,5,3,4,2,0,1],_;decide
   ·exfalso;simp [aA,aF] at h1;omega
  ·have hdl:=bM l m i;generalize hD:aV l m i=D at hdl;unfold xU xI bP aH pF;((conv=>whnf);refine bm (fun h1=>?_) (fun h1=>?_))
   ·have hlt:i<m.length:=(by simp [aA,aF] at h1;omega);have he:=zH hM (i:=i) (by omega);have pa:=qA hok (i:=(cX m i).a.toNat) (by omega);have pb:=qA hok (i:=(cX m i).b.toNat) (by omega)
    repeat' first
     |((conv=>whnf)
       refine bm2 (k:=k) ?_)
     |(((conv=>whnf);refine bm (fun g=>?_) (fun g=>?_)))
     |((conv=>whnf)
       refine IF (YH m (i:=i) (by omega) ?_) ?_
       ·show _+Int.toNat j*5=_;omega)
     |((conv=>whnf)
       refine IF (uY l (i:=(cX m i).a.toNat) (by omega) ?_) ?_
       ·show _+Int.toNat (cX m i).a*2=_;omega)
     |((conv=>whnf)
       refine IF (uY l (i:=(cX m i).b.toNat) (by omega) ?_) ?_
       ·show _+Int.toNat (cX m i).b*2=_;omega)
    all_goals first
     |(exfalso;simp [aA,aF,aI] at g;omega)
     |(exfalso;simp [aA,aF] at g;rw [g] at hm3;simp at hm3)
     |skip
    ·(conv=>whnf);refine⟨m.length - (i+1),by omega,?_⟩;refine wX (e0:=xU m c2 (j+1)) (h0:=xI l m c1 c2 n (k+2) (aV l m (i+1))) (n0:=7) [(6,11)] ⟨i+1,_,by omega,by omega,rfl,rfl,.inr ⟨by omega,⟨k+2,by omega,rfl⟩,rfl⟩⟩ ?_ ?_ ?_ (by decide) (by decide)
     ·unfold xU;((repeat' refine iE rfl rfl ?_);exact iN)
     ·unfold xI bP aH pF;refine List.forall_mem_cons.2 ⟨⟨Nat.le_of_ble_eq_true rfl,_,rfl,bG (aE _ _) ?_⟩,List.forall_mem_cons.2 ⟨⟨Nat.le_of_ble_eq_true rfl,_,rfl,aK (QP _)⟩,?_⟩⟩
      ·rw [aV,hD];have hg:=P9 qQ D (dA l m i) (dB l m i) (n:=k) (by omega);rw [← hg];unfold dA dB;rw [← hj];rfl
      ·((repeat'(first|refine iF rfl rfl ?_|refine iC rfl rfl rfl ?_|refine iJ rfl rfl rfl rfl ?_));exact iN)
     ·show ∀ k∈[6,5,3,4,2,0,1],∀ k'∈[6,5,3,4,2,0,1],_;decide
    ·exact aCh (by rw [bJ,hdl,hk];rfl) (by omega) g
   ·have hge:i=m.length:=(by simp [aA,aF] at h1;omega);have hDe:D=aV l m m.length:=(by rw [← hD,hge]);have hDk:D.length=k:=(by omega);clear hD hdl hip;(conv=>whnf);refine⟨fun q e h nx=>∃ (i:Nat) (j:Int),j=i∧i≤k∧q=k - i∧e=nC k j∧h=fP l m c1 c2 n k D (sD l.length D i) (oZ l.length D i)∧nx=2000,⟨k,?_⟩,?_⟩
    ·refine cO (e0:=nC k 0) (h0:=fP l m c1 c2 n k D (sD l.length D 0) (oZ l.length D 0)) (n0:=2000) ⟨0,0,rfl,Nat.zero_le _,rfl,rfl,rfl,rfl⟩ ?_ ?_ (by decide)
     ·unfold nC;((repeat' refine iE rfl rfl ?_);exact iN)
     ·rw [show oZ l.length D 0=List.replicate l.length [] from rfl,aDc];unfold xI bP aH pF;refine List.forall_mem_cons.2 ⟨⟨Nat.le_of_ble_eq_true rfl,_,rfl,aK (aE _ _)⟩,List.forall_mem_cons.2 ⟨⟨Nat.le_of_ble_eq_true rfl,_,rfl,aK (QP _)⟩,?_⟩⟩;((repeat'(first|refine iF rfl rfl ?_|refine iC rfl rfl rfl ?_|refine iJ rfl rfl rfl rfl ?_));exact iN)
    ·rintro q e h nx ⟨i,j,hj,hi,rfl,rfl,rfl,rfl⟩;by_cases hlt:i<k
     ·have hf:=lK (l:=l) hM (i:=i) (by omega);rw [← hDe] at hf;have hol:=mO l.length D i;have hle:=DA l.length D i (bV D i).fr.toNat fun i' hi'=>by
       have:=(lK (l:=l) hM (i:=i') (by omega));rw [← hDe] at this;omega
      have hnx:oZ l.length D (i+1)=(oZ l.length D i).set (bV D i).fr.toNat (bK (oZ l.length D i) (bV D i).fr.toNat++[(bV D i).no]):=rfl;rw [show sD l.length D i=(bV D i).fr.toNat from if_pos (by omega)];generalize oZ l.length D i=ls at hol hnx hle ⊢;generalize hs:(bV D i).fr.toNat=s at hnx hle ⊢;by_cases h0:(bK ls s).length=0
      ·have ho7:XN (bK ls s)=[]:=if_pos h0;have hvv:tV (tN s s) (bK ls s)=aP:=if_pos h0;have key:∀ o,o=s*1→nth (tC s ls) o=some aP:=fun o ho=>(by rw [EB (by omega) ho,hvv]);unfold nC fP bP pF;rw [ho7]
       repeat' first
        |(((conv=>whnf);refine bm (fun g=>?_) (fun g=>?_)))
        |((conv=>whnf)
          refine IF (aFj D (i:=i) (by omega) ?_) ?_
          ·show _+Int.toNat j*5=_;omega)
        |((conv=>whnf)
          refine eP (key _ ?_) ?_
          ·show _+Int.toNat (bV D i).fr*1=_;omega)
       all_goals first
        |(exfalso;simp [aA,aF,aI] at g;omega)
        |(exfalso;simp [aA,aF] at g;rw [g] at hm3;simp at hm3)
        |(exfalso
          have hb:Nat.ble (0+Int.toNat (bV D i).fr*1+1) (tC s ls).length=true:=Nat.ble_eq_true_of_le (by rw [kD];omega);exact Bool.false_ne_true (g.symm.trans hb))
        |skip
       (conv=>whnf);refine⟨k - (i+1),by omega,?_⟩;refine aFl (s:=s) (s':=sD l.length D (i+1)) (q:=1) (ls:=ls) (x:=(bV D i).no) (j:=j+1) (D:=D) (k:=k) (l:=l) (m:=m) (c1:=c1) (c2:=c2) (n:=n) (by omega) (by omega) ⟨i+1,j+1,by omega,by omega,rfl,rfl,congrArg (fP l m c1 c2 n k D (sD l.length D (i+1))) hnx.symm,rfl⟩ ?_ ?_ (by omega) ?_ ?_ ?_
       ·unfold nC;exact List.forall_mem_cons.2 ⟨rfl,List.forall_mem_cons.2 ⟨rfl,List.forall_mem_cons.2 ⟨rfl,List.forall_mem_cons.2 ⟨rfl,fun _ h=>(by cases h)⟩⟩⟩⟩
       ·unfold qK bP pF;exact List.forall_mem_cons.2 ⟨rfl,List.forall_mem_cons.2 ⟨rfl,List.forall_mem_cons.2 ⟨rfl,List.forall_mem_cons.2 ⟨rfl,List.forall_mem_cons.2 ⟨rfl,List.forall_mem_cons.2 ⟨rfl,fun _ h=>(by cases h)⟩⟩⟩⟩⟩⟩
       ·show some (aT.cells true false 1 (dE (tC s ls) (0+Int.toNat (bV D i).fr*1) [.slice (some ⟨2002,0,none⟩) 1 1]))=_;rw [M6 (i:=s) (by omega) (by rw [kD];omega)]
       ·rw [List.eq_nil_of_length_eq_zero h0];rfl
       ·intro i1 a1 a2 a3
        repeat first
         |rw [gI _ _ (by omega)]
         |rw [iI _ _ (by omega)]
         |rw [bA (by omega)]
          |rw [cT,if_neg (by omega)]
        exact jW a2 a3 a1
      ·have ho7:XN (bK ls s)=[(7,.cells true false 1 (flat aL.fl (bK ls s)))]:=if_neg h0;generalize hq:(bK ls s).length=q at h0 hle;have hvv:tV (tN s s) (bK ls s)=.slice (some ⟨7,0,none⟩) q q:=(by rw [tV,if_neg (by omega),tN,if_pos rfl,hq]);have hqk:q≤1000:=(by omega);have key:∀ o,o=s*1→nth (tC s ls) o=some (.slice (some ⟨7,0,none⟩) q q):=fun o ho=>(by rw [EB (by omega) ho,hvv]);unfold nC fP bP pF;rw [ho7]
       repeat' first
        |((conv=>whnf)
          refine bm1 (k:=q) ?_)
        |(((conv=>whnf);refine bm (fun g=>?_) (fun g=>?_)))
        |((conv=>whnf)
          refine IF (aFj D (i:=i) (by omega) ?_) ?_
          ·show _+Int.toNat j*5=_;omega)
        |((conv=>whnf)
          refine eP (key _ ?_) ?_
          ·show _+Int.toNat (bV D i).fr*1=_;omega)
       all_goals first
        |(exfalso;simp [aA,aF,aI] at g;omega)
        |(exfalso;simp [aA,aF] at g;rw [g] at hm3;simp at hm3)
        |(exfalso
          have hb:Nat.ble (0+Int.toNat (bV D i).fr*1+1) (tC s ls).length=true:=Nat.ble_eq_true_of_le (by rw [kD];omega);exact Bool.false_ne_true (g.symm.trans hb))
        |skip
       ·(conv=>whnf);refine⟨k - (i+1),by omega,?_⟩;refine aFl (s:=s) (s':=sD l.length D (i+1)) (q:=q+1) (ls:=ls) (x:=(bV D i).no) (j:=j+1) (D:=D) (k:=k) (l:=l) (m:=m) (c1:=c1) (c2:=c2) (n:=n) (by omega) (by omega) ⟨i+1,j+1,by omega,by omega,rfl,rfl,congrArg (fP l m c1 c2 n k D (sD l.length D (i+1))) hnx.symm,rfl⟩ ?_ ?_ (by omega) ?_ ?_ ?_
        ·unfold nC;exact List.forall_mem_cons.2 ⟨rfl,List.forall_mem_cons.2 ⟨rfl,List.forall_mem_cons.2 ⟨rfl,List.forall_mem_cons.2 ⟨rfl,fun _ h=>(by cases h)⟩⟩⟩⟩
        ·unfold qK bP pF;exact List.forall_mem_cons.2 ⟨rfl,List.forall_mem_cons.2 ⟨rfl,List.forall_mem_cons.2 ⟨rfl,List.forall_mem_cons.2 ⟨rfl,List.forall_mem_cons.2 ⟨rfl,List.forall_mem_cons.2 ⟨rfl,fun _ h=>(by cases h)⟩⟩⟩⟩⟩⟩
        ·show some (aT.cells true false 1 (dE (tC s ls) (0+Int.toNat (bV D i).fr*1) [.slice (some ⟨2002,0,none⟩) (q+1) (q+1)]))=_;rw [M6 (i:=s) (by omega) (by rw [kD];omega)]
        ·have hg:=gQ aL (bK ls s) (bV D i).no (n:=q) hq.symm;unfold ob;rw [← hg];rfl
        ·intro i1 a1 a2 a3
         repeat first
          |rw [gI _ _ (by omega)]
          |rw [iI _ _ (by omega)]
          |rw [bA (by omega)]
          |rw [cT,if_neg (by omega)]
         show look ((7,_)::tH s ls ls.length) _=_;rw [bA (by omega)];exact jW a2 a3 a1
       ·exact sN (by rw [bJ,hq];rfl) (by omega) g
     ·have hik:i=k:=(by omega);subst hik;clear hlt hi;rw [show sD l.length D i=l.length from if_neg (by omega)];have hol:=mO l.length D i;have hfr:∀ i',i'<i→(bV D i').fr.toNat<l.length∧(bV D i').no=i':=fun i' hi'=>by
       have:=(lK (l:=l) hM (i:=i') (by omega));rw [← hDe] at this;omega
      have hout:∀ s,s<l.length→(bK (oZ l.length D i) s).length≠0∧(bK (oZ l.length D i) s).length≤1000∧eO D (bK (oZ l.length D i) s)=true:=fun s hs=>by
       refine⟨?_,?_,?_⟩
       ·rw [CE i hfr s,hDe,show i=2*m.length by omega];exact TI hok hs
       ·have:=DA l.length D i s fun i' hi'=>(hfr i' hi').1;omega
       ·rw [CE i hfr s];refine List.all_eq_true.2 fun x hx=>?_;obtain⟨i',h1,rfl,_⟩:=LU hx;simp only [Bool.and_eq_true,decide_eq_true_eq];omega
      have hW:fE D=true:=(by rw [hDe];exact aBY hok hM);generalize hlsE:oZ l.length D i=ls at hol hout ⊢;unfold nC fP bP pF;((conv=>whnf);refine bm (fun h1=>?_) (fun h1=>?_))
      ·exfalso;simp [aA,aF] at h1;omega
      ·(conv=>whnf);refine⟨fun q e h nx=>∃ (t:Nat) (j:Int),j=t∧t≤l.length∧q=l.length - t∧e=FR l.length j∧h=fP l m c1 c2 n i D l.length (srN D ls t)∧nx=2000,⟨l.length,?_⟩,?_⟩
       ·refine NK (e0:=FR l.length 0) (ls:=srN D ls 0) (by rw [pZ];omega) (by rw [pZ];omega) ⟨0,0,rfl,Nat.zero_le _,rfl,rfl,rfl,rfl⟩ ?_ ?_ rfl ?_
        ·unfold FR;((repeat' refine iE rfl rfl ?_);exact iN)
        ·unfold qK bP pF;exact List.forall_mem_cons.2 ⟨rfl,List.forall_mem_cons.2 ⟨rfl,List.forall_mem_cons.2 ⟨rfl,List.forall_mem_cons.2 ⟨rfl,List.forall_mem_cons.2 ⟨rfl,List.forall_mem_cons.2 ⟨rfl,fun _ h=>(by cases h)⟩⟩⟩⟩⟩⟩
        ·intro i1 a1 a2;rw [kP (by omega)]
         repeat rw [bA (by omega)]
         exact jW (by have:=pZ D ls 0;omega) a2 a1
       ·rintro q e h nx ⟨t,j,hj,ht,rfl,rfl,rfl,rfl⟩;have hsl:=pZ D ls t;have hat:=QS D ls (i:=t) (by omega);have hnx:srN D ls (t+1)=(srN D ls t).set t (qS D 1000 (bK ls t)):=rfl;generalize hls':srN D ls t=ls' at hsl hat hnx ⊢;by_cases hlt:t<l.length
        ·obtain⟨o1,o2,o3⟩:=hout t hlt;have hA:bK ls' t=bK ls t:=(by rw [hat,if_neg (by omega)]);generalize hq:(bK ls t).length=q at o1 o2;have key:∀ o,o=t*1→nth (tC l.length ls') o=some (.slice (some ⟨t+1000,0,none⟩) q q):=fun o ho=>by
          rw [EB (by omega) ho,tV,hA,if_neg (by omega),tN,if_neg (by omega),hq]
         have ho7:XN (bK ls' l.length)=[]:=kP (by omega);unfold FR fP bP pF;rw [ho7]
         repeat' first
          |(((conv=>whnf);refine bm (fun g=>?_) (fun g=>?_)))
          |((conv=>whnf)
            refine eP (key _ ?_) ?_
            ·show _+Int.toNat j*1=_;omega)
         all_goals first
          |(exfalso;simp [aA,aF,aI] at g;omega)
          |skip
         (conv=>whnf);refine⟨t+1000,q,[],3,bK ls t,D,by rw [hq];rfl,?_,?_,?_,?_⟩
         ·repeat rw [bA (by omega)]
          rw [← hA];exact jW (by omega) (by rw [hA,hq];exact o1) (by omega)
         ·exact aR (aR (aR (aR (aR (aR (aR (MH _ _ _)))))))
         ·refine⟨4,6,0,1,true,false,1,[],true,false,1,[.slice (some ⟨5,0,none⟩) l.length l.length,aP],true,false,5,flat qQ.fl D,l.length,c1,m.length,c2,n,i,?_,?_,?_,?_⟩
          ·rw [cT,if_neg (by omega)];rfl
          ·rw [cT,if_neg (by omega),hDk];rfl
          ·rw [cT,if_neg (by omega)];rfl
          ·exact List.take_length
         ·rw [aDw (by rw [hq];exact o2) (by omega) o3 hW];refine aJ rfl ?_;((conv=>whnf);refine bm (fun g2=>?_) (fun g2=>?_))
          ·(conv=>whnf);refine⟨l.length - (t+1),by omega,?_⟩;have hlen:∀ i1,(bK (ls'.set t (qS D 1000 (bK ls t))) i1).length=(bK ls' i1).length:=fun i1=>by
            rw [tB _ (by omega)];split
            ·rename_i e;rw [PH,e,hA]
            ·rfl
           refine NK (e0:=FR l.length (j+1)) (ls:=ls'.set t (qS D 1000 (bK ls t))) (s:=l.length) (k:=i) (D:=D) (l:=l) (m:=m) (c1:=c1) (c2:=c2) (n:=n) (by rw [List.length_set];omega) (by rw [List.length_set];omega) ⟨t+1,j+1,by omega,by omega,rfl,rfl,congrArg (fP l m c1 c2 n i D l.length) hnx.symm,rfl⟩ ?_ ?_ ?_ ?_
           ·unfold FR;((repeat' refine iE rfl rfl ?_);exact iN)
           ·unfold qK bP pF;exact List.forall_mem_cons.2 ⟨rfl,List.forall_mem_cons.2 ⟨rfl,List.forall_mem_cons.2 ⟨rfl,List.forall_mem_cons.2 ⟨rfl,List.forall_mem_cons.2 ⟨rfl,List.forall_mem_cons.2 ⟨rfl,fun _ h=>(by cases h)⟩⟩⟩⟩⟩⟩
           ·rw [aA7 (List.length_set) (fun i1 _=>hlen i1)];rfl
           ·intro i1 a1 a2;rw [List.length_set] at a1;rw [hlen] at a2;rw [tB _ (by omega)];by_cases e:i1=t
            ·rw [if_pos e,e,u6];rfl
            ·rw [if_neg e,gI _ _ (by omega)]
             repeat rw [bA (by omega)]
             exact jW (by omega) a2 a1
          ·exfalso;simp [aA,aF,aI] at g2;omega
        ·unfold FR fP bP pF;((conv=>whnf);refine bm (fun h1=>?_) (fun h1=>?_))
         ·exfalso;simp [aA,aF] at h1;omega
         ·(conv=>whnf);have htt:t=l.length:=(by omega);subst htt;have hi2:i=2*m.length:=(by omega);refine aA4 (k:=2*m.length) (D:=aV l m m.length) (ls:=outs l m) (s:=l.length) (by rw [eL];omega) (eL l m) ?_;unfold outs;rw [← hDe,← hi2,hlsE,hls'];rfl
end Go.Aw
end

noncomputable section
namespace Go.Aw
set_option maxRecDepth 100000
def oL:Value→Nat
 |.slice (some _) _ c=>c
 |_=>0
section
variable {α β:Type}(E:El α)(G:El β)
theorem YX {h:Heap}{nx:Nat}{v:Value}{l:List α}(hl:jQ E h v l):In [.slice (some ⟨0,0,none⟩) l.length (oL v)] [(0,.cells false true E.sz (flat E.fl l))] 1 [v] h nx:=by
 unfold jQ at hl;split at hl
 ·rename_i n c;obtain⟨rfl,rfl,rfl⟩:=hl;exact RF rfl true E.sz E.pos
 ·rename_i k o n c;obtain⟨rfl,wr,g,sz,cs,hk,hcs⟩:=hl;exact ZH rfl hk hcs (aE E l) true E.sz E.pos
 ·exact hl.elim
theorem LH {p q:Value}{n:Int}{r:List Value}(hr:fC r=true){h:Heap}{nx:Nat}{l:List α}{m:List β}(hl:jQ E h p l)(hm:jQ G h q m) :
  In (aD l.length m.length (oL p) (oL q) n::r) (aH E G l m) 2 (mapA p q n::r) h nx :=
 aAF hr (aAv rfl rfl (YX (nx:=nx) E hl) (YX (nx:=nx) G hm) ⟨_,_,rfl,aE E l⟩ ⟨_,_,rfl,aE G m⟩) ⟨_,_,_,rfl⟩ ⟨_,_,_,rfl⟩
end
theorem xT (s:Nat)(ls:List (List Int)):∀ n,fQ (tH s ls n)=true
 |0=>rfl
 |n+1=>by
  unfold tH;split
  ·exact xT s ls n
  ·exact xT s ls n
theorem R6 {l:List Pt}{m:List Ed}{c1 c2:Nat}{n:Int}{k:Nat}{D:List Dt}{ls:List (List Int)}:fQ (XV l m c1 c2 n k D ls)=true:=xT _ _ _
def aCO (l:List Pt)(m:List Ed)(c1 c2:Nat)(n:Int):Heap:=XV l m c1 c2 n (2*m.length) (aV l m m.length) (outs l m)
def U9:Nat × XF:=(153,fun args h nx K=>∃ l m n p q,args=[mapA p q n]∧jQ aZ h p l∧jQ aY h q m∧dH l m n=true∧K (.pointer (some ⟨nx+4,0,none⟩)) (app (lT nx (aCO l m (oL p) (oL q) n)) (eG h)) (nx+2000))
theorem aIS:dM Go.Proofs.Tryz.prog U9.1 U9.2:=by
 refine (jX (S:=fun args0 h0 n0 v1 h1 j=>∃ l m n c1 c2,dH l m n=true∧args0=[aD l.length m.length c1 c2 n]∧h0=aH aZ aY l m∧n0=2∧v1=.pointer (some ⟨4,0,none⟩)∧h1=aCO l m c1 c2 n∧j=2000) (aO (xl:=[(160,SJ (HR 1000))]) (.cons (aEI 1000) .nil)) ?_).mono ?_ ?_
 ·rintro args0 h0 n0 v1 h1 j ⟨l,m,n,c1,c2,hok,rfl,rfl,rfl,rfl,rfl,rfl⟩;exact⟨R6,_,aKo l m n c1 c2 hok,fun v h nx e=>e⟩
 ·rintro args h nx K ⟨l,m,n,p,q,rfl,hl,hm,hok,hx⟩;exact⟨_,_,2,_,_,_,⟨l,m,n,oL p,oL q,hok,rfl,rfl,rfl,rfl,rfl,rfl⟩,LH aZ aY rfl hl hm,hx⟩
 ·rintro args h nx K ⟨l,m,n,p,q,rfl,hl,hm,hok,hx⟩;exact⟨_,_,_,hx,fun K' hk=>⟨l,m,n,p,q,rfl,hl,hm,hok,hk⟩⟩
def pU (x:Int):List Int→Nat→Int
 |[],_=>-1
 |b::r,i=>if x=b then i else pU x r (i+1)
def aGY (l:List Int):List Value→Option (Bool × Value)
 |[.int .i64 x]=>some (decide (l.length≤1000000),iv (pU x l 0))
 |_=>none
theorem ZI {l:List Int}{r:List Value}{v:Value}(hs:aGY l r=some (true,v)):∃ x,r=[iv x]∧l.length≤1000000∧v=iv (pU x l 0):=by
 unfold aGY at hs;split at hs
 ·rename_i x;injection hs with hs;injection hs with h1 h2;exact⟨x,rfl,by simpa using h1,h2.symm⟩
 ·cases hs
def X0 (x:Int)(l:List Int)(c:Nat)(j:Int):List (Nat × Value):=[(0,.slice (some ⟨0,0,none⟩) l.length c),(1,iv x),(7,iv l.length),(8,iv j)]
def hIn (l:List Int):Heap:=[(0,.cells false true 1 (flat aL.fl l))]
def r9:Nat × XF:=(167,lX aL aGY)
theorem aIv:dM Go.Proofs.Tryz.prog r9.1 r9.2:=M0 aL (aO (xl:=[]) .nil) fun l r v hs=>by
 obtain⟨x,rfl,hlen,rfl⟩:=ZI hs;refine⟨rfl,rfl,fun c=>?_⟩;(conv=>whnf);refine⟨fun q e h nx=>∃ (i:Nat) (j:Int),j=i∧i≤l.length∧q=l.length - i∧pU x l 0=pU x (l.drop i) i∧e=X0 x l c j∧h=hIn l∧nx=1,⟨l.length,?_⟩,?_⟩
 ·refine cO (e0:=X0 x l c 0) (h0:=hIn l) (n0:=1) ⟨0,0,rfl,Nat.zero_le _,rfl,rfl,rfl,rfl,rfl⟩ ?_ ?_ (by decide)
  ·unfold X0;((repeat' refine iE rfl rfl ?_);exact iN)
  ·unfold hIn;((repeat'(first|refine iF rfl rfl ?_|refine iC rfl rfl rfl ?_|refine iJ rfl rfl rfl rfl ?_));exact iN)
 ·rintro q e h nx ⟨i,j,hj,hi,rfl,hb,rfl,rfl,rfl⟩;unfold X0 hIn;((conv=>whnf);refine bm (fun h1=>?_) (fun h1=>?_))
  ·have hlt:i<l.length:=(by simp [aA,aF] at h1;omega);have hd:l.drop i=aB l i::l.drop (i+1):=(by rw [dK hlt];exact List.drop_eq_getElem_cons hlt);rw [hd,pU] at hb;((conv=>whnf);refine bm (fun h2=>?_) (fun h2=>?_))
   ·(conv=>whnf);refine eP (cF l (i:=i) hlt ?_) ?_
    ·show _+Int.toNat j*1=_;omega
    ((conv=>whnf);refine bm (fun h3=>?_) (fun h3=>?_))
    ·have h3:x=aB l i:=(by simpa [aA,aF] using h3);(conv=>whnf);rw [hb,if_pos h3,hj]
    ·have h3:¬ x=aB l i:=(by simpa [aA,aF] using h3);((conv=>whnf);refine bm (fun h4=>?_) (fun h4=>?_))
     ·(conv=>whnf);refine⟨l.length - (i+1),by omega,?_⟩;refine cO (e0:=X0 x l c (j+1)) (h0:=hIn l) (n0:=1) ⟨i+1,j+1,by omega,hlt,rfl,by rw [hb,if_neg h3],rfl,rfl,rfl⟩ ?_ ?_ (by decide)
      ·unfold X0;((repeat' refine iE rfl rfl ?_);exact iN)
      ·unfold hIn;((repeat'(first|refine iF rfl rfl ?_|refine iC rfl rfl rfl ?_|refine iJ rfl rfl rfl rfl ?_));exact iN)
     ·exfalso;simp [aA,aF,aI] at h4;omega
   ·exfalso;simp [aA,aF] at h2;omega
  ·have hge:l.length≤i:=(by simp [aA,aF] at h1;omega);(conv=>whnf);rw [hb,List.drop_eq_nil_of_le hge];rfl
def fcV (k:Nat):Option (Nat × Nat)→Value
 |none=>aP
 |some (a,b)=>.slice (some ⟨k,0,none⟩) a b
theorem UX {ρ:Nat→Nat}{k:Nat}{o:Option (Nat × Nat)}:bR ρ (fcV k o)=fcV (ρ k) o:=by
 cases o with
 |none=>rfl
 |some p=>rfl
theorem aAL {k n:Nat}{o:Option (Nat × Nat)}(h:k<n):AB n (fcV k o):=by
 cases o with
 |none=>exact cA rfl
 |some p=>exact⟨h,fun h=>by cases h⟩
def AJ (k0 k1 kd kt kf:Nat)(nP nE nD nL c1 c2:Nat)(n:Int)(fo:Option (Nat × Nat)):List Value :=
 [.slice (some ⟨k0,0,none⟩) nP c1,.slice (some ⟨k1,0,none⟩) nE c2,iv n,.slice (some ⟨kd,0,none⟩) nD nD,.slice (some ⟨kt,0,none⟩) nL nL,fcV kf fo]
structure uP (h:Heap) (p k0 k1 kd kt kf:Nat) (nm:Nat→Nat) (l:List Pt) (D:List Dt) (ls:List (List Int)) (nE c1 c2:Nat) (n:Int) (fo:Option (Nat × Nat)):Prop where
 st:∃ wr g sz,look h p=some (.cells wr g sz (AJ k0 k1 kd kt kf l.length nE D.length ls.length c1 c2 n fo))
 pt:∃ wr g sz cs,look h k0=some (.cells wr g sz cs)∧cs.take (flat aZ.fl l).length=flat aZ.fl l
 da:∃ wr g sz cs,look h kd=some (.cells wr g sz cs)∧cs.take (flat qQ.fl D).length=flat qQ.fl D
 tb:∃ wr g sz,look h kt=some (.cells wr g sz ((List.range ls.length).map fun i=>tV (nm i) (bK ls i)))
 li:∀ i,i<ls.length→(bK ls i).length≠0→∃ wr g sz cs,look h (nm i)=some (.cells wr g sz cs)∧cs.take (flat aL.fl (bK ls i)).length=flat aL.fl (bK ls i)
def fG (l:List Pt)(D:List Dt)(ls:List (List Int))(nE c1 c2:Nat)(n:Int)(fo:Option (Nat × Nat))(s:Nat):Heap :=
 (0,.cells false false 1 (AJ 4 5 1 2 6 l.length nE D.length ls.length c1 c2 n fo))::(1,.cells false true 5 (flat qQ.fl D))::(2,.cells false false 1 (tC s ls))::(4,.cells false true 2 (flat aZ.fl l))::(eG (XN (bK ls s))++eG (tH s ls ls.length))
def rhW (p k0 k1 kd kt kf k3:Nat)(nm:Nat→Nat)(s:Nat)(k:Nat):Nat :=
 if 1000≤k then nm (k - 1000) else if k=0 then p else if k=1 then kd else if k=2 then kt else if k=3 then k3 else if k=4 then k0 else if k=5 then k1 else if k=6 then kf else nm s
theorem aEK {p k0 k1 kd kt kf k3:Nat}{nm:Nat→Nat}{s i:Nat}:rhW p k0 k1 kd kt kf k3 nm s (tN s i)=nm i:=by
 unfold tN;split
 ·rename_i e;rw [e];rfl
 ·unfold rhW;rw [if_pos (by omega),Nat.add_sub_cancel]
theorem H9 {h:Heap}{k:Nat}{o:aT}(hm:(k,o)∈eG h):∃ o',(k,o')∈h∧o=o'.closed:=by
 induction h with
 |nil=>cases hm
 |cons x r ih =>
  obtain⟨j,q⟩:=x;unfold eG at hm;rcases List.mem_cons.1 hm with e|hm
  ·injection e with e1 e2;subst e1 e2;exact⟨q,.head _,rfl⟩
  ·obtain⟨o',h1,h2⟩:=ih hm;exact⟨o',.tail _ h1,h2⟩
theorem GG {l:List Pt}{D:List Dt}{ls:List (List Int)}{nE c1 c2:Nat}{n:Int}{fo:Option (Nat × Nat)}{s k:Nat}{o:aT}(h:(k,o)∈fG l D ls nE c1 c2 n fo s) :
  (k=0∧o=.cells false false 1 (AJ 4 5 1 2 6 l.length nE D.length ls.length c1 c2 n fo))∨(k=1∧o=.cells false true 5 (flat qQ.fl D))∨(k=2∧o=.cells false false 1 (tC s ls))∨(k=4∧o=.cells false true 2 (flat aZ.fl l)) ∨
  ∃ i,i<ls.length∧(bK ls i).length≠0∧k=tN s i∧o=.cells false false 1 (flat aL.fl (bK ls i)):=by
 unfold fG at h;simp only [List.mem_cons,List.mem_append] at h;rcases h with h|h|h|h|h|h
 ·injection h with e1 e2;exact .inl ⟨e1,e2⟩
 ·injection h with e1 e2;exact .inr (.inl ⟨e1,e2⟩)
 ·injection h with e1 e2;exact .inr (.inr (.inl ⟨e1,e2⟩))
 ·injection h with e1 e2;exact .inr (.inr (.inr (.inl ⟨e1,e2⟩)))
 ·obtain⟨o',h1,h2⟩:=H9 h;unfold XN at h1;split at h1
  ·cases h1
  ·rename_i hc;simp only [List.mem_cons,List.not_mem_nil,or_false] at h1;injection h1 with e1 e2;subst e1 e2 h2;refine .inr (.inr (.inr (.inr ⟨s,?_,hc,by unfold tN;rw [if_pos rfl],rfl⟩)));refine Decidable.byContradiction fun hq=>hc ?_;unfold bK;rw [List.getD_eq_getElem?_getD,List.getElem?_eq_none (by omega)];rfl
 ·obtain⟨o',h1,h2⟩:=H9 h;obtain⟨i,a1,a2,a3,a4⟩:=AL h1;injection a4 with e1 e2;subst e1 e2 h2;exact .inr (.inr (.inr (.inr ⟨i,a1,a3,by unfold tN;rw [if_neg a2],rfl⟩)))
theorem aEu {s i n:Nat}(h:i+1000<n):tN s i<n:=by
 unfold tN;split <;> omega
theorem LP {h:Heap}{p k0 k1 kd kt kf k3:Nat}{nm:Nat→Nat}{l:List Pt}{D:List Dt}{ls:List (List Int)}{nE c1 c2:Nat}{n:Int}{fo:Option (Nat × Nat)}(hw:uP h p k0 k1 kd kt kf nm l D ls nE c1 c2 n fo)(hn:ls.length≤1000)(s:Nat) :
  ∀ k o,look (fG l D ls nE c1 c2 n fo s) k=some o→k<2000∧∃ g sz cs0,o=.cells false g sz cs0∧sz≠0∧(g=true→c9 cs0=true)∧(∀ v∈cs0,AB 2000 v)∧∃ wr g' sz' cs,look h (rhW p k0 k1 kd kt kf k3 nm s k)=some (.cells wr g' sz' cs)∧cs.take cs0.length=cs0.map (bR (rhW p k0 k1 kd kt kf k3 nm s)):=by
 intro k o hk;have hsl:∀ {q a b:Nat},q<2000→AB 2000 (.slice (some ⟨q,0,none⟩) a b):=fun hq=>⟨hq,fun h=>by cases h⟩;rcases GG (bF hk) with ⟨rfl,rfl⟩|⟨rfl,rfl⟩|⟨rfl,rfl⟩|⟨rfl,rfl⟩|⟨i,hi,h0,rfl,rfl⟩
 ·obtain⟨wr,g,sz,h1⟩:=hw.st;refine⟨by omega,false,1,_,rfl,by omega,(fun h=>by cases h),?_,wr,g,sz,_,h1,?_⟩
  ·unfold AJ;exact List.forall_mem_cons.2 ⟨hsl (by omega),List.forall_mem_cons.2 ⟨hsl (by omega),List.forall_mem_cons.2 ⟨cA rfl,List.forall_mem_cons.2 ⟨hsl (by omega),List.forall_mem_cons.2 ⟨hsl (by omega),List.forall_mem_cons.2 ⟨aAL (by omega),fun _ h=>(by cases h)⟩⟩⟩⟩⟩⟩
  ·show _=[_,_,_,_,_,bR _ (fcV 6 fo)];rw [UX];rfl
 ·obtain⟨wr,g,sz,cs,h1,h2⟩:=hw.da;exact⟨by omega,true,5,_,rfl,by omega,fun _=>aE qQ D,fun v hv=>cA (aU (aE qQ D) hv),wr,g,sz,cs,h1,by rw [h2];exact (bW (aE qQ D)).symm⟩
 ·obtain⟨wr,g,sz,h1⟩:=hw.tb;refine⟨by omega,false,1,_,rfl,by omega,(fun h=>by cases h),JB (by omega) (by omega),wr,g,sz,_,h1,?_⟩;rw [show (tC s ls).length=((List.range ls.length).map fun i=>tV (nm i) (bK ls i)).length by rw [kD];simp,List.take_length];unfold tC;rw [List.map_map];refine List.map_congr_left fun i hi=>?_;show _=bR _ (tV (tN s i) (bK ls i));rw [DN,aEK]
 ·obtain⟨wr,g,sz,cs,h1,h2⟩:=hw.pt;exact⟨by omega,true,2,_,rfl,by omega,fun _=>aE aZ l,fun v hv=>cA (aU (aE aZ l) hv),wr,g,sz,cs,h1,by rw [h2];exact (bW (aE aZ l)).symm⟩
 ·obtain⟨wr,g,sz,cs,h1,h2⟩:=hw.li i hi h0;exact⟨aEu (by omega),false,1,_,rfl,by omega,(fun h=>by cases h),fun v hv=>cA (aU (aE aL _) hv),wr,g,sz,cs,by rw [aEK];exact h1,by rw [h2];exact (bW (aE aL _)).symm⟩
theorem ZA {h:Heap}{p k0 k1 kd kt kf:Nat}{nm:Nat→Nat}{l:List Pt}{D:List Dt}{ls:List (List Int)}{nE c1 c2:Nat}{n:Int}{fo:Option (Nat × Nat)}(hw:uP h p k0 k1 kd kt kf nm l D ls nE c1 c2 n fo)(hn:ls.length≤1000)(s:Nat){r:List Value}(hr:fC r=true){nx:Nat} :
  In (.pointer (some ⟨0,0,none⟩)::r) (fG l D ls nE c1 c2 n fo s) 2000 (.pointer (some ⟨p,0,none⟩)::r) h nx:=by
 refine rP (rhW p k0 k1 kd kt kf 0 nm s) ?_ ?_ (LP hw hn s)
 ·rw [List.map_cons];congr 1
  conv=>lhs;rw [← List.map_id r]
  exact List.map_congr_left fun v hv=>by rw [iB,fZ (cC hr hv)];rfl
 ·exact List.forall_mem_cons.2 ⟨⟨Nat.le_of_ble_eq_true rfl,rfl⟩,fun v hv=>cY (cC hr hv)⟩
theorem aEl {h:Heap}{p k0 k1 kd kt kf k3:Nat}{nm:Nat→Nat}{l:List Pt}{D:List Dt}{ls:List (List Int)}{nE c1 c2:Nat}{n:Int}{fo:Option (Nat × Nat)}(hw:uP h p k0 k1 kd kt kf nm l D ls nE c1 c2 n fo)(hn:ls.length≤1000)(s:Nat){L:List Int}{c:Nat}
  (hL:∃ wr g sz cs,look h k3=some (.cells wr g sz cs)∧cs.take (flat aL.fl L).length=flat aL.fl L) {nx:Nat} :
  In [.pointer (some ⟨0,0,none⟩),.slice (some ⟨3,0,none⟩) L.length c] ((3,.cells false true 1 (flat aL.fl L))::fG l D ls nE c1 c2 n fo s) 2000 [.pointer (some ⟨p,0,none⟩),.slice (some ⟨k3,0,none⟩) L.length c] h nx:=by
 refine rP (rhW p k0 k1 kd kt kf k3 nm s) rfl ?_ fun k o hk=>?_
 ·exact List.forall_mem_cons.2 ⟨⟨Nat.le_of_ble_eq_true rfl,rfl⟩,List.forall_mem_cons.2 ⟨⟨Nat.le_of_ble_eq_true rfl,fun h=>by cases h⟩,fun _ h=>(by cases h)⟩⟩
 ·rw [aC] at hk;split at hk
  ·rename_i hb;injection hk with hk;subst hk;have:=beq_true hb;subst this;obtain⟨wr,g,sz,cs,h1,h2⟩:=hL;exact⟨by omega,true,1,_,rfl,by omega,fun _=>aE aL L,fun v hv=>cA (aU (aE aL L) hv),wr,g,sz,cs,h1,by rw [h2];exact (bW (aE aL L)).symm⟩
  ·exact LP hw hn s k o hk
def wbX (s:List Pt→List Dt→List (List Int)→List Value→Option (Bool × Value)):XF:=fun args h nx K =>
 ∃ p r k0 k1 kd kt kf nm l D ls nE c1 c2 n fo,args=.pointer (some ⟨p,0,none⟩)::r∧uP h p k0 k1 kd kt kf nm l D ls nE c1 c2 n fo∧(match s l D ls r with|some pr=>dP pr.1 (K pr.2 h nx)|none=>False)
theorem P8 {P:Program}{C:VC}{f:Nat}{s:List Pt→List Dt→List (List Int)→List Value→Option (Bool × Value)}(hC:bL P C)
  (hs:∀ l D ls r v,s l D ls r=some (true,v)→fC r=true∧gT v=true∧ls.length≤1000∧∃ s0,∀ nE c1 c2 n fo,C f (.pointer (some ⟨0,0,none⟩)::r) (fG l D ls nE c1 c2 n fo s0) 2000 (fun u _ _=>u=v)):dM P f (wbX s):=by
 refine (jX (S:=fun args0 h0 n0 v1 h1 k=>∃ l D ls r s0 nE c1 c2 n fo,s l D ls r=some (true,v1)∧gT v1=true∧C f (.pointer (some ⟨0,0,none⟩)::r) (fG l D ls nE c1 c2 n fo s0) 2000 (fun u _ _=>u=v1)∧args0=.pointer (some ⟨0,0,none⟩)::r∧h0=fG l D ls nE c1 c2 n fo s0∧n0=2000∧h1=[]∧k=0) hC ?_).mono ?_ ?_
 ·rintro args0 h0 n0 v1 h1 k ⟨l,D,ls,r,s0,nE,c1,c2,n,fo,e1,e2,e3,rfl,rfl,rfl,rfl,rfl⟩;exact⟨rfl,_,e3,fun v h nx e=>by rw [e];exact mI e2⟩
 ·rintro args h nx K ⟨p,r,k0,k1,kd,kt,kf,nm,l,D,ls,nE,c1,c2,n,fo,rfl,hw,hx⟩;split at hx
  case h_2=>exact hx.elim
  rename_i pr e1;obtain⟨bb,u⟩:=pr;obtain⟨rfl,hx⟩:=aG.1 hx;obtain⟨a1,a2,a3,s0,a4⟩:=hs l D ls r u e1;refine⟨_,_,2000,u,[],0,⟨l,D,ls,r,s0,nE,c1,c2,n,fo,e1,a2,a4 nE c1 c2 n fo,rfl,rfl,rfl,rfl,rfl⟩,ZA hw a3 s0 a1,?_⟩;simp only [qW,w8,lT,nQ,r5 a2,Nat.add_zero];exact hx
 ·rintro args h nx K ⟨p,r,k0,k1,kd,kt,kf,nm,l,D,ls,nE,c1,c2,n,fo,rfl,hw,hx⟩;split at hx
  case h_2=>exact hx.elim
  rename_i pr e1;obtain⟨hb,hx⟩:=aG.1 hx;exact⟨pr.2,h,nx,hx,fun K' hk=>⟨p,r,k0,k1,kd,kt,kf,nm,l,D,ls,nE,c1,c2,n,fo,rfl,hw,by rw [e1];exact aJ hb hk⟩⟩
end Go.Aw
end

noncomputable section
namespace Go.Aw
set_option maxRecDepth 100000
set_option maxHeartbeats 2000000
def B6 (xl:List (Nat × XF)):CP:={ aA with X:=look xl,M:=2 }
theorem aCS {xl:List (Nat × XF)}(h:m7 xl):o8 Go.Proofs.Tryz.prog (B6 xl) where
 ar:=jD.ar
 tab:=jD.tab
 mixed:=jD.mixed
 funcs:=jD.funcs
 xs:=h.look
def eM (d:Int):Int:=if d % 2=0 then d+1 else d - 1
def Q2 (D:List Dt)(ls:List (List Int))(d:Int):List Int:=bK ls (bV D d.toNat).tt.toNat
def BF (D:List Dt)(ls:List (List Int))(d:Int):Int:=aB (Q2 D ls d) ((pU (eM d) (Q2 D ls d) 0 - 1+(Q2 D ls d).length) % (Q2 D ls d).length).toNat
def nxB (D:List Dt)(ls:List (List Int))(d:Int):Bool:=decide (0≤d)&&decide (d<D.length)&&decide (D.length≤1000)&&decide (ls.length≤1000)&&(decide (0≤(bV D d.toNat).tt)&&decide ((bV D d.toNat).tt<ls.length)) &&
 (decide (0≤pU (eM d) (Q2 D ls d) 0)&&decide (pU (eM d) (Q2 D ls d) 0<(Q2 D ls d).length)&&decide ((Q2 D ls d).length≤1000))
def nxS (l:List Pt)(D:List Dt)(ls:List (List Int)):List Value→Option (Bool × Value)
 |[.int .i64 d]=>some (nxB D ls d,iv (BF D ls d))
 |_=>none
theorem T3 (m:List Dt){i o:Nat}(hi:i<m.length)(ho:o=i*5+4):nth (flat qQ.fl m) o=some (iv (bV m i).tt):=by
 rw [oA hi];exact mN qQ m hi (k:=4) rfl (by decide) (by rw [ho];rfl)
theorem aIh (m:List Dt){i o:Nat}(hi:i<m.length)(ho:o=i*5+3):nth (flat qQ.fl m) o=some (iv (bV m i).fr):=by
 rw [oA hi];exact mN qQ m hi (k:=3) rfl (by decide) (by rw [ho];rfl)
theorem aKE (n:Nat):n ^^^ 1=if n % 2=0 then n+1 else n - 1:=by
 have h1:(n ^^^ 1) / 2=n / 2:=(by rw [Nat.xor_div_two];simp);have h2:(n ^^^ 1) % 2=(n % 2) ^^^ 1:=Nat.xor_mod_two_pow (n:=1);split
 ·rename_i h;rw [h] at h2;have:(0:Nat) ^^^ 1=1:=rfl;omega
 ·rename_i h;rw [show n % 2=1 by omega] at h2;have:(1:Nat) ^^^ 1=0:=rfl;omega
theorem aKG {d:Int}(h:0≤d):((d.toNat ^^^ 1:Nat):Int)=eM d:=by
 rw [aKE];unfold eM;split <;> split <;> omega
def aFF:Nat × XF:=(78,wbX nxS)
theorem aKq:dM Go.Proofs.Tryz.prog aFF.1 aFF.2:=P8 (iU (aCS (xl:=[r9]) (.cons aIv .nil)) 5).1 fun l D ls r v hs=>by
 have:∃ d,r=[iv d]∧nxB D ls d=true∧v=iv (BF D ls d):=by
  unfold nxS at hs;split at hs
  ·rename_i d;injection hs with hs;injection hs with h1 h2;exact⟨d,rfl,h1,h2.symm⟩
  ·cases hs
 obtain⟨d,rfl,hB,rfl⟩:=this;clear hs;unfold nxB at hB;simp only [Bool.and_eq_true,decide_eq_true_eq] at hB;obtain⟨⟨⟨⟨⟨h1,h2⟩,h3⟩,h4⟩,h5,h6⟩,⟨h7,h8⟩,h9⟩:=hB;refine⟨rfl,rfl,h4,(bV D d.toNat).tt.toNat,fun nE c1 c2 n fo=>?_⟩;have hnn:BF D ls d=aB (Q2 D ls d) ((pU (eM d) (Q2 D ls d) 0 - 1+(Q2 D ls d).length) % (Q2 D ls d).length).toNat:=rfl;generalize BF D ls d=X at hnn ⊢;unfold Q2 at h7 h8 h9 hnn;generalize hs:(bV D d.toNat).tt.toNat=s at h7 h8 h9 hnn ⊢;have h0:(bK ls s).length≠0:=(by omega);have ho7:XN (bK ls s)=[(7,.cells true false 1 (flat aL.fl (bK ls s)))]:=if_neg h0;generalize hq:(bK ls s).length=q at *;have hvv:tV (tN s s) (bK ls s)=.slice (some ⟨7,0,none⟩) q q:=(by rw [tV,if_neg (by omega),tN,if_pos rfl,hq]);have key:∀ o,o=s*1→nth (tC s ls) o=some (.slice (some ⟨7,0,none⟩) q q):=fun o ho=>(by rw [EB (by omega) ho,hvv]);unfold fG AJ;rw [ho7]
 repeat' first
  |(((conv=>whnf);refine bm (fun g=>?_) (fun g=>?_)))
  |((conv=>whnf)
    refine eP (T3 D (i:=d.toNat) (by omega) ?_) ?_
    ·show _+Int.toNat d*5+4=_;omega)
  |((conv=>whnf)
    refine eP (key _ ?_) ?_
    ·show _+Int.toNat (bV D d.toNat).tt*1=_;omega)
 all_goals first
  |(exfalso;simp [B6,aA,aF,uE] at g;omega)
  |skip
 (conv=>whnf);refine⟨bK ls s,⟨hq.symm,_,_,_,_,rfl,by rw [List.drop_zero,List.take_length]⟩,?_⟩;((conv=>whnf);refine bm (fun g1=>?_) (fun g1=>?_))
 ·have hxo:(B6 [r9]).A.num ((B6 [r9]).A.bit BinOp.xor ((B6 [r9]).A.toN d) ((B6 [r9]).A.toN 1))=eM d:=aKG h1;generalize (B6 [r9]).A.num ((B6 [r9]).A.bit BinOp.xor ((B6 [r9]).A.toN d) ((B6 [r9]).A.toN 1))=bk at hxo;subst hxo;generalize pU (eM d) (bK ls s) 0=a at h7 h8 hnn;have hix:0≤(a - 1+(q:Int)).tmod q∧(a - 1+(q:Int)).tmod q<q∧(a - 1+(q:Int)).tmod q=(a - 1+(q:Int)) % q:=by
   have e:(a - 1+(q:Int)).tmod q=(a - 1+(q:Int)) % q:=Int.tmod_eq_emod_of_nonneg (by omega);rw [e];exact⟨Int.emod_nonneg _ (by omega),Int.emod_lt_of_pos _ (by omega),rfl⟩
  have hget:∀ o,o=((a - 1+(q:Int)).tmod q).toNat*1→nth (flat aL.fl (bK ls s)) o=some (iv X):=fun o ho=>by
   rw [cF (bK ls s) (i:=((a - 1+(q:Int)).tmod q).toNat) (by omega) ho,hnn,hix.2.2]
  generalize hz:(a - 1+(q:Int)).tmod q=z at hix hget
  repeat' first
   |(((conv=>whnf);refine bm (fun g=>?_) (fun g=>?_)))
   |((conv=>whnf)
     refine eP (hget _ ?_) ?_
     ·show _+Int.toNat ((a - 1+(q:Int)).tmod q)*1=_;rw [hz];omega)
  all_goals first
   |(exfalso;simp [B6,aA,aF,aI] at g;omega)
   |(exfalso
     have g:(decide (0≤(a - 1+(q:Int)).tmod q)&&decide ((a - 1+(q:Int)).tmod q<q))=false:=g;rw [hz] at g;simp at g;omega)
   |(exfalso
     rename_i g4 g3 g2;simp [B6,aA,aF] at g2 g3 g4;omega)
   |(conv=>whnf)
 ·have g1:decide ((bK ls s).length≤1000000)=false:=g1;exact absurd g1 (by rw [decide_eq_true (by omega)];decide)
end Go.Aw
end
