/-
  Parts of a proof. No condition.
-/
import Derived.Test.YticajjhjehljpaaGreatQAx
set_option linter.unusedSimpArgs false
set_option linter.unusedVariables false
noncomputable section
namespace Go.Aw
set_option maxRecDepth 100000
set_option maxHeartbeats 4000000
def EW (N:Nat)(j:Int):List (Nat × Value):=[(3,.pointer (some ⟨3,0,none⟩)),(118,.slice (some ⟨5,0,none⟩) N N),(119,iv N),(120,iv j)]
theorem aJg (l:List Pt)(m:List Ed)(n:Int)(c1 c2:Nat)(hok:cL l m n=true):body [(104,O6 (GN 1000))] 81 [aC l.length m.length c1 c2 n] (aE a8 aX l m) 2 (fun v h nx=>K1 (.pointer (some ⟨4,0,none⟩)) (VW l m c1 c2 n (2*m.length) (aL l m m.length) (outs l m)) 2000 v h nx):=by
 have hsz:l.length≤400∧3≤m.length∧m.length≤400:=by
  simp only [cL,szB,Bool.and_eq_true,decide_eq_true_eq] at hok;omega
 obtain⟨hl,hm3,hm⟩:=hsz;have hM:ND l m=true:=by
  simp only [cL,Bool.and_eq_true] at hok;exact QQ (by omega) (by omega) (fun i hi=>eH hok.2.1 hi) (fun i hi=>eH hok.2.2.1 hi)
 (conv=>whnf);refine⟨aIB l m n c1 c2,aBU aFl CF (VQ l m n c1 c2 hl).h,?_⟩;rintro e h nx ⟨rfl,rfl,rfl⟩;unfold MP p9 aE;(conv=>whnf);refine⟨fun q e h nx=>∃ (i:Nat) (j:Int),j=i∧i≤m.length∧q=m.length - i∧e=w8 m c2 j∧((i=0∧h=p9 l m c1 c2 n∧nx=6)∨(0<i∧(∃ k,k=2*i∧h=xU l m c1 c2 n k (aL l m i))∧nx=7)),⟨m.length,?_⟩,?_⟩
 ·refine c8 (e0:=w8 m c2 0) (h0:=p9 l m c1 c2 n) (n0:=6) ⟨0,0,rfl,Nat.zero_le _,rfl,rfl,.inl ⟨rfl,rfl,rfl⟩⟩ ?_ ?_ (by decide)
  ·unfold w8;((repeat' refine iE rfl rfl ?_);exact iN)
  ·unfold p9 bI aE oK aM;refine List.forall_mem_cons.2 ⟨⟨Nat.le_of_ble_eq_true rfl,_,rfl,aI (RO _)⟩,?_⟩;((repeat'(first|refine iF rfl rfl ?_|refine iC rfl rfl rfl ?_|refine iJ rfl rfl rfl rfl ?_));exact iN)
 ·rintro q e h nx ⟨i,j,hj,hi,rfl,rfl,⟨hi0,rfl,rfl⟩|⟨hip,⟨k,hk,rfl⟩,rfl⟩⟩
  ·subst hi0;unfold w8 p9 bI aE oK;((conv=>whnf);refine bm (fun h1=>?_) (fun h1=>?_))
   ·have he:=uO hM (i:=0) (by omega);have pa:=pA hok (i:=(dG m 0).a.toNat) (by omega);have pb:=pA hok (i:=(dG m 0).b.toNat) (by omega)
    repeat' first
     |(((conv=>whnf);refine bm (fun g=>?_) (fun g=>?_)))
     |((conv=>whnf)
       refine K6 (aDz m (i:=0) (by omega) ?_) ?_
       ·show _+Int.toNat j*5=_;omega)
     |((conv=>whnf)
       refine K6 (tT l (i:=(dG m 0).a.toNat) (by omega) ?_) ?_
       ·show _+Int.toNat (dG m 0).a*2=_;omega)
     |((conv=>whnf)
       refine K6 (tT l (i:=(dG m 0).b.toNat) (by omega) ?_) ?_
       ·show _+Int.toNat (dG m 0).b*2=_;omega)
    all_goals first
     |(exfalso;simp [aA,aG,aK] at g;omega)
     |(exfalso;simp [aA,aG] at g;rw [g] at hm3;simp at hm3)
     |skip
    (conv=>whnf);refine⟨m.length - 1,by omega,?_⟩;refine wG (e0:=w8 m c2 (j+1)) (h0:=xU l m c1 c2 n 2 (aL l m 1)) (n0:=7) [(6,10)] ⟨1,_,by omega,by omega,rfl,rfl,.inr ⟨Nat.one_pos,⟨2,rfl,rfl⟩,rfl⟩⟩ ?_ ?_ ?_ (by decide) (by decide)
    ·unfold w8;((repeat' refine iE rfl rfl ?_);exact iN)
    ·unfold xU bI aE oK;refine List.forall_mem_cons.2 ⟨⟨Nat.le_of_ble_eq_true rfl,_,rfl,cV (aF _ _) (by subst hj;rfl)⟩,List.forall_mem_cons.2 ⟨⟨Nat.le_of_ble_eq_true rfl,_,rfl,aI (RO _)⟩,?_⟩⟩;((repeat'(first|refine iF rfl rfl ?_|refine iC rfl rfl rfl ?_|refine iJ rfl rfl rfl rfl ?_));exact iN)
    ·show ∀ k∈[6,5,3,4,2,0,1],∀ k'∈[6,5,3,4,2,0,1],_;decide
   ·exfalso;simp [aA,aG] at h1;omega
  ·have hdl:=aY l m i;generalize hD:aL l m i=D at hdl;unfold w8 xU bI aE oK;((conv=>whnf);refine bm (fun h1=>?_) (fun h1=>?_))
   ·have hlt:i<m.length:=(by simp [aA,aG] at h1;omega);have he:=uO hM (i:=i) (by omega);have pa:=pA hok (i:=(dG m i).a.toNat) (by omega);have pb:=pA hok (i:=(dG m i).b.toNat) (by omega)
    repeat' first
     |((conv=>whnf)
       refine bm2 (k:=k) ?_)
     |(((conv=>whnf);refine bm (fun g=>?_) (fun g=>?_)))
     |((conv=>whnf)
       refine K6 (aDz m (i:=i) (by omega) ?_) ?_
       ·show _+Int.toNat j*5=_;omega)
     |((conv=>whnf)
       refine K6 (tT l (i:=(dG m i).a.toNat) (by omega) ?_) ?_
       ·show _+Int.toNat (dG m i).a*2=_;omega)
     |((conv=>whnf)
       refine K6 (tT l (i:=(dG m i).b.toNat) (by omega) ?_) ?_
       ·show _+Int.toNat (dG m i).b*2=_;omega)
    all_goals first
     |(exfalso;simp [aA,aG,aK] at g;omega)
     |(exfalso;simp [aA,aG] at g;rw [g] at hm3;simp at hm3)
     |skip
    ·(conv=>whnf);refine⟨m.length - (i+1),by omega,?_⟩;refine wG (e0:=w8 m c2 (j+1)) (h0:=xU l m c1 c2 n (k+2) (aL l m (i+1))) (n0:=7) [(6,11)] ⟨i+1,_,by omega,by omega,rfl,rfl,.inr ⟨by omega,⟨k+2,by omega,rfl⟩,rfl⟩⟩ ?_ ?_ ?_ (by decide) (by decide)
     ·unfold w8;((repeat' refine iE rfl rfl ?_);exact iN)
     ·unfold xU bI aE oK;refine List.forall_mem_cons.2 ⟨⟨Nat.le_of_ble_eq_true rfl,_,rfl,cV (aF _ _) ?_⟩,List.forall_mem_cons.2 ⟨⟨Nat.le_of_ble_eq_true rfl,_,rfl,aI (RO _)⟩,?_⟩⟩
      ·rw [aL,hD];have hg:=QL p0 D (dA l m i) (dB l m i) (n:=k) (by omega);rw [← hg];unfold dA dB;rw [← hj];rfl
      ·((repeat'(first|refine iF rfl rfl ?_|refine iC rfl rfl rfl ?_|refine iJ rfl rfl rfl rfl ?_));exact iN)
     ·show ∀ k∈[6,5,3,4,2,0,1],∀ k'∈[6,5,3,4,2,0,1],_;decide
    ·exact aBs (by rw [cG,hdl,hk];rfl) (by omega) g
   ·have hge:i=m.length:=(by simp [aA,aG] at h1;omega);have hDe:D=aL l m m.length:=(by rw [← hD,hge]);have hDk:D.length=k:=(by omega);clear hD hdl hip;(conv=>whnf);refine⟨fun q e h nx=>∃ (i:Nat) (j:Int),j=i∧i≤k∧q=k - i∧e=nQ k j∧h=fH l m c1 c2 n k D (sD l.length D i) (oJ l.length D i)∧nx=2000,⟨k,?_⟩,?_⟩
    ·refine c8 (e0:=nQ k 0) (h0:=fH l m c1 c2 n k D (sD l.length D 0) (oJ l.length D 0)) (n0:=2000) ⟨0,0,rfl,Nat.zero_le _,rfl,rfl,rfl,rfl⟩ ?_ ?_ (by decide)
     ·unfold nQ;((repeat' refine iE rfl rfl ?_);exact iN)
     ·rw [show oJ l.length D 0=List.replicate l.length [] from rfl,aD5];unfold xU bI aE oK;refine List.forall_mem_cons.2 ⟨⟨Nat.le_of_ble_eq_true rfl,_,rfl,aI (aF _ _)⟩,List.forall_mem_cons.2 ⟨⟨Nat.le_of_ble_eq_true rfl,_,rfl,aI (RO _)⟩,?_⟩⟩;((repeat'(first|refine iF rfl rfl ?_|refine iC rfl rfl rfl ?_|refine iJ rfl rfl rfl rfl ?_));exact iN)
    ·rintro q e h nx ⟨i,j,hj,hi,rfl,rfl,rfl,rfl⟩;by_cases hlt:i<k
     ·have hf:=eR (l:=l) hM (i:=i) (by omega);rw [← hDe] at hf;have hol:=mD l.length D i;have hle:=CC l.length D i (bK D i).fr.toNat fun i' hi'=>by
       have:=(eR (l:=l) hM (i:=i') (by omega));rw [← hDe] at this;omega
      have hnx:oJ l.length D (i+1)=(oJ l.length D i).set (bK D i).fr.toNat (bE (oJ l.length D i) (bK D i).fr.toNat++[(bK D i).no]):=rfl;rw [show sD l.length D i=(bK D i).fr.toNat from if_pos (by omega)];generalize oJ l.length D i=ls at hol hnx hle ⊢;generalize hs:(bK D i).fr.toNat=s at hnx hle ⊢;by_cases h0:(bE ls s).length=0
      ·have ho7:VA (bE ls s)=[]:=if_pos h0;have hvv:tV (tN s s) (bE ls s)=aM:=if_pos h0;have key:∀ o,o=s*1→nth (tC s ls) o=some aM:=fun o ho=>(by rw [CS (by omega) ho,hvv]);unfold nQ fH bI oK;rw [ho7]
       repeat' first
        |(((conv=>whnf);refine bm (fun g=>?_) (fun g=>?_)))
        |((conv=>whnf)
          refine K6 (aE2 D (i:=i) (by omega) ?_) ?_
          ·show _+Int.toNat j*5=_;omega)
        |((conv=>whnf)
          refine lD (key _ ?_) ?_
          ·show _+Int.toNat (bK D i).fr*1=_;omega)
       all_goals first
        |(exfalso;simp [aA,aG,aK] at g;omega)
        |(exfalso;simp [aA,aG] at g;rw [g] at hm3;simp at hm3)
        |(exfalso
          have hb:Nat.ble (0+Int.toNat (bK D i).fr*1+1) (tC s ls).length=true:=Nat.ble_eq_true_of_le (by rw [kI];omega);exact Bool.false_ne_true (g.symm.trans hb))
        |skip
       (conv=>whnf);refine⟨k - (i+1),by omega,?_⟩;refine aEm (s:=s) (s':=sD l.length D (i+1)) (q:=1) (ls:=ls) (x:=(bK D i).no) (j:=j+1) (D:=D) (k:=k) (l:=l) (m:=m) (c1:=c1) (c2:=c2) (n:=n) (by omega) (by omega) ⟨i+1,j+1,by omega,by omega,rfl,rfl,congrArg (fH l m c1 c2 n k D (sD l.length D (i+1))) hnx.symm,rfl⟩ ?_ ?_ (by omega) ?_ ?_ ?_
       ·unfold nQ;exact List.forall_mem_cons.2 ⟨rfl,List.forall_mem_cons.2 ⟨rfl,List.forall_mem_cons.2 ⟨rfl,List.forall_mem_cons.2 ⟨rfl,fun _ h=>(by cases h)⟩⟩⟩⟩
       ·unfold qD bI oK;exact List.forall_mem_cons.2 ⟨rfl,List.forall_mem_cons.2 ⟨rfl,List.forall_mem_cons.2 ⟨rfl,List.forall_mem_cons.2 ⟨rfl,List.forall_mem_cons.2 ⟨rfl,List.forall_mem_cons.2 ⟨rfl,fun _ h=>(by cases h)⟩⟩⟩⟩⟩⟩
       ·show some (aS.cells true false 1 (eC (tC s ls) (0+Int.toNat (bK D i).fr*1) [.slice (some ⟨2002,0,none⟩) 1 1]))=_;rw [NP (i:=s) (by omega) (by rw [kI];omega)]
       ·rw [List.eq_nil_of_length_eq_zero h0];rfl
       ·intro i1 a1 a2 a3
        repeat first
         |rw [jK _ _ (by omega)]
         |rw [iD _ _ (by omega)]
         |rw [aZ (by omega)]
          |rw [dF,if_neg (by omega)]
        exact jR a2 a3 a1
      ·have ho7:VA (bE ls s)=[(7,.cells true false 1 (flat aU.fl (bE ls s)))]:=if_neg h0;generalize hq:(bE ls s).length=q at h0 hle;have hvv:tV (tN s s) (bE ls s)=.slice (some ⟨7,0,none⟩) q q:=(by rw [tV,if_neg (by omega),tN,if_pos rfl,hq]);have hqk:q≤1000:=(by omega);have key:∀ o,o=s*1→nth (tC s ls) o=some (.slice (some ⟨7,0,none⟩) q q):=fun o ho=>(by rw [CS (by omega) ho,hvv]);unfold nQ fH bI oK;rw [ho7]
       repeat' first
        |((conv=>whnf)
          refine bm1 (k:=q) ?_)
        |(((conv=>whnf);refine bm (fun g=>?_) (fun g=>?_)))
        |((conv=>whnf)
          refine K6 (aE2 D (i:=i) (by omega) ?_) ?_
          ·show _+Int.toNat j*5=_;omega)
        |((conv=>whnf)
          refine lD (key _ ?_) ?_
          ·show _+Int.toNat (bK D i).fr*1=_;omega)
       all_goals first
        |(exfalso;simp [aA,aG,aK] at g;omega)
        |(exfalso;simp [aA,aG] at g;rw [g] at hm3;simp at hm3)
        |(exfalso
          have hb:Nat.ble (0+Int.toNat (bK D i).fr*1+1) (tC s ls).length=true:=Nat.ble_eq_true_of_le (by rw [kI];omega);exact Bool.false_ne_true (g.symm.trans hb))
        |skip
       ·(conv=>whnf);refine⟨k - (i+1),by omega,?_⟩;refine aEm (s:=s) (s':=sD l.length D (i+1)) (q:=q+1) (ls:=ls) (x:=(bK D i).no) (j:=j+1) (D:=D) (k:=k) (l:=l) (m:=m) (c1:=c1) (c2:=c2) (n:=n) (by omega) (by omega) ⟨i+1,j+1,by omega,by omega,rfl,rfl,congrArg (fH l m c1 c2 n k D (sD l.length D (i+1))) hnx.symm,rfl⟩ ?_ ?_ (by omega) ?_ ?_ ?_
        ·unfold nQ;exact List.forall_mem_cons.2 ⟨rfl,List.forall_mem_cons.2 ⟨rfl,List.forall_mem_cons.2 ⟨rfl,List.forall_mem_cons.2 ⟨rfl,fun _ h=>(by cases h)⟩⟩⟩⟩
        ·unfold qD bI oK;exact List.forall_mem_cons.2 ⟨rfl,List.forall_mem_cons.2 ⟨rfl,List.forall_mem_cons.2 ⟨rfl,List.forall_mem_cons.2 ⟨rfl,List.forall_mem_cons.2 ⟨rfl,List.forall_mem_cons.2 ⟨rfl,fun _ h=>(by cases h)⟩⟩⟩⟩⟩⟩
        ·show some (aS.cells true false 1 (eC (tC s ls) (0+Int.toNat (bK D i).fr*1) [.slice (some ⟨2002,0,none⟩) (q+1) (q+1)]))=_;rw [NP (i:=s) (by omega) (by rw [kI];omega)]
        ·have hg:=DB aU (bE ls s) (bK D i).no (n:=q) hq.symm;unfold ob;rw [← hg];rfl
        ·intro i1 a1 a2 a3
         repeat first
          |rw [jK _ _ (by omega)]
          |rw [iD _ _ (by omega)]
          |rw [aZ (by omega)]
          |rw [dF,if_neg (by omega)]
         show look ((7,_)::tH s ls ls.length) _=_;rw [aZ (by omega)];exact jR a2 a3 a1
       ·exact aB5 (by rw [cG,hq];rfl) (by omega) g
     ·have hik:i=k:=(by omega);subst hik;clear hlt hi;rw [show sD l.length D i=l.length from if_neg (by omega)];have hol:=mD l.length D i;have hfr:∀ i',i'<i→(bK D i').fr.toNat<l.length∧(bK D i').no=i':=fun i' hi'=>by
       have:=(eR (l:=l) hM (i:=i') (by omega));rw [← hDe] at this;omega
      have hout:∀ s,s<l.length→(bE (oJ l.length D i) s).length≠0∧(bE (oJ l.length D i) s).length≤1000∧XP D (bE (oJ l.length D i) s)=true:=fun s hs=>by
       refine⟨?_,?_,?_⟩
       ·rw [CH i hfr s,hDe,show i=2*m.length by omega];exact TJ hok hs
       ·have:=CC l.length D i s fun i' hi'=>(hfr i' hi').1;omega
       ·rw [CH i hfr s];refine List.all_eq_true.2 fun x hx=>?_;obtain⟨i',h1,rfl,_⟩:=KG hx;simp only [Bool.and_eq_true,decide_eq_true_eq];omega
      have hW:aA8 D=true:=(by rw [hDe];exact aA3 hok hM);generalize hlsE:oJ l.length D i=ls at hol hout ⊢;unfold nQ fH bI oK;((conv=>whnf);refine bm (fun h1=>?_) (fun h1=>?_))
      ·exfalso;simp [aA,aG] at h1;omega
      ·(conv=>whnf);refine⟨fun q e h nx=>∃ (t:Nat) (j:Int),j=t∧t≤l.length∧q=l.length - t∧e=EW l.length j∧h=fH l m c1 c2 n i D l.length (srN D ls t)∧nx=2000,⟨l.length,?_⟩,?_⟩
       ·refine K9 (e0:=EW l.length 0) (ls:=srN D ls 0) (by rw [pI];omega) (by rw [pI];omega) ⟨0,0,rfl,Nat.zero_le _,rfl,rfl,rfl,rfl⟩ ?_ ?_ rfl ?_
        ·unfold EW;((repeat' refine iE rfl rfl ?_);exact iN)
        ·unfold qD bI oK;exact List.forall_mem_cons.2 ⟨rfl,List.forall_mem_cons.2 ⟨rfl,List.forall_mem_cons.2 ⟨rfl,List.forall_mem_cons.2 ⟨rfl,List.forall_mem_cons.2 ⟨rfl,List.forall_mem_cons.2 ⟨rfl,fun _ h=>(by cases h)⟩⟩⟩⟩⟩⟩
        ·intro i1 a1 a2;rw [kQ (by omega)]
         repeat rw [aZ (by omega)]
         exact jR (by have:=pI D ls 0;omega) a2 a1
       ·rintro q e h nx ⟨t,j,hj,ht,rfl,rfl,rfl,rfl⟩;have hsl:=pI D ls t;have hat:=RE D ls (i:=t) (by omega);have hnx:srN D ls (t+1)=(srN D ls t).set t (qE D 1000 (bE ls t)):=rfl;generalize hls':srN D ls t=ls' at hsl hat hnx ⊢;by_cases hlt:t<l.length
        ·obtain⟨o1,o2,o3⟩:=hout t hlt;have hA:bE ls' t=bE ls t:=(by rw [hat,if_neg (by omega)]);generalize hq:(bE ls t).length=q at o1 o2;have key:∀ o,o=t*1→nth (tC l.length ls') o=some (.slice (some ⟨t+1000,0,none⟩) q q):=fun o ho=>by
          rw [CS (by omega) ho,tV,hA,if_neg (by omega),tN,if_neg (by omega),hq]
         have ho7:VA (bE ls' l.length)=[]:=kQ (by omega);unfold EW fH bI oK;rw [ho7]
         repeat' first
          |(((conv=>whnf);refine bm (fun g=>?_) (fun g=>?_)))
          |((conv=>whnf)
            refine lD (key _ ?_) ?_
            ·show _+Int.toNat j*1=_;omega)
         all_goals first
          |(exfalso;simp [aA,aG,aK] at g;omega)
          |skip
         (conv=>whnf);refine⟨t+1000,q,[],(3,0),bE ls t,.dirs D,by rw [hq];rfl,?_,?_,?_,?_⟩
         ·repeat rw [aZ (by omega)]
          rw [← hA];exact jR (by omega) (by rw [hA,hq];exact o1) (by omega)
         ·exact aQ (aQ (aQ (aQ (aQ (aQ (aQ (IT _ _ _)))))))
         ·refine⟨4,6,0,1,true,false,1,[],true,false,1,[.slice (some ⟨5,0,none⟩) l.length l.length,aM],true,false,5,flat p0.fl D,l.length,c1,m.length,c2,n,i,?_,?_,?_,?_⟩
          ·rw [dF,if_neg (by omega)];rfl
          ·rw [dF,if_neg (by omega),hDk];rfl
          ·rw [dF,if_neg (by omega)];rfl
          ·exact List.take_length
         ·rw [aDr (by rw [hq];exact o2) (by omega) o3 hW];refine aJ rfl ?_;((conv=>whnf);refine bm (fun g2=>?_) (fun g2=>?_))
          ·(conv=>whnf);refine⟨l.length - (t+1),by omega,?_⟩;have hlen:∀ i1,(bE (ls'.set t (qE D 1000 (bE ls t))) i1).length=(bE ls' i1).length:=fun i1=>by
            rw [sK _ (by omega)];split
            ·rename_i e;rw [N6,e,hA]
            ·rfl
           refine K9 (e0:=EW l.length (j+1)) (ls:=ls'.set t (qE D 1000 (bE ls t))) (s:=l.length) (k:=i) (D:=D) (l:=l) (m:=m) (c1:=c1) (c2:=c2) (n:=n) (by rw [List.length_set];omega) (by rw [List.length_set];omega) ⟨t+1,j+1,by omega,by omega,rfl,rfl,congrArg (fH l m c1 c2 n i D l.length) hnx.symm,rfl⟩ ?_ ?_ ?_ ?_
           ·unfold EW;((repeat' refine iE rfl rfl ?_);exact iN)
           ·unfold qD bI oK;exact List.forall_mem_cons.2 ⟨rfl,List.forall_mem_cons.2 ⟨rfl,List.forall_mem_cons.2 ⟨rfl,List.forall_mem_cons.2 ⟨rfl,List.forall_mem_cons.2 ⟨rfl,List.forall_mem_cons.2 ⟨rfl,fun _ h=>(by cases h)⟩⟩⟩⟩⟩⟩
           ·rw [ZJ (List.length_set) (fun i1 _=>hlen i1)];rfl
           ·intro i1 a1 a2;rw [List.length_set] at a1;rw [hlen] at a2;rw [sK _ (by omega)];by_cases e:i1=t
            ·rw [if_pos e,e,GJ];rfl
            ·rw [if_neg e,jK _ _ (by omega)]
             repeat rw [aZ (by omega)]
             exact jR (by omega) a2 a1
          ·exfalso;simp [aA,aG,aK] at g2;omega
        ·unfold EW fH bI oK;((conv=>whnf);refine bm (fun h1=>?_) (fun h1=>?_))
         ·exfalso;simp [aA,aG] at h1;omega
         ·(conv=>whnf);have htt:t=l.length:=(by omega);subst htt;have hi2:i=2*m.length:=(by omega);refine aAs (k:=2*m.length) (D:=aL l m m.length) (ls:=outs l m) (s:=l.length) (by rw [eJ];omega) (eJ l m) ?_;unfold outs;rw [← hDe,← hi2,hlsE,hls'];rfl
end Go.Aw
end

noncomputable section
namespace Go.Aw
set_option maxRecDepth 100000
def oE:Value→Nat
 |.slice (some _) _ c=>c
 |_=>0
section
variable {α β:Type}(E:El α)(G:El β)
theorem aAT {h:Heap}{nx:Nat}{v:Value}{l:List α}(hl:n9 E h v l):In [.slice (some ⟨0,0,none⟩) l.length (oE v)] [(0,.cells false true E.sz (flat E.fl l))] 1 [v] h nx:=by
 unfold n9 at hl;split at hl
 ·rename_i n c;obtain⟨rfl,rfl,rfl⟩:=hl;exact Q3 rfl true E.sz E.pos
 ·rename_i k o n c;obtain⟨rfl,wr,g,sz,cs,hk,hcs⟩:=hl;exact Y4 rfl hk hcs (aF E l) true E.sz E.pos
 ·exact hl.elim
theorem JY {p q:Value}{n:Int}{r:List Value}(hr:eY r=true){h:Heap}{nx:Nat}{l:List α}{m:List β}(hl:n9 E h p l)(hm:n9 G h q m) :
  In (aC l.length m.length (oE p) (oE q) n::r) (aE E G l m) 2 (mapA p q n::r) h nx :=
 X6 hr (aB3 rfl rfl (aAT (nx:=nx) E hl) (aAT (nx:=nx) G hm) ⟨_,_,rfl,aF E l⟩ ⟨_,_,rfl,aF G m⟩) ⟨_,_,_,rfl⟩ ⟨_,_,_,rfl⟩
end
theorem wO (s:Nat)(ls:List (List Int)):∀ n,gM (tH s ls n)=true
 |0=>rfl
 |n+1=>by
  unfold tH;split
  ·exact wO s ls n
  ·exact wO s ls n
theorem PV {l:List Pt}{m:List Ed}{c1 c2:Nat}{n:Int}{k:Nat}{D:List Dt}{ls:List (List Int)}:gM (VW l m c1 c2 n k D ls)=true:=wO _ _ _
def aC5 (l:List Pt)(m:List Ed)(c1 c2:Nat)(n:Int):Heap:=VW l m c1 c2 n (2*m.length) (aL l m m.length) (outs l m)
def UR:Nat × XF:=(81,fun args h nx K=>∃ l m n p q,args=[mapA p q n]∧n9 a8 h p l∧n9 aX h q m∧cL l m n=true∧K (.pointer (some ⟨nx+4,0,none⟩)) (app (m8 nx (aC5 l m (oE p) (oE q) n)) (dT h)) (nx+2000))
theorem aIh:dK Go.Proofs.Tryz.prog UR.1 UR.2:=by
 refine (jU (S:=fun args0 h0 n0 v1 h1 j=>∃ l m n c1 c2,cL l m n=true∧args0=[aC l.length m.length c1 c2 n]∧h0=aE a8 aX l m∧n0=2∧v1=.pointer (some ⟨4,0,none⟩)∧h1=aC5 l m c1 c2 n∧j=2000) (aR (xl:=[(104,O6 (GN 1000))]) (.cons (aEw 1000) .nil)) ?_).mono ?_ ?_
 ·rintro args0 h0 n0 v1 h1 j ⟨l,m,n,c1,c2,hok,rfl,rfl,rfl,rfl,rfl,rfl⟩;exact⟨PV,_,aJg l m n c1 c2 hok,fun v h nx e=>e⟩
 ·rintro args h nx K ⟨l,m,n,p,q,rfl,hl,hm,hok,hx⟩;exact⟨_,_,2,_,_,_,⟨l,m,n,oE p,oE q,hok,rfl,rfl,rfl,rfl,rfl,rfl⟩,JY a8 aX rfl hl hm,hx⟩
 ·rintro args h nx K ⟨l,m,n,p,q,rfl,hl,hm,hok,hx⟩;exact⟨_,_,_,hx,fun K' hk=>⟨l,m,n,p,q,rfl,hl,hm,hok,hk⟩⟩
def oG (x:Int):List Int→Nat→Int
 |[],_=>-1
 |b::r,i=>if x=b then i else oG x r (i+1)
def aFz (l:List Int):List Value→Option (Bool × Value)
 |[.int .i64 x]=>some (decide (l.length≤1000000),iv (oG x l 0))
 |_=>none
theorem Y0 {l:List Int}{r:List Value}{v:Value}(hs:aFz l r=some (true,v)):∃ x,r=[iv x]∧l.length≤1000000∧v=iv (oG x l 0):=by
 unfold aFz at hs;split at hs
 ·rename_i x;injection hs with hs;injection hs with h1 h2;exact⟨x,rfl,by simpa using h1,h2.symm⟩
 ·cases hs
def V7 (x:Int)(l:List Int)(c:Nat)(j:Int):List (Nat × Value):=[(0,.slice (some ⟨0,0,none⟩) l.length c),(1,iv x),(7,iv l.length),(8,iv j)]
def hIn (l:List Int):Heap:=[(0,.cells false true 1 (flat aU.fl l))]
def qC:Nat × XF:=(88,lX aU aFz)
theorem aEB:dK Go.Proofs.Tryz.prog qC.1 qC.2:=UY aU (aR (xl:=[]) .nil) fun l r v hs=>by
 obtain⟨x,rfl,hlen,rfl⟩:=Y0 hs;refine⟨rfl,rfl,fun c=>?_⟩;(conv=>whnf);refine⟨fun q e h nx=>∃ (i:Nat) (j:Int),j=i∧i≤l.length∧q=l.length - i∧oG x l 0=oG x (l.drop i) i∧e=V7 x l c j∧h=hIn l∧nx=1,⟨l.length,?_⟩,?_⟩
 ·refine c8 (e0:=V7 x l c 0) (h0:=hIn l) (n0:=1) ⟨0,0,rfl,Nat.zero_le _,rfl,rfl,rfl,rfl,rfl⟩ ?_ ?_ (by decide)
  ·unfold V7;((repeat' refine iE rfl rfl ?_);exact iN)
  ·unfold hIn;((repeat'(first|refine iF rfl rfl ?_|refine iC rfl rfl rfl ?_|refine iJ rfl rfl rfl rfl ?_));exact iN)
 ·rintro q e h nx ⟨i,j,hj,hi,rfl,hb,rfl,rfl,rfl⟩;unfold V7 hIn;((conv=>whnf);refine bm (fun h1=>?_) (fun h1=>?_))
  ·have hlt:i<l.length:=(by simp [aA,aG] at h1;omega);have hd:l.drop i=aH l i::l.drop (i+1):=(by rw [jQ hlt];exact List.drop_eq_getElem_cons hlt);rw [hd,oG] at hb;((conv=>whnf);refine bm (fun h2=>?_) (fun h2=>?_))
   ·(conv=>whnf);refine lD (j1 l (i:=i) hlt ?_) ?_
    ·show _+Int.toNat j*1=_;omega
    ((conv=>whnf);refine bm (fun h3=>?_) (fun h3=>?_))
    ·have h3:x=aH l i:=(by simpa [aA,aG] using h3);(conv=>whnf);rw [hb,if_pos h3,hj]
    ·have h3:¬ x=aH l i:=(by simpa [aA,aG] using h3);((conv=>whnf);refine bm (fun h4=>?_) (fun h4=>?_))
     ·(conv=>whnf);refine⟨l.length - (i+1),by omega,?_⟩;refine c8 (e0:=V7 x l c (j+1)) (h0:=hIn l) (n0:=1) ⟨i+1,j+1,by omega,hlt,rfl,by rw [hb,if_neg h3],rfl,rfl,rfl⟩ ?_ ?_ (by decide)
      ·unfold V7;((repeat' refine iE rfl rfl ?_);exact iN)
      ·unfold hIn;((repeat'(first|refine iF rfl rfl ?_|refine iC rfl rfl rfl ?_|refine iJ rfl rfl rfl rfl ?_));exact iN)
     ·exfalso;simp [aA,aG,aK] at h4;omega
   ·exfalso;simp [aA,aG] at h2;omega
  ·have hge:l.length≤i:=(by simp [aA,aG] at h1;omega);(conv=>whnf);rw [hb,List.drop_eq_nil_of_le hge];rfl
def fcV (k:Nat):Option (Nat × Nat)→Value
 |none=>aM
 |some (a,b)=>.slice (some ⟨k,0,none⟩) a b
theorem UX {ρ:Nat→Nat}{k:Nat}{o:Option (Nat × Nat)}:bM ρ (fcV k o)=fcV (ρ k) o:=by
 cases o with
 |none=>rfl
 |some p=>rfl
theorem aB7 {k n:Nat}{o:Option (Nat × Nat)}(h:k<n):BR n (fcV k o):=by
 cases o with
 |none=>exact cD rfl
 |some p=>exact⟨h,fun h=>by cases h⟩
def FV (k0 k1 kd kt kf:Nat)(nP nE nD nL c1 c2:Nat)(n:Int)(fo:Option (Nat × Nat)):List Value :=
 [.slice (some ⟨k0,0,none⟩) nP c1,.slice (some ⟨k1,0,none⟩) nE c2,iv n,.slice (some ⟨kd,0,none⟩) nD nD,.slice (some ⟨kt,0,none⟩) nL nL,fcV kf fo]
structure uE (h:Heap) (p k0 k1 kd kt kf:Nat) (nm:Nat→Nat) (l:List Pt) (D:List Dt) (ls:List (List Int)) (nE c1 c2:Nat) (n:Int) (fo:Option (Nat × Nat)):Prop where
 st:∃ wr g sz,look h p=some (.cells wr g sz (FV k0 k1 kd kt kf l.length nE D.length ls.length c1 c2 n fo))
 pt:∃ wr g sz cs,look h k0=some (.cells wr g sz cs)∧cs.take (flat a8.fl l).length=flat a8.fl l
 da:∃ wr g sz cs,look h kd=some (.cells wr g sz cs)∧cs.take (flat p0.fl D).length=flat p0.fl D
 tb:∃ wr g sz,look h kt=some (.cells wr g sz ((List.range ls.length).map fun i=>tV (nm i) (bE ls i)))
 li:∀ i,i<ls.length→(bE ls i).length≠0→∃ wr g sz cs,look h (nm i)=some (.cells wr g sz cs)∧cs.take (flat aU.fl (bE ls i)).length=flat aU.fl (bE ls i)
def eP (l:List Pt)(D:List Dt)(ls:List (List Int))(nE c1 c2:Nat)(n:Int)(fo:Option (Nat × Nat))(s:Nat):Heap :=
 (0,.cells false false 1 (FV 4 5 1 2 6 l.length nE D.length ls.length c1 c2 n fo))::(1,.cells false true 5 (flat p0.fl D))::(2,.cells false false 1 (tC s ls))::(4,.cells false true 2 (flat a8.fl l))::(dT (VA (bE ls s))++dT (tH s ls ls.length))
def rhW (p k0 k1 kd kt kf k3:Nat)(nm:Nat→Nat)(s:Nat)(k:Nat):Nat :=
 if 1000≤k then nm (k - 1000) else if k=0 then p else if k=1 then kd else if k=2 then kt else if k=3 then k3 else if k=4 then k0 else if k=5 then k1 else if k=6 then kf else nm s
theorem aDK {p k0 k1 kd kt kf k3:Nat}{nm:Nat→Nat}{s i:Nat}:rhW p k0 k1 kd kt kf k3 nm s (tN s i)=nm i:=by
 unfold tN;split
 ·rename_i e;rw [e];rfl
 ·unfold rhW;rw [if_pos (by omega),Nat.add_sub_cancel]
theorem HJ {h:Heap}{k:Nat}{o:aS}(hm:(k,o)∈dT h):∃ o',(k,o')∈h∧o=o'.closed:=by
 induction h with
 |nil=>cases hm
 |cons x r ih =>
  obtain⟨j,q⟩:=x;unfold dT at hm;rcases List.mem_cons.1 hm with e|hm
  ·injection e with e1 e2;subst e1 e2;exact⟨q,.head _,rfl⟩
  ·obtain⟨o',h1,h2⟩:=ih hm;exact⟨o',.tail _ h1,h2⟩
theorem D1 {l:List Pt}{D:List Dt}{ls:List (List Int)}{nE c1 c2:Nat}{n:Int}{fo:Option (Nat × Nat)}{s k:Nat}{o:aS}(h:(k,o)∈eP l D ls nE c1 c2 n fo s) :
  (k=0∧o=.cells false false 1 (FV 4 5 1 2 6 l.length nE D.length ls.length c1 c2 n fo))∨(k=1∧o=.cells false true 5 (flat p0.fl D))∨(k=2∧o=.cells false false 1 (tC s ls))∨(k=4∧o=.cells false true 2 (flat a8.fl l)) ∨
  ∃ i,i<ls.length∧(bE ls i).length≠0∧k=tN s i∧o=.cells false false 1 (flat aU.fl (bE ls i)):=by
 unfold eP at h;simp only [List.mem_cons,List.mem_append] at h;rcases h with h|h|h|h|h|h
 ·injection h with e1 e2;exact .inl ⟨e1,e2⟩
 ·injection h with e1 e2;exact .inr (.inl ⟨e1,e2⟩)
 ·injection h with e1 e2;exact .inr (.inr (.inl ⟨e1,e2⟩))
 ·injection h with e1 e2;exact .inr (.inr (.inr (.inl ⟨e1,e2⟩)))
 ·obtain⟨o',h1,h2⟩:=HJ h;unfold VA at h1;split at h1
  ·cases h1
  ·rename_i hc;simp only [List.mem_cons,List.not_mem_nil,or_false] at h1;injection h1 with e1 e2;subst e1 e2 h2;refine .inr (.inr (.inr (.inr ⟨s,?_,hc,by unfold tN;rw [if_pos rfl],rfl⟩)));refine Decidable.byContradiction fun hq=>hc ?_;unfold bE;rw [List.getD_eq_getElem?_getD,List.getElem?_eq_none (by omega)];rfl
 ·obtain⟨o',h1,h2⟩:=HJ h;obtain⟨i,a1,a2,a3,a4⟩:=yW h1;injection a4 with e1 e2;subst e1 e2 h2;exact .inr (.inr (.inr (.inr ⟨i,a1,a3,by unfold tN;rw [if_neg a2],rfl⟩)))
theorem aEh {s i n:Nat}(h:i+1000<n):tN s i<n:=by
 unfold tN;split <;> omega
theorem KM {h:Heap}{p k0 k1 kd kt kf k3:Nat}{nm:Nat→Nat}{l:List Pt}{D:List Dt}{ls:List (List Int)}{nE c1 c2:Nat}{n:Int}{fo:Option (Nat × Nat)}(hw:uE h p k0 k1 kd kt kf nm l D ls nE c1 c2 n fo)(hn:ls.length≤1000)(s:Nat) :
  ∀ k o,look (eP l D ls nE c1 c2 n fo s) k=some o→k<2000∧∃ g sz cs0,o=.cells false g sz cs0∧sz≠0∧(g=true→dE cs0=true)∧(∀ v∈cs0,BR 2000 v)∧∃ wr g' sz' cs,look h (rhW p k0 k1 kd kt kf k3 nm s k)=some (.cells wr g' sz' cs)∧cs.take cs0.length=cs0.map (bM (rhW p k0 k1 kd kt kf k3 nm s)):=by
 intro k o hk;have hsl:∀ {q a b:Nat},q<2000→BR 2000 (.slice (some ⟨q,0,none⟩) a b):=fun hq=>⟨hq,fun h=>by cases h⟩;rcases D1 (bA hk) with ⟨rfl,rfl⟩|⟨rfl,rfl⟩|⟨rfl,rfl⟩|⟨rfl,rfl⟩|⟨i,hi,h0,rfl,rfl⟩
 ·obtain⟨wr,g,sz,h1⟩:=hw.st;refine⟨by omega,false,1,_,rfl,by omega,(fun h=>by cases h),?_,wr,g,sz,_,h1,?_⟩
  ·unfold FV;exact List.forall_mem_cons.2 ⟨hsl (by omega),List.forall_mem_cons.2 ⟨hsl (by omega),List.forall_mem_cons.2 ⟨cD rfl,List.forall_mem_cons.2 ⟨hsl (by omega),List.forall_mem_cons.2 ⟨hsl (by omega),List.forall_mem_cons.2 ⟨aB7 (by omega),fun _ h=>(by cases h)⟩⟩⟩⟩⟩⟩
  ·show _=[_,_,_,_,_,bM _ (fcV 6 fo)];rw [UX];rfl
 ·obtain⟨wr,g,sz,cs,h1,h2⟩:=hw.da;exact⟨by omega,true,5,_,rfl,by omega,fun _=>aF p0 D,fun v hv=>cD (a9 (aF p0 D) hv),wr,g,sz,cs,h1,by rw [h2];exact (bP (aF p0 D)).symm⟩
 ·obtain⟨wr,g,sz,h1⟩:=hw.tb;refine⟨by omega,false,1,_,rfl,by omega,(fun h=>by cases h),HW (by omega) (by omega),wr,g,sz,_,h1,?_⟩;rw [show (tC s ls).length=((List.range ls.length).map fun i=>tV (nm i) (bE ls i)).length by rw [kI];simp,List.take_length];unfold tC;rw [List.map_map];refine List.map_congr_left fun i hi=>?_;show _=bM _ (tV (tN s i) (bE ls i));rw [DF,aDK]
 ·obtain⟨wr,g,sz,cs,h1,h2⟩:=hw.pt;exact⟨by omega,true,2,_,rfl,by omega,fun _=>aF a8 l,fun v hv=>cD (a9 (aF a8 l) hv),wr,g,sz,cs,h1,by rw [h2];exact (bP (aF a8 l)).symm⟩
 ·obtain⟨wr,g,sz,cs,h1,h2⟩:=hw.li i hi h0;exact⟨aEh (by omega),false,1,_,rfl,by omega,(fun h=>by cases h),fun v hv=>cD (a9 (aF aU _) hv),wr,g,sz,cs,by rw [aDK];exact h1,by rw [h2];exact (bP (aF aU _)).symm⟩
theorem YJ {h:Heap}{p k0 k1 kd kt kf:Nat}{nm:Nat→Nat}{l:List Pt}{D:List Dt}{ls:List (List Int)}{nE c1 c2:Nat}{n:Int}{fo:Option (Nat × Nat)}(hw:uE h p k0 k1 kd kt kf nm l D ls nE c1 c2 n fo)(hn:ls.length≤1000)(s:Nat){r:List Value}(hr:eY r=true){nx:Nat} :
  In (.pointer (some ⟨0,0,none⟩)::r) (eP l D ls nE c1 c2 n fo s) 2000 (.pointer (some ⟨p,0,none⟩)::r) h nx:=by
 refine vN (rhW p k0 k1 kd kt kf 0 nm s) ?_ ?_ (KM hw hn s)
 ·rw [List.map_cons];congr 1
  conv=>lhs;rw [← List.map_id r]
  exact List.map_congr_left fun v hv=>by rw [iM,fU (bV hr hv)];rfl
 ·exact List.forall_mem_cons.2 ⟨⟨Nat.le_of_ble_eq_true rfl,rfl⟩,fun v hv=>dD (bV hr hv)⟩
theorem aBo {h:Heap}{p k0 k1 kd kt kf k3:Nat}{nm:Nat→Nat}{l:List Pt}{D:List Dt}{ls:List (List Int)}{nE c1 c2:Nat}{n:Int}{fo:Option (Nat × Nat)}(hw:uE h p k0 k1 kd kt kf nm l D ls nE c1 c2 n fo)(hn:ls.length≤1000)(s:Nat){L:List Int}{c:Nat}
  (hL:∃ wr g sz cs,look h k3=some (.cells wr g sz cs)∧cs.take (flat aU.fl L).length=flat aU.fl L) {nx:Nat} :
  In [.pointer (some ⟨0,0,none⟩),.slice (some ⟨3,0,none⟩) L.length c] ((3,.cells false true 1 (flat aU.fl L))::eP l D ls nE c1 c2 n fo s) 2000 [.pointer (some ⟨p,0,none⟩),.slice (some ⟨k3,0,none⟩) L.length c] h nx:=by
 refine vN (rhW p k0 k1 kd kt kf k3 nm s) rfl ?_ fun k o hk=>?_
 ·exact List.forall_mem_cons.2 ⟨⟨Nat.le_of_ble_eq_true rfl,rfl⟩,List.forall_mem_cons.2 ⟨⟨Nat.le_of_ble_eq_true rfl,fun h=>by cases h⟩,fun _ h=>(by cases h)⟩⟩
 ·rw [aB] at hk;split at hk
  ·rename_i hb;injection hk with hk;subst hk;have:=beq_true hb;subst this;obtain⟨wr,g,sz,cs,h1,h2⟩:=hL;exact⟨by omega,true,1,_,rfl,by omega,fun _=>aF aU L,fun v hv=>cD (a9 (aF aU L) hv),wr,g,sz,cs,h1,by rw [h2];exact (bP (aF aU L)).symm⟩
  ·exact KM hw hn s k o hk
def wbX (s:List Pt→List Dt→List (List Int)→List Value→Option (Bool × Value)):XF:=fun args h nx K =>
 ∃ p r k0 k1 kd kt kf nm l D ls nE c1 c2 n fo,args=.pointer (some ⟨p,0,none⟩)::r∧uE h p k0 k1 kd kt kf nm l D ls nE c1 c2 n fo∧(match s l D ls r with|some pr=>dI pr.1 (K pr.2 h nx)|none=>False)
theorem O3 {P:Program}{C:VC}{f:Nat}{s:List Pt→List Dt→List (List Int)→List Value→Option (Bool × Value)}(hC:bF P C)
  (hs:∀ l D ls r v,s l D ls r=some (true,v)→eY r=true∧gT v=true∧ls.length≤1000∧∃ s0,∀ nE c1 c2 n fo,C f (.pointer (some ⟨0,0,none⟩)::r) (eP l D ls nE c1 c2 n fo s0) 2000 (fun u _ _=>u=v)):dK P f (wbX s):=by
 refine (jU (S:=fun args0 h0 n0 v1 h1 k=>∃ l D ls r s0 nE c1 c2 n fo,s l D ls r=some (true,v1)∧gT v1=true∧C f (.pointer (some ⟨0,0,none⟩)::r) (eP l D ls nE c1 c2 n fo s0) 2000 (fun u _ _=>u=v1)∧args0=.pointer (some ⟨0,0,none⟩)::r∧h0=eP l D ls nE c1 c2 n fo s0∧n0=2000∧h1=[]∧k=0) hC ?_).mono ?_ ?_
 ·rintro args0 h0 n0 v1 h1 k ⟨l,D,ls,r,s0,nE,c1,c2,n,fo,e1,e2,e3,rfl,rfl,rfl,rfl,rfl⟩;exact⟨rfl,_,e3,fun v h nx e=>by rw [e];exact mJ e2⟩
 ·rintro args h nx K ⟨p,r,k0,k1,kd,kt,kf,nm,l,D,ls,nE,c1,c2,n,fo,rfl,hw,hx⟩;split at hx
  case h_2=>exact hx.elim
  rename_i pr e1;obtain⟨bb,u⟩:=pr;obtain⟨rfl,hx⟩:=aD.1 hx;obtain⟨a1,a2,a3,s0,a4⟩:=hs l D ls r u e1;refine⟨_,_,2000,u,[],0,⟨l,D,ls,r,s0,nE,c1,c2,n,fo,e1,a2,a4 nE c1 c2 n fo,rfl,rfl,rfl,rfl,rfl⟩,YJ hw a3 s0 a1,?_⟩;simp only [qH,wQ,m8,nJ,sI a2,Nat.add_zero];exact hx
 ·rintro args h nx K ⟨p,r,k0,k1,kd,kt,kf,nm,l,D,ls,nE,c1,c2,n,fo,rfl,hw,hx⟩;split at hx
  case h_2=>exact hx.elim
  rename_i pr e1;obtain⟨hb,hx⟩:=aD.1 hx;exact⟨pr.2,h,nx,hx,fun K' hk=>⟨p,r,k0,k1,kd,kt,kf,nm,l,D,ls,nE,c1,c2,n,fo,rfl,hw,by rw [e1];exact aJ hb hk⟩⟩
end Go.Aw
end

noncomputable section
namespace Go.Aw
set_option maxRecDepth 100000
set_option maxHeartbeats 2000000
def A7 (xl:List (Nat × XF)):B9:={ aA with X:=look xl,M:=2 }
theorem aBR {xl:List (Nat × XF)}(h:lB xl):oS Go.Proofs.Tryz.prog (A7 xl) where
 ar:=fN.ar
 tab:=fN.tab
 mixed:=fN.mixed
 funcs:=fN.funcs
 xs:=h.look
def c9 (d:Int):Int:=if d % 2=0 then d+1 else d - 1
def RD (D:List Dt)(ls:List (List Int))(d:Int):List Int:=bE ls (bK D d.toNat).tt.toNat
def qV (D:List Dt)(ls:List (List Int))(d:Int):Int:=aH (RD D ls d) ((oG (c9 d) (RD D ls d) 0 - 1+(RD D ls d).length) % (RD D ls d).length).toNat
def nxB (D:List Dt)(ls:List (List Int))(d:Int):Bool:=decide (0≤d)&&decide (d<D.length)&&decide (D.length≤1000)&&decide (ls.length≤1000)&&(decide (0≤(bK D d.toNat).tt)&&decide ((bK D d.toNat).tt<ls.length)) &&
 (decide (0≤oG (c9 d) (RD D ls d) 0)&&decide (oG (c9 d) (RD D ls d) 0<(RD D ls d).length)&&decide ((RD D ls d).length≤1000))
def nxS (l:List Pt)(D:List Dt)(ls:List (List Int)):List Value→Option (Bool × Value)
 |[.int .i64 d]=>some (nxB D ls d,iv (qV D ls d))
 |_=>none
theorem UF (m:List Dt){i o:Nat}(hi:i<m.length)(ho:o=i*5+4):nth (flat p0.fl m) o=some (iv (bK m i).tt):=by
 rw [oB hi];exact mI p0 m hi (k:=4) rfl (by decide) (by rw [ho];rfl)
theorem aDV (m:List Dt){i o:Nat}(hi:i<m.length)(ho:o=i*5+3):nth (flat p0.fl m) o=some (iv (bK m i).fr):=by
 rw [oB hi];exact mI p0 m hi (k:=3) rfl (by decide) (by rw [ho];rfl)
theorem aJR (n:Nat):n ^^^ 1=if n % 2=0 then n+1 else n - 1:=by
 have h1:(n ^^^ 1) / 2=n / 2:=(by rw [Nat.xor_div_two];simp);have h2:(n ^^^ 1) % 2=(n % 2) ^^^ 1:=Nat.xor_mod_two_pow (n:=1);split
 ·rename_i h;rw [h] at h2;have:(0:Nat) ^^^ 1=1:=rfl;omega
 ·rename_i h;rw [show n % 2=1 by omega] at h2;have:(1:Nat) ^^^ 1=0:=rfl;omega
theorem aJQ {d:Int}(h:0≤d):((d.toNat ^^^ 1:Nat):Int)=c9 d:=by
 rw [aJR];unfold c9;split <;> split <;> omega
def aEH:Nat × XF:=(46,wbX nxS)
theorem aHF:dK Go.Proofs.Tryz.prog aEH.1 aEH.2:=O3 (iX (aBR (xl:=[qC]) (.cons aEB .nil)) 5).1 fun l D ls r v hs=>by
 have:∃ d,r=[iv d]∧nxB D ls d=true∧v=iv (qV D ls d):=by
  unfold nxS at hs;split at hs
  ·rename_i d;injection hs with hs;injection hs with h1 h2;exact⟨d,rfl,h1,h2.symm⟩
  ·cases hs
 obtain⟨d,rfl,hB,rfl⟩:=this;clear hs;unfold nxB at hB;simp only [Bool.and_eq_true,decide_eq_true_eq] at hB;obtain⟨⟨⟨⟨⟨h1,h2⟩,h3⟩,h4⟩,h5,h6⟩,⟨h7,h8⟩,h9⟩:=hB;refine⟨rfl,rfl,h4,(bK D d.toNat).tt.toNat,fun nE c1 c2 n fo=>?_⟩;have hnn:qV D ls d=aH (RD D ls d) ((oG (c9 d) (RD D ls d) 0 - 1+(RD D ls d).length) % (RD D ls d).length).toNat:=rfl;generalize qV D ls d=X at hnn ⊢;unfold RD at h7 h8 h9 hnn;generalize hs:(bK D d.toNat).tt.toNat=s at h7 h8 h9 hnn ⊢;have h0:(bE ls s).length≠0:=(by omega);have ho7:VA (bE ls s)=[(7,.cells true false 1 (flat aU.fl (bE ls s)))]:=if_neg h0;generalize hq:(bE ls s).length=q at *;have hvv:tV (tN s s) (bE ls s)=.slice (some ⟨7,0,none⟩) q q:=(by rw [tV,if_neg (by omega),tN,if_pos rfl,hq]);have key:∀ o,o=s*1→nth (tC s ls) o=some (.slice (some ⟨7,0,none⟩) q q):=fun o ho=>(by rw [CS (by omega) ho,hvv]);unfold eP FV;rw [ho7]
 repeat' first
  |(((conv=>whnf);refine bm (fun g=>?_) (fun g=>?_)))
  |((conv=>whnf)
    refine lD (UF D (i:=d.toNat) (by omega) ?_) ?_
    ·show _+Int.toNat d*5+4=_;omega)
  |((conv=>whnf)
    refine lD (key _ ?_) ?_
    ·show _+Int.toNat (bK D d.toNat).tt*1=_;omega)
 all_goals first
  |(exfalso;simp [A7,aA,aG,tF] at g;omega)
  |skip
 (conv=>whnf);refine⟨bE ls s,⟨hq.symm,_,_,_,_,rfl,by rw [List.drop_zero,List.take_length]⟩,?_⟩;((conv=>whnf);refine bm (fun g1=>?_) (fun g1=>?_))
 ·have hxo:(A7 [qC]).A.num ((A7 [qC]).A.bit BinOp.xor ((A7 [qC]).A.fD d) ((A7 [qC]).A.fD 1))=c9 d:=aJQ h1;generalize (A7 [qC]).A.num ((A7 [qC]).A.bit BinOp.xor ((A7 [qC]).A.fD d) ((A7 [qC]).A.fD 1))=bk at hxo;subst hxo;generalize oG (c9 d) (bE ls s) 0=a at h7 h8 hnn;have hix:0≤(a - 1+(q:Int)).tmod q∧(a - 1+(q:Int)).tmod q<q∧(a - 1+(q:Int)).tmod q=(a - 1+(q:Int)) % q:=by
   have e:(a - 1+(q:Int)).tmod q=(a - 1+(q:Int)) % q:=Int.tmod_eq_emod_of_nonneg (by omega);rw [e];exact⟨Int.emod_nonneg _ (by omega),Int.emod_lt_of_pos _ (by omega),rfl⟩
  have hget:∀ o,o=((a - 1+(q:Int)).tmod q).toNat*1→nth (flat aU.fl (bE ls s)) o=some (iv X):=fun o ho=>by
   rw [j1 (bE ls s) (i:=((a - 1+(q:Int)).tmod q).toNat) (by omega) ho,hnn,hix.2.2]
  generalize hz:(a - 1+(q:Int)).tmod q=z at hix hget
  repeat' first
   |(((conv=>whnf);refine bm (fun g=>?_) (fun g=>?_)))
   |((conv=>whnf)
     refine lD (hget _ ?_) ?_
     ·show _+Int.toNat ((a - 1+(q:Int)).tmod q)*1=_;rw [hz];omega)
  all_goals first
   |(exfalso;simp [A7,aA,aG,aK] at g;omega)
   |(exfalso
     have g:(decide (0≤(a - 1+(q:Int)).tmod q)&&decide ((a - 1+(q:Int)).tmod q<q))=false:=g;rw [hz] at g;simp at g;omega)
   |(exfalso
     rename_i g4 g3 g2;simp [A7,aA,aG] at g2 g3 g4;omega)
   |(conv=>whnf)
 ·have g1:decide ((bE ls s).length≤1000000)=false:=g1;exact absurd g1 (by rw [decide_eq_true (by omega)];decide)
end Go.Aw
end
