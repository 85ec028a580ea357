/-
  Parts of a proof. No condition.
-/
import Derived.Test.YticajjhjehljpaaGreatQAm
set_option linter.unusedSimpArgs false
set_option linter.unusedVariables false
noncomputable section
namespace Go.Aw
set_option maxRecDepth 100000
set_option maxHeartbeats 4000000
def JV (N:Nat)(j:Int):List (Nat × Value):=[(3,.pointer (some ⟨3,0,none⟩)),(118,.slice (some ⟨5,0,none⟩) N N),(119,iv N),(120,iv j)]
theorem aPf (l:List Pt)(m:List Ed)(n:Int)(c1 c2:Nat)(hok:cQ l m n=true):body [(104,TV (G6 1000))] 81 [kI l.length m.length c1 c2 n] (aL bC bL l m) 2 (fun v h nx=>PE (.pointer (some ⟨4,0,none⟩)) (aAB l m c1 c2 n (2*m.length) (aQ l m m.length) (outs l m)) 2000 v h nx):=by
 have hsz:l.length≤400∧3≤m.length∧m.length≤400:=by
  simp only [cQ,szB,Bool.and_eq_true,decide_eq_true_eq] at hok;omega
 obtain⟨hl,hm3,hm⟩:=hsz;have hM:kS l m=true:=by
  simp only [cQ,Bool.and_eq_true] at hok;exact PB (by omega) (by omega) (fun i hi=>eG hok.2.1 hi) (fun i hi=>eG hok.2.2.1 hi)
 (conv=>whnf);refine⟨aOe l m n c1 c2,aGV aLN BK (aAH l m n c1 c2 hl).h,?_⟩;rintro e h nx ⟨rfl,rfl,rfl⟩;unfold RU tY aL;(conv=>whnf);refine⟨fun q e h nx=>∃ (i:Nat) (j:Int),j=i∧i≤m.length∧q=m.length - i∧e=BD m c2 j∧((i=0∧h=tY l m c1 c2 n∧nx=6)∨(0<i∧(∃ k,k=2*i∧h=BR l m c1 c2 n k (aQ l m i))∧nx=7)),⟨m.length,?_⟩,?_⟩
 ·refine aJ (e0:=BD m c2 0) (h0:=tY l m c1 c2 n) (n0:=6) ⟨0,0,rfl,Nat.zero_le _,rfl,rfl,.inl ⟨rfl,rfl,rfl⟩⟩ ?_ ?_ (by decide)
  ·unfold BD;((repeat' refine iE rfl rfl ?_);exact iN)
  unfold tY cR aL rJ aR;refine List.forall_mem_cons.2 ⟨⟨Nat.le_of_ble_eq_true rfl,_,rfl,aO (WQ _)⟩,?_⟩;((repeat'(first|refine iF rfl rfl ?_|refine iC rfl rfl rfl ?_|refine iJ rfl rfl rfl rfl ?_));exact iN)
 rintro q e h nx ⟨i,j,hj,hi,rfl,rfl,⟨hi0,rfl,rfl⟩|⟨hip,⟨k,hk,rfl⟩,rfl⟩⟩
 ·subst hi0;unfold BD tY cR aL rJ;((conv=>whnf);apply bm<;>intro h1);rotate_left
  ·exfalso;simp [aA,aC] at h1;omega
  have he:=pL hM (i:=0) (by omega);have pa:=mD hok (i:=(bO m 0).a.toNat) (by omega);have pb:=mD hok (i:=(bO m 0).b.toNat) (by omega)
  repeat' first
   |(((conv=>whnf);apply bm<;>intro g))
   |((conv=>whnf)
     refine n8 (C5 m (i:=0) (by omega) ?_) ?_
     ·show _+Int.toNat j*5=_;omega)
   |((conv=>whnf)
     refine n8 (jA l (i:=(bO m 0).a.toNat) (by omega) ?_) ?_
     ·show _+Int.toNat (bO m 0).a*2=_;omega)
   |((conv=>whnf)
     refine n8 (jA l (i:=(bO m 0).b.toNat) (by omega) ?_) ?_
     ·show _+Int.toNat (bO m 0).b*2=_;omega)
  all_goals first
   |(exfalso;simp [aA,aC,aF] at g;omega)
   |(exfalso;simp [aA,aC] at g;rw [g] at hm3;simp at hm3)
   |skip
  (conv=>whnf);refine⟨m.length - 1,by omega,?_⟩;refine zX (e0:=BD m c2 (j+1)) (h0:=BR l m c1 c2 n 2 (aQ l m 1)) (n0:=7) [(6,10)] ⟨1,_,by omega,by omega,rfl,rfl,.inr ⟨Nat.one_pos,⟨2,rfl,rfl⟩,rfl⟩⟩ ?_ ?_ ?_ (by decide) (by decide)
  ·unfold BD;((repeat' refine iE rfl rfl ?_);exact iN)
  ·unfold BR cR aL rJ;refine List.forall_mem_cons.2 ⟨⟨Nat.le_of_ble_eq_true rfl,_,rfl,bB (aD _ _) (by subst hj;rfl)⟩,List.forall_mem_cons.2 ⟨⟨Nat.le_of_ble_eq_true rfl,_,rfl,aO (WQ _)⟩,?_⟩⟩;((repeat'(first|refine iF rfl rfl ?_|refine iC rfl rfl rfl ?_|refine iJ rfl rfl rfl rfl ?_));exact iN)
  show ∀ k∈[6,5,3,4,2,0,1],∀ k'∈[6,5,3,4,2,0,1],_;decide
 have hdl:=a9 l m i;generalize hD:aQ l m i=D at hdl;unfold BD BR cR aL rJ;((conv=>whnf);apply bm<;>intro h1)
 ·have hlt:i<m.length:=(by simp [aA,aC] at h1;omega);have he:=pL hM (i:=i) (by omega);have pa:=mD hok (i:=(bO m i).a.toNat) (by omega);have pb:=mD hok (i:=(bO m i).b.toNat) (by omega)
  repeat' first
   |((conv=>whnf)
     refine bm2 (k:=k) ?_)
   |(((conv=>whnf);apply bm<;>intro g))
   |((conv=>whnf)
     refine n8 (C5 m (i:=i) (by omega) ?_) ?_
     ·show _+Int.toNat j*5=_;omega)
   |((conv=>whnf)
     refine n8 (jA l (i:=(bO m i).a.toNat) (by omega) ?_) ?_
     ·show _+Int.toNat (bO m i).a*2=_;omega)
   |((conv=>whnf)
     refine n8 (jA l (i:=(bO m i).b.toNat) (by omega) ?_) ?_
     ·show _+Int.toNat (bO m i).b*2=_;omega)
  all_goals first
   |(exfalso;simp [aA,aC,aF] at g;omega)
   |(exfalso;simp [aA,aC] at g;rw [g] at hm3;simp at hm3)
   |skip
  ·(conv=>whnf);refine⟨m.length - (i+1),by omega,?_⟩;refine zX (e0:=BD m c2 (j+1)) (h0:=BR l m c1 c2 n (k+2) (aQ l m (i+1))) (n0:=7) [(6,11)] ⟨i+1,_,by omega,by omega,rfl,rfl,.inr ⟨by omega,⟨k+2,by omega,rfl⟩,rfl⟩⟩ ?_ ?_ ?_ (by decide) (by decide)
   ·unfold BD;((repeat' refine iE rfl rfl ?_);exact iN)
   ·unfold BR cR aL rJ;refine List.forall_mem_cons.2 ⟨⟨Nat.le_of_ble_eq_true rfl,_,rfl,bB (aD _ _) ?_⟩,List.forall_mem_cons.2 ⟨⟨Nat.le_of_ble_eq_true rfl,_,rfl,aO (WQ _)⟩,?_⟩⟩
    ·rw [aQ,hD];have hg:=VH tW D (dA l m i) (dB l m i) (n:=k) (by omega);rw [← hg];unfold dA dB;rw [← hj];rfl
    ((repeat'(first|refine iF rfl rfl ?_|refine iC rfl rfl rfl ?_|refine iJ rfl rfl rfl rfl ?_));exact iN)
   show ∀ k∈[6,5,3,4,2,0,1],∀ k'∈[6,5,3,4,2,0,1],_;decide
  exact aHy (by rw [bE,hdl,hk];rfl) (by omega) g
 have hge:i=m.length:=(by simp [aA,aC] at h1;omega);have hDe:D=aQ l m m.length:=(by rw [← hD,hge]);have hDk:D.length=k:=(by omega);clear hD hdl hip;(conv=>whnf);refine⟨fun q e h nx=>∃ (i:Nat) (j:Int),j=i∧i≤k∧q=k - i∧e=pW k j∧h=gW l m c1 c2 n k D (sD l.length D i) (rZ l.length D i)∧nx=2000,⟨k,?_⟩,?_⟩
 ·refine aJ (e0:=pW k 0) (h0:=gW l m c1 c2 n k D (sD l.length D 0) (rZ l.length D 0)) (n0:=2000) ⟨0,0,rfl,Nat.zero_le _,rfl,rfl,rfl,rfl⟩ ?_ ?_ (by decide)
  ·unfold pW;((repeat' refine iE rfl rfl ?_);exact iN)
  rw [show rZ l.length D 0=List.replicate l.length [] from rfl,aHS];unfold BR cR aL rJ;refine List.forall_mem_cons.2 ⟨⟨Nat.le_of_ble_eq_true rfl,_,rfl,aO (aD _ _)⟩,List.forall_mem_cons.2 ⟨⟨Nat.le_of_ble_eq_true rfl,_,rfl,aO (WQ _)⟩,?_⟩⟩;((repeat'(first|refine iF rfl rfl ?_|refine iC rfl rfl rfl ?_|refine iJ rfl rfl rfl rfl ?_));exact iN)
 rintro q e h nx ⟨i,j,hj,hi,rfl,rfl,rfl,rfl⟩;by_cases hlt:i<k
 ·have hf:=fC (l:=l) hM (i:=i) (by omega);rw [← hDe] at hf;have hol:=o9 l.length D i;have hle:=FE l.length D i (cA D i).fr.toNat fun i' hi'=>by
   have:=(fC (l:=l) hM (i:=i') (by omega));rw [← hDe] at this;omega
  have hnx:rZ l.length D (i+1)=(rZ l.length D i).set (cA D i).fr.toNat (bQ (rZ l.length D i) (cA D i).fr.toNat++[(cA D i).no]):=rfl;rw [show sD l.length D i=(cA D i).fr.toNat from if_pos (by omega)];generalize rZ l.length D i=ls at hol hnx hle ⊢;generalize hs:(cA D i).fr.toNat=s at hnx hle ⊢;by_cases h0:(bQ ls s).length=0
  ·have ho7:op7 (bQ ls s)=[]:=if_pos h0;have hvv:tV (tN s s) (bQ ls s)=aR:=if_pos h0;have key:∀ o,o=s*1→nth (tC s ls) o=some aR:=fun o ho=>(by rw [I9 (by omega) ho,hvv]);unfold pW gW cR rJ;rw [ho7]
   repeat' first
    |(((conv=>whnf);apply bm<;>intro g))
    |((conv=>whnf)
      refine n8 (aIO D (i:=i) (by omega) ?_) ?_
      ·show _+Int.toNat j*5=_;omega)
    |((conv=>whnf)
      refine iU (key _ ?_) ?_
      ·show _+Int.toNat (cA D i).fr*1=_;omega)
   all_goals first
    |(exfalso;simp [aA,aC,aF] at g;omega)
    |(exfalso;simp [aA,aC] at g;rw [g] at hm3;simp at hm3)
    |(exfalso
      have hb:Nat.ble (0+Int.toNat (cA D i).fr*1+1) (tC s ls).length=true:=Nat.ble_eq_true_of_le (by rw [mJ];omega);exact Bool.false_ne_true (g.symm.trans hb))
    |skip
   (conv=>whnf);refine⟨k - (i+1),by omega,?_⟩;refine aIR (s:=s) (s':=sD l.length D (i+1)) (q:=1) (ls:=ls) (x:=(cA D i).no) (j:=j+1) (D:=D) (k:=k) (l:=l) (m:=m) (c1:=c1) (c2:=c2) (n:=n) (by omega) (by omega) ⟨i+1,j+1,by omega,by omega,rfl,rfl,congrArg (gW l m c1 c2 n k D (sD l.length D (i+1))) hnx.symm,rfl⟩ ?_ ?_ (by omega) ?_ ?_ ?_
   ·unfold pW;exact List.forall_mem_cons.2 ⟨rfl,List.forall_mem_cons.2 ⟨rfl,List.forall_mem_cons.2 ⟨rfl,List.forall_mem_cons.2 ⟨rfl,fun _ h=>(by cases h)⟩⟩⟩⟩
   ·unfold tU cR rJ;exact List.forall_mem_cons.2 ⟨rfl,List.forall_mem_cons.2 ⟨rfl,List.forall_mem_cons.2 ⟨rfl,List.forall_mem_cons.2 ⟨rfl,List.forall_mem_cons.2 ⟨rfl,List.forall_mem_cons.2 ⟨rfl,fun _ h=>(by cases h)⟩⟩⟩⟩⟩⟩
   ·show some (bV.cells true false 1 (eJ (tC s ls) (0+Int.toNat (cA D i).fr*1) [.slice (some ⟨2002,0,none⟩) 1 1]))=_;rw [TR (i:=s) (by omega) (by rw [mJ];omega)]
   ·rw [List.eq_nil_of_length_eq_zero h0];rfl
   intro i1 a1 a2 a3
   repeat first
    |rw [lK _ _ (by omega)]
    |rw [jW _ _ (by omega)]
    |rw [bA (by omega)]
     |rw [dW,if_neg (by omega)]
   exact lM a2 a3 a1
  have ho7:op7 (bQ ls s)=[(7,.cells true false 1 (flat aT.fl (bQ ls s)))]:=if_neg h0;generalize hq:(bQ ls s).length=q at h0 hle;have hvv:tV (tN s s) (bQ ls s)=.slice (some ⟨7,0,none⟩) q q:=(by rw [tV,if_neg (by omega),tN,if_pos rfl,hq]);have hqk:q≤1000:=(by omega);have key:∀ o,o=s*1→nth (tC s ls) o=some (.slice (some ⟨7,0,none⟩) q q):=fun o ho=>(by rw [I9 (by omega) ho,hvv]);unfold pW gW cR rJ;rw [ho7]
  repeat' first
   |((conv=>whnf)
     refine bm1 (k:=q) ?_)
   |(((conv=>whnf);apply bm<;>intro g))
   |((conv=>whnf)
     refine n8 (aIO D (i:=i) (by omega) ?_) ?_
     ·show _+Int.toNat j*5=_;omega)
   |((conv=>whnf)
     refine iU (key _ ?_) ?_
     ·show _+Int.toNat (cA D i).fr*1=_;omega)
  all_goals first
   |(exfalso;simp [aA,aC,aF] at g;omega)
   |(exfalso;simp [aA,aC] at g;rw [g] at hm3;simp at hm3)
   |(exfalso
     have hb:Nat.ble (0+Int.toNat (cA D i).fr*1+1) (tC s ls).length=true:=Nat.ble_eq_true_of_le (by rw [mJ];omega);exact Bool.false_ne_true (g.symm.trans hb))
   |skip
  ·(conv=>whnf);refine⟨k - (i+1),by omega,?_⟩;refine aIR (s:=s) (s':=sD l.length D (i+1)) (q:=q+1) (ls:=ls) (x:=(cA D i).no) (j:=j+1) (D:=D) (k:=k) (l:=l) (m:=m) (c1:=c1) (c2:=c2) (n:=n) (by omega) (by omega) ⟨i+1,j+1,by omega,by omega,rfl,rfl,congrArg (gW l m c1 c2 n k D (sD l.length D (i+1))) hnx.symm,rfl⟩ ?_ ?_ (by omega) ?_ ?_ ?_
   ·unfold pW;exact List.forall_mem_cons.2 ⟨rfl,List.forall_mem_cons.2 ⟨rfl,List.forall_mem_cons.2 ⟨rfl,List.forall_mem_cons.2 ⟨rfl,fun _ h=>(by cases h)⟩⟩⟩⟩
   ·unfold tU cR rJ;exact List.forall_mem_cons.2 ⟨rfl,List.forall_mem_cons.2 ⟨rfl,List.forall_mem_cons.2 ⟨rfl,List.forall_mem_cons.2 ⟨rfl,List.forall_mem_cons.2 ⟨rfl,List.forall_mem_cons.2 ⟨rfl,fun _ h=>(by cases h)⟩⟩⟩⟩⟩⟩
   ·show some (bV.cells true false 1 (eJ (tC s ls) (0+Int.toNat (cA D i).fr*1) [.slice (some ⟨2002,0,none⟩) (q+1) (q+1)]))=_;rw [TR (i:=s) (by omega) (by rw [mJ];omega)]
   ·have hg:=fU aT (bQ ls s) (cA D i).no (n:=q) hq.symm;unfold ob;rw [← hg];rfl
   intro i1 a1 a2 a3
   repeat first
    |rw [lK _ _ (by omega)]
    |rw [jW _ _ (by omega)]
    |rw [bA (by omega)]
    |rw [dW,if_neg (by omega)]
   show look ((7,_)::tH s ls ls.length) _=_;rw [bA (by omega)];exact lM a2 a3 a1
  exact nN (by rw [bE,hq];rfl) (by omega) g
 have hik:i=k:=(by omega);subst hik;clear hlt hi;rw [show sD l.length D i=l.length from if_neg (by omega)];have hol:=o9 l.length D i;have hfr:∀ i',i'<i→(cA D i').fr.toNat<l.length∧(cA D i').no=i':=fun i' hi'=>by
  have:=(fC (l:=l) hM (i:=i') (by omega));rw [← hDe] at this;omega
 have hout:∀ s,s<l.length→(bQ (rZ l.length D i) s).length≠0∧(bQ (rZ l.length D i) s).length≤1000∧inR D (bQ (rZ l.length D i) s)=true:=fun s hs=>by
  refine⟨?_,?_,?_⟩
  ·rw [FL i hfr s,hDe,show i=2*m.length by omega];exact ZP hok hs
  ·have:=FE l.length D i s fun i' hi'=>(hfr i' hi').1;omega
  rw [FL i hfr s];refine List.all_eq_true.2 fun x hx=>?_;obtain⟨i',h1,rfl,_⟩:=OJ hx;simp only [Bool.and_eq_true,decide_eq_true_eq];omega
 have hW:aFr D=true:=(by rw [hDe];exact aEz hok hM);generalize hlsE:rZ l.length D i=ls at hol hout ⊢;unfold pW gW cR rJ;((conv=>whnf);apply bm<;>intro h1)
 ·exfalso;simp [aA,aC] at h1;omega
 (conv=>whnf);refine⟨fun q e h nx=>∃ (t:Nat) (j:Int),j=t∧t≤l.length∧q=l.length - t∧e=JV l.length j∧h=gW l m c1 c2 n i D l.length (srN D ls t)∧nx=2000,⟨l.length,?_⟩,?_⟩
 ·refine QX (e0:=JV l.length 0) (ls:=srN D ls 0) (by rw [tG];omega) (by rw [tG];omega) ⟨0,0,rfl,Nat.zero_le _,rfl,rfl,rfl,rfl⟩ ?_ ?_ rfl ?_
  ·unfold JV;((repeat' refine iE rfl rfl ?_);exact iN)
  ·unfold tU cR rJ;exact List.forall_mem_cons.2 ⟨rfl,List.forall_mem_cons.2 ⟨rfl,List.forall_mem_cons.2 ⟨rfl,List.forall_mem_cons.2 ⟨rfl,List.forall_mem_cons.2 ⟨rfl,List.forall_mem_cons.2 ⟨rfl,fun _ h=>(by cases h)⟩⟩⟩⟩⟩⟩
  intro i1 a1 a2;rw [mR (by omega)]
  repeat rw [bA (by omega)]
  exact lM (by have:=tG D ls 0;omega) a2 a1
 rintro q e h nx ⟨t,j,hj,ht,rfl,rfl,rfl,rfl⟩;have hsl:=tG D ls t;have hat:=T0 D ls (i:=t) (by omega);have hnx:srN D ls (t+1)=(srN D ls t).set t (pP D 1000 (bQ ls t)):=rfl;generalize hls':srN D ls t=ls' at hsl hat hnx ⊢;by_cases hlt:t<l.length
 ·obtain⟨o1,o2,o3⟩:=hout t hlt;have hA:bQ ls' t=bQ ls t:=(by rw [hat,if_neg (by omega)]);generalize hq:(bQ ls t).length=q at o1 o2;have key:∀ o,o=t*1→nth (tC l.length ls') o=some (.slice (some ⟨t+1000,0,none⟩) q q):=fun o ho=>by
   rw [I9 (by omega) ho,tV,hA,if_neg (by omega),tN,if_neg (by omega),hq]
  have ho7:op7 (bQ ls' l.length)=[]:=mR (by omega);unfold JV gW cR rJ;rw [ho7]
  repeat' first
   |(((conv=>whnf);apply bm<;>intro g))
   |((conv=>whnf)
     refine iU (key _ ?_) ?_
     ·show _+Int.toNat j*1=_;omega)
  all_goals first
   |(exfalso;simp [aA,aC,aF] at g;omega)
   |skip
  (conv=>whnf);refine⟨t+1000,q,[],(3,0),bQ ls t,.dirs D,by rw [hq];rfl,?_,?_,?_,?_⟩
  ·repeat rw [bA (by omega)]
   rw [← hA];exact lM (by omega) (by rw [hA,hq];exact o1) (by omega)
  ·exact cJ (cJ (cJ (cJ (cJ (cJ (cJ (MX _ _ _)))))))
  ·refine⟨4,6,0,1,true,false,1,[],true,false,1,[.slice (some ⟨5,0,none⟩) l.length l.length,aR],true,false,5,flat tW.fl D,l.length,c1,m.length,c2,n,i,?_,?_,?_,?_⟩
   ·rw [dW,if_neg (by omega)];rfl
   ·rw [dW,if_neg (by omega),hDk];rfl
   ·rw [dW,if_neg (by omega)];rfl
   exact List.take_length
  rw [aHL (by rw [hq];exact o2) (by omega) o3 hW];refine aI rfl ?_;((conv=>whnf);apply bm<;>intro g2);rotate_left
  ·exfalso;simp [aA,aC,aF] at g2;omega
  (conv=>whnf);refine⟨l.length - (t+1),by omega,?_⟩;have hlen:∀ i1,(bQ (ls'.set t (pP D 1000 (bQ ls t))) i1).length=(bQ ls' i1).length:=fun i1=>by
   rw [xK _ (by omega)];split
   ·rename_i e;rw [rO,e,hA]
   rfl
  refine QX (e0:=JV l.length (j+1)) (ls:=ls'.set t (pP D 1000 (bQ ls t))) (s:=l.length) (k:=i) (D:=D) (l:=l) (m:=m) (c1:=c1) (c2:=c2) (n:=n) (by rw [List.length_set];omega) (by rw [List.length_set];omega) ⟨t+1,j+1,by omega,by omega,rfl,rfl,congrArg (gW l m c1 c2 n i D l.length) hnx.symm,rfl⟩ ?_ ?_ ?_ ?_
  ·unfold JV;((repeat' refine iE rfl rfl ?_);exact iN)
  ·unfold tU cR rJ;exact List.forall_mem_cons.2 ⟨rfl,List.forall_mem_cons.2 ⟨rfl,List.forall_mem_cons.2 ⟨rfl,List.forall_mem_cons.2 ⟨rfl,List.forall_mem_cons.2 ⟨rfl,List.forall_mem_cons.2 ⟨rfl,fun _ h=>(by cases h)⟩⟩⟩⟩⟩⟩
  ·rw [aCe (List.length_set) (fun i1 _=>hlen i1)];rfl
  intro i1 a1 a2;rw [List.length_set] at a1;rw [hlen] at a2;rw [xK _ (by omega)];by_cases e:i1=t
  ·rw [if_pos e,e,KT];rfl
  rw [if_neg e,lK _ _ (by omega)]
  repeat rw [bA (by omega)]
  exact lM (by omega) a2 a1
 unfold JV gW cR rJ;((conv=>whnf);apply bm<;>intro h1)
 ·exfalso;simp [aA,aC] at h1;omega
 (conv=>whnf);have htt:t=l.length:=(by omega);subst htt;have hi2:i=2*m.length:=(by omega);refine aDp (k:=2*m.length) (D:=aQ l m m.length) (ls:=outs l m) (s:=l.length) (by rw [fP];omega) (fP l m) ?_;unfold outs;rw [← hDe,← hi2,hlsE,hls'];rfl
def qU:Value→Nat
 |.slice (some _) _ c=>c
 |_=>0
section
variable {α β:Type}(E:El α)(G:El β)
theorem aE1 {h:Heap}{nx:Nat}{v:Value}{l:List α}(hl:jG E h v l):In [.slice (some ⟨0,0,none⟩) l.length (qU v)] [(0,.cells false true E.sz (flat E.fl l))] 1 [v] h nx:=by
 unfold jG at hl;split at hl
 ·rename_i n c;obtain⟨rfl,rfl,rfl⟩:=hl;exact V1 rfl true E.sz E.pos
 ·rename_i k o n c;obtain⟨rfl,wr,g,sz,cs,hk,hcs⟩:=hl;exact aEx rfl hk hcs (aD E l) true E.sz E.pos
 exact hl.elim
theorem OA {p q:Value}{n:Int}{r:List Value}(hr:eX r=true){h:Heap}{nx:Nat}{l:List α}{m:List β}(hl:jG E h p l)(hm:jG G h q m) :
  In (kI l.length m.length (qU p) (qU q) n::r) (aL E G l m) 2 (mapA p q n::r) h nx :=
 aDr hr (TY rfl rfl (aE1 (nx:=nx) E hl) (aE1 (nx:=nx) G hm) ⟨_,_,rfl,aD E l⟩ ⟨_,_,rfl,aD G m⟩) ⟨_,_,_,rfl⟩ ⟨_,_,_,rfl⟩
end
theorem AE (s:Nat)(ls:List (List Int)):∀ n,iX (tH s ls n)=true
 |0=>rfl
 |n+1=>by
  unfold tH;split
  ·exact AE s ls n
  exact AE s ls n
theorem VD {l:List Pt}{m:List Ed}{c1 c2:Nat}{n:Int}{k:Nat}{D:List Dt}{ls:List (List Int)}:iX (aAB l m c1 c2 n k D ls)=true:=AE _ _ _
def aGO (l:List Pt)(m:List Ed)(c1 c2:Nat)(n:Int):Heap:=aAB l m c1 c2 n (2*m.length) (aQ l m m.length) (outs l m)
def X6:Nat × XF:=(81,fun args h nx K=>∃ l m n p q,args=[mapA p q n]∧jG bC h p l∧jG bL h q m∧cQ l m n=true∧K (.pointer (some ⟨nx+4,0,none⟩)) (app (oD nx (aGO l m (qU p) (qU q) n)) (eP h)) (nx+2000))
theorem aOC:cO Go.Proofs.Tryz.prog X6.1 X6.2:=by
 refine (gO (S:=fun args0 h0 n0 v1 h1 j=>∃ l m n c1 c2,cQ l m n=true∧args0=[kI l.length m.length c1 c2 n]∧h0=aL bC bL l m∧n0=2∧v1=.pointer (some ⟨4,0,none⟩)∧h1=aGO l m c1 c2 n∧j=2000) (aH (xl:=[(104,TV (G6 1000))]) (.cons (aCY 1000) .nil)) ?_).mono ?_ ?_
 ·rintro args0 h0 n0 v1 h1 j ⟨l,m,n,c1,c2,hok,rfl,rfl,rfl,rfl,rfl,rfl⟩;exact⟨VD,_,aPf l m n c1 c2 hok,fun v h nx e=>e⟩
 ·rintro args h nx K ⟨l,m,n,p,q,rfl,hl,hm,hok,hx⟩;exact⟨_,_,2,_,_,_,⟨l,m,n,qU p,qU q,hok,rfl,rfl,rfl,rfl,rfl,rfl⟩,OA bC bL rfl hl hm,hx⟩
 rintro args h nx K ⟨l,m,n,p,q,rfl,hl,hm,hok,hx⟩;exact⟨_,_,_,hx,fun K' hk=>⟨l,m,n,p,q,rfl,hl,hm,hok,hk⟩⟩
def tE (x:Int):List Int→Nat→Int
 |[],_=>-1
 |b::r,i=>if x=b then i else tE x r (i+1)
def aKh (l:List Int):List Value→Option (Bool × Value)
 |[.int .i64 x]=>some (decide (l.length≤1000000),iv (tE x l 0))
 |_=>none
theorem aEf {l:List Int}{r:List Value}{v:Value}(hs:aKh l r=some (true,v)):∃ x,r=[iv x]∧l.length≤1000000∧v=iv (tE x l 0):=by
 unfold aKh at hs;split at hs
 ·rename_i x;injection hs with hs;injection hs with h1 h2;exact⟨x,rfl,by simpa using h1,h2.symm⟩
 ·cases hs
def aBC (x:Int)(l:List Int)(c:Nat)(j:Int):List (Nat × Value):=[(0,.slice (some ⟨0,0,none⟩) l.length c),(1,iv x),(7,iv l.length),(8,iv j)]
def hIn (l:List Int):Heap:=[(0,.cells false true 1 (flat aT.fl l))]
def uV:Nat × XF:=(88,lX aT aKh)
theorem aNk:cO Go.Proofs.Tryz.prog uV.1 uV.2:=HI aT (aH (xl:=[]) .nil) fun l r v hs=>by
 obtain⟨x,rfl,hlen,rfl⟩:=aEf hs;refine⟨rfl,rfl,fun c=>?_⟩;(conv=>whnf);refine⟨fun q e h nx=>∃ (i:Nat) (j:Int),j=i∧i≤l.length∧q=l.length - i∧tE x l 0=tE x (l.drop i) i∧e=aBC x l c j∧h=hIn l∧nx=1,⟨l.length,?_⟩,?_⟩
 ·refine aJ (e0:=aBC x l c 0) (h0:=hIn l) (n0:=1) ⟨0,0,rfl,Nat.zero_le _,rfl,rfl,rfl,rfl,rfl⟩ ?_ ?_ (by decide)
  ·unfold aBC;((repeat' refine iE rfl rfl ?_);exact iN)
  unfold hIn;((repeat'(first|refine iF rfl rfl ?_|refine iC rfl rfl rfl ?_|refine iJ rfl rfl rfl rfl ?_));exact iN)
 rintro q e h nx ⟨i,j,hj,hi,rfl,hb,rfl,rfl,rfl⟩;unfold aBC hIn;((conv=>whnf);apply bm<;>intro h1);rotate_left
 ·have hge:l.length≤i:=(by simp [aA,aC] at h1;omega);(conv=>whnf);rw [hb,List.drop_eq_nil_of_le hge];rfl
 have hlt:i<l.length:=(by simp [aA,aC] at h1;omega);have hd:l.drop i=aK l i::l.drop (i+1):=(by rw [cX hlt];exact List.drop_eq_getElem_cons hlt);rw [hd,tE] at hb;((conv=>whnf);apply bm<;>intro h2);rotate_left
 ·exfalso;simp [aA,aC] at h2;omega
 (conv=>whnf);refine iU (iA l (i:=i) hlt ?_) ?_
 ·show _+Int.toNat j*1=_;omega
 ((conv=>whnf);apply bm<;>intro h3)
 ·have h3:x=aK l i:=(by simpa [aA,aC] using h3);(conv=>whnf);rw [hb,if_pos h3,hj]
 have h3:¬ x=aK l i:=(by simpa [aA,aC] using h3);((conv=>whnf);apply bm<;>intro h4)
 ·(conv=>whnf);refine⟨l.length - (i+1),by omega,?_⟩;refine aJ (e0:=aBC x l c (j+1)) (h0:=hIn l) (n0:=1) ⟨i+1,j+1,by omega,hlt,rfl,by rw [hb,if_neg h3],rfl,rfl,rfl⟩ ?_ ?_ (by decide)
  ·unfold aBC;((repeat' refine iE rfl rfl ?_);exact iN)
  unfold hIn;((repeat'(first|refine iF rfl rfl ?_|refine iC rfl rfl rfl ?_|refine iJ rfl rfl rfl rfl ?_));exact iN)
 exfalso;simp [aA,aC,aF] at h4;omega
def fcV (k:Nat):Option (Nat × Nat)→Value
 |none=>aR
 |some (a,b)=>.slice (some ⟨k,0,none⟩) a b
theorem aAn {ρ:Nat→Nat}{k:Nat}{o:Option (Nat × Nat)}:bY ρ (fcV k o)=fcV (ρ k) o:=by
 cases o with
 |none=>rfl
 |some p=>rfl
theorem aDa {k n:Nat}{o:Option (Nat × Nat)}(h:k<n):E4 n (fcV k o):=by
 cases o with
 |none=>exact cN rfl
 |some p=>exact⟨h,fun h=>by cases h⟩
def J3 (k0 k1 kd kt kf:Nat)(nP nE nD nL c1 c2:Nat)(n:Int)(fo:Option (Nat × Nat)):List Value :=
 [.slice (some ⟨k0,0,none⟩) nP c1,.slice (some ⟨k1,0,none⟩) nE c2,iv n,.slice (some ⟨kd,0,none⟩) nD nD,.slice (some ⟨kt,0,none⟩) nL nL,fcV kf fo]
structure xX (h:Heap) (p k0 k1 kd kt kf:Nat) (nm:Nat→Nat) (l:List Pt) (D:List Dt) (ls:List (List Int)) (nE c1 c2:Nat) (n:Int) (fo:Option (Nat × Nat)):Prop where
 st:∃ wr g sz,look h p=some (.cells wr g sz (J3 k0 k1 kd kt kf l.length nE D.length ls.length c1 c2 n fo))
 pt:∃ wr g sz cs,look h k0=some (.cells wr g sz cs)∧cs.take (flat bC.fl l).length=flat bC.fl l
 da:∃ wr g sz cs,look h kd=some (.cells wr g sz cs)∧cs.take (flat tW.fl D).length=flat tW.fl D
 tb:∃ wr g sz,look h kt=some (.cells wr g sz ((List.range ls.length).map fun i=>tV (nm i) (bQ ls i)))
 li:∀ i,i<ls.length→(bQ ls i).length≠0→∃ wr g sz cs,look h (nm i)=some (.cells wr g sz cs)∧cs.take (flat aT.fl (bQ ls i)).length=flat aT.fl (bQ ls i)
def gG (l:List Pt)(D:List Dt)(ls:List (List Int))(nE c1 c2:Nat)(n:Int)(fo:Option (Nat × Nat))(s:Nat):Heap :=
 (0,.cells false false 1 (J3 4 5 1 2 6 l.length nE D.length ls.length c1 c2 n fo))::(1,.cells false true 5 (flat tW.fl D))::(2,.cells false false 1 (tC s ls))::(4,.cells false true 2 (flat bC.fl l))::(eP (op7 (bQ ls s))++eP (tH s ls ls.length))
def rhW (p k0 k1 kd kt kf k3:Nat)(nm:Nat→Nat)(s:Nat)(k:Nat):Nat :=
 if 1000≤k then nm (k - 1000) else if k=0 then p else if k=1 then kd else if k=2 then kt else if k=3 then k3 else if k=4 then k0 else if k=5 then k1 else if k=6 then kf else nm s
theorem aIJ {p k0 k1 kd kt kf k3:Nat}{nm:Nat→Nat}{s i:Nat}:rhW p k0 k1 kd kt kf k3 nm s (tN s i)=nm i:=by
 unfold tN;split
 ·rename_i e;rw [e];rfl
 unfold rhW;rw [if_pos (by omega),Nat.add_sub_cancel]
theorem K2 {h:Heap}{k:Nat}{o:bV}(hm:(k,o)∈eP h):∃ o',(k,o')∈h∧o=o'.closed:=by
 induction h with
 |nil=>cases hm
 |cons x r ih =>
  obtain⟨j,q⟩:=x;unfold eP at hm;rcases List.mem_cons.1 hm with e|hm
  ·injection e with e1 e2;subst e1 e2;exact⟨q,.head _,rfl⟩
  obtain⟨o',h1,h2⟩:=ih hm;exact⟨o',.tail _ h1,h2⟩
theorem HM {l:List Pt}{D:List Dt}{ls:List (List Int)}{nE c1 c2:Nat}{n:Int}{fo:Option (Nat × Nat)}{s k:Nat}{o:bV}(h:(k,o)∈gG l D ls nE c1 c2 n fo s) :
  (k=0∧o=.cells false false 1 (J3 4 5 1 2 6 l.length nE D.length ls.length c1 c2 n fo))∨(k=1∧o=.cells false true 5 (flat tW.fl D))∨(k=2∧o=.cells false false 1 (tC s ls))∨(k=4∧o=.cells false true 2 (flat bC.fl l)) ∨
  ∃ i,i<ls.length∧(bQ ls i).length≠0∧k=tN s i∧o=.cells false false 1 (flat aT.fl (bQ ls i)):=by
 unfold gG at h;simp only [List.mem_cons,List.mem_append] at h;rcases h with h|h|h|h|h|h
 ·injection h with e1 e2;exact .inl ⟨e1,e2⟩
 ·injection h with e1 e2;exact .inr (.inl ⟨e1,e2⟩)
 ·injection h with e1 e2;exact .inr (.inr (.inl ⟨e1,e2⟩))
 ·injection h with e1 e2;exact .inr (.inr (.inr (.inl ⟨e1,e2⟩)))
 ·obtain⟨o',h1,h2⟩:=K2 h;unfold op7 at h1;split at h1
  ·cases h1
  rename_i hc;simp only [List.mem_cons,List.not_mem_nil,or_false] at h1;injection h1 with e1 e2;subst e1 e2 h2;refine .inr (.inr (.inr (.inr ⟨s,?_,hc,by unfold tN;rw [if_pos rfl],rfl⟩)));refine Decidable.byContradiction fun hq=>hc ?_;unfold bQ;rw [List.getD_eq_getElem?_getD,List.getElem?_eq_none (by omega)];rfl
 obtain⟨o',h1,h2⟩:=K2 h;obtain⟨i,a1,a2,a3,a4⟩:=C8 h1;injection a4 with e1 e2;subst e1 e2 h2;exact .inr (.inr (.inr (.inr ⟨i,a1,a3,by unfold tN;rw [if_neg a2],rfl⟩)))
theorem aJi {s i n:Nat}(h:i+1000<n):tN s i<n:=by
 unfold tN;split <;> omega
theorem OS {h:Heap}{p k0 k1 kd kt kf k3:Nat}{nm:Nat→Nat}{l:List Pt}{D:List Dt}{ls:List (List Int)}{nE c1 c2:Nat}{n:Int}{fo:Option (Nat × Nat)}(hw:xX h p k0 k1 kd kt kf nm l D ls nE c1 c2 n fo)(hn:ls.length≤1000)(s:Nat) :
  ∀ k o,look (gG l D ls nE c1 c2 n fo s) k=some o→k<2000∧∃ g sz cs0,o=.cells false g sz cs0∧sz≠0∧(g=true→dP cs0=true)∧(∀ v∈cs0,E4 2000 v)∧∃ wr g' sz' cs,look h (rhW p k0 k1 kd kt kf k3 nm s k)=some (.cells wr g' sz' cs)∧cs.take cs0.length=cs0.map (bY (rhW p k0 k1 kd kt kf k3 nm s)):=by
 intro k o hk;have hsl:∀ {q a b:Nat},q<2000→E4 2000 (.slice (some ⟨q,0,none⟩) a b):=fun hq=>⟨hq,fun h=>by cases h⟩;rcases HM (aY hk) with ⟨rfl,rfl⟩|⟨rfl,rfl⟩|⟨rfl,rfl⟩|⟨rfl,rfl⟩|⟨i,hi,h0,rfl,rfl⟩
 ·obtain⟨wr,g,sz,h1⟩:=hw.st;refine⟨by omega,false,1,_,rfl,by omega,(fun h=>by cases h),?_,wr,g,sz,_,h1,?_⟩
  ·unfold J3;exact List.forall_mem_cons.2 ⟨hsl (by omega),List.forall_mem_cons.2 ⟨hsl (by omega),List.forall_mem_cons.2 ⟨cN rfl,List.forall_mem_cons.2 ⟨hsl (by omega),List.forall_mem_cons.2 ⟨hsl (by omega),List.forall_mem_cons.2 ⟨aDa (by omega),fun _ h=>(by cases h)⟩⟩⟩⟩⟩⟩
  show _=[_,_,_,_,_,bY _ (fcV 6 fo)];rw [aAn];rfl
 ·obtain⟨wr,g,sz,cs,h1,h2⟩:=hw.da;exact⟨by omega,true,5,_,rfl,by omega,fun _=>aD tW D,fun v hv=>cN (aW (aD tW D) hv),wr,g,sz,cs,h1,by rw [h2];exact (bJ (aD tW D)).symm⟩
 ·obtain⟨wr,g,sz,h1⟩:=hw.tb;refine⟨by omega,false,1,_,rfl,by omega,(fun h=>by cases h),L6 (by omega) (by omega),wr,g,sz,_,h1,?_⟩;rw [show (tC s ls).length=((List.range ls.length).map fun i=>tV (nm i) (bQ ls i)).length by rw [mJ];simp,List.take_length];unfold tC;rw [List.map_map];refine List.map_congr_left fun i hi=>?_;show _=bY _ (tV (tN s i) (bQ ls i));rw [IH,aIJ]
 ·obtain⟨wr,g,sz,cs,h1,h2⟩:=hw.pt;exact⟨by omega,true,2,_,rfl,by omega,fun _=>aD bC l,fun v hv=>cN (aW (aD bC l) hv),wr,g,sz,cs,h1,by rw [h2];exact (bJ (aD bC l)).symm⟩
 obtain⟨wr,g,sz,cs,h1,h2⟩:=hw.li i hi h0;exact⟨aJi (by omega),false,1,_,rfl,by omega,(fun h=>by cases h),fun v hv=>cN (aW (aD aT _) hv),wr,g,sz,cs,by rw [aIJ];exact h1,by rw [h2];exact (bJ (aD aT _)).symm⟩
theorem aD0 {h:Heap}{p k0 k1 kd kt kf:Nat}{nm:Nat→Nat}{l:List Pt}{D:List Dt}{ls:List (List Int)}{nE c1 c2:Nat}{n:Int}{fo:Option (Nat × Nat)}(hw:xX h p k0 k1 kd kt kf nm l D ls nE c1 c2 n fo)(hn:ls.length≤1000)(s:Nat){r:List Value}(hr:eX r=true){nx:Nat} :
  In (.pointer (some ⟨0,0,none⟩)::r) (gG l D ls nE c1 c2 n fo s) 2000 (.pointer (some ⟨p,0,none⟩)::r) h nx:=by
 refine tB (rhW p k0 k1 kd kt kf 0 nm s) ?_ ?_ (OS hw hn s)
 ·rw [List.map_cons];congr 1
  conv=>lhs;rw [← List.map_id r]
  exact List.map_congr_left fun v hv=>by rw [iM,jH (cD hr hv)];rfl
 exact List.forall_mem_cons.2 ⟨⟨Nat.le_of_ble_eq_true rfl,rfl⟩,fun v hv=>cG (cD hr hv)⟩
theorem aGt {h:Heap}{p k0 k1 kd kt kf k3:Nat}{nm:Nat→Nat}{l:List Pt}{D:List Dt}{ls:List (List Int)}{nE c1 c2:Nat}{n:Int}{fo:Option (Nat × Nat)}(hw:xX h p k0 k1 kd kt kf nm l D ls nE c1 c2 n fo)(hn:ls.length≤1000)(s:Nat){L:List Int}{c:Nat}
  (hL:∃ wr g sz cs,look h k3=some (.cells wr g sz cs)∧cs.take (flat aT.fl L).length=flat aT.fl L) {nx:Nat} :
  In [.pointer (some ⟨0,0,none⟩),.slice (some ⟨3,0,none⟩) L.length c] ((3,.cells false true 1 (flat aT.fl L))::gG l D ls nE c1 c2 n fo s) 2000 [.pointer (some ⟨p,0,none⟩),.slice (some ⟨k3,0,none⟩) L.length c] h nx:=by
 refine tB (rhW p k0 k1 kd kt kf k3 nm s) rfl ?_ fun k o hk=>?_
 ·exact List.forall_mem_cons.2 ⟨⟨Nat.le_of_ble_eq_true rfl,rfl⟩,List.forall_mem_cons.2 ⟨⟨Nat.le_of_ble_eq_true rfl,fun h=>by cases h⟩,fun _ h=>(by cases h)⟩⟩
 rw [aB] at hk;split at hk
 ·rename_i hb;injection hk with hk;subst hk;have:=beq_true hb;subst this;obtain⟨wr,g,sz,cs,h1,h2⟩:=hL;exact⟨by omega,true,1,_,rfl,by omega,fun _=>aD aT L,fun v hv=>cN (aW (aD aT L) hv),wr,g,sz,cs,h1,by rw [h2];exact (bJ (aD aT L)).symm⟩
 exact OS hw hn s k o hk
def wbX (s:List Pt→List Dt→List (List Int)→List Value→Option (Bool × Value)):XF:=fun args h nx K =>
 ∃ p r k0 k1 kd kt kf nm l D ls nE c1 c2 n fo,args=.pointer (some ⟨p,0,none⟩)::r∧xX h p k0 k1 kd kt kf nm l D ls nE c1 c2 n fo∧(match s l D ls r with|some pr=>dQ pr.1 (K pr.2 h nx)|none=>False)
theorem VA {P:Program}{C:VC}{f:Nat}{s:List Pt→List Dt→List (List Int)→List Value→Option (Bool × Value)}(hC:bF P C)
  (hs:∀ l D ls r v,s l D ls r=some (true,v)→eX r=true∧gT v=true∧ls.length≤1000∧∃ s0,∀ nE c1 c2 n fo,C f (.pointer (some ⟨0,0,none⟩)::r) (gG l D ls nE c1 c2 n fo s0) 2000 (fun u _ _=>u=v)):cO P f (wbX s):=by
 refine (gO (S:=fun args0 h0 n0 v1 h1 k=>∃ l D ls r s0 nE c1 c2 n fo,s l D ls r=some (true,v1)∧gT v1=true∧C f (.pointer (some ⟨0,0,none⟩)::r) (gG l D ls nE c1 c2 n fo s0) 2000 (fun u _ _=>u=v1)∧args0=.pointer (some ⟨0,0,none⟩)::r∧h0=gG l D ls nE c1 c2 n fo s0∧n0=2000∧h1=[]∧k=0) hC ?_).mono ?_ ?_
 ·rintro args0 h0 n0 v1 h1 k ⟨l,D,ls,r,s0,nE,c1,c2,n,fo,e1,e2,e3,rfl,rfl,rfl,rfl,rfl⟩;exact⟨rfl,_,e3,fun v h nx e=>by rw [e];exact lA e2⟩
 ·rintro args h nx K ⟨p,r,k0,k1,kd,kt,kf,nm,l,D,ls,nE,c1,c2,n,fo,rfl,hw,hx⟩;split at hx
  case h_2=>exact hx.elim
  rename_i pr e1;obtain⟨bb,u⟩:=pr;obtain⟨rfl,hx⟩:=aE.1 hx;obtain⟨a1,a2,a3,s0,a4⟩:=hs l D ls r u e1;refine⟨_,_,2000,u,[],0,⟨l,D,ls,r,s0,nE,c1,c2,n,fo,e1,a2,a4 nE c1 c2 n fo,rfl,rfl,rfl,rfl,rfl⟩,aD0 hw a3 s0 a1,?_⟩;simp only [pT,uG,oD,lY,gE a2,Nat.add_zero];exact hx
 rintro args h nx K ⟨p,r,k0,k1,kd,kt,kf,nm,l,D,ls,nE,c1,c2,n,fo,rfl,hw,hx⟩;split at hx
 case h_2=>exact hx.elim
 rename_i pr e1;obtain⟨hb,hx⟩:=aE.1 hx;exact⟨pr.2,h,nx,hx,fun K' hk=>⟨p,r,k0,k1,kd,kt,kf,nm,l,D,ls,nE,c1,c2,n,fo,rfl,hw,by rw [e1];exact aI hb hk⟩⟩
set_option maxHeartbeats 2000000
def ES (xl:List (Nat × XF)):EP:={ aA with X:=look xl,M:=2 }
theorem aHC {xl:List (Nat × XF)}(h:lP xl):qH Go.Proofs.Tryz.prog (ES xl) where
 ar:=eL.ar
 tab:=eL.tab
 mixed:=eL.mixed
 funcs:=eL.funcs
 xs:=h.look
def dY (d:Int):Int:=if d % 2=0 then d+1 else d - 1
def VU (D:List Dt)(ls:List (List Int))(d:Int):List Int:=bQ ls (cA D d.toNat).tt.toNat
def x6 (D:List Dt)(ls:List (List Int))(d:Int):Int:=aK (VU D ls d) ((tE (dY d) (VU D ls d) 0 - 1+(VU D ls d).length) % (VU D ls d).length).toNat
def nxB (D:List Dt)(ls:List (List Int))(d:Int):Bool:=decide (0≤d)&&decide (d<D.length)&&decide (D.length≤1000)&&decide (ls.length≤1000)&&(decide (0≤(cA D d.toNat).tt)&&decide ((cA D d.toNat).tt<ls.length)) &&
 (decide (0≤tE (dY d) (VU D ls d) 0)&&decide (tE (dY d) (VU D ls d) 0<(VU D ls d).length)&&decide ((VU D ls d).length≤1000))
def nxS (l:List Pt)(D:List Dt)(ls:List (List Int)):List Value→Option (Bool × Value)
 |[.int .i64 d]=>some (nxB D ls d,iv (x6 D ls d))
 |_=>none
theorem ZT (m:List Dt){i o:Nat}(hi:i<m.length)(ho:o=i*5+4):nth (flat tW.fl m) o=some (iv (cA m i).tt):=by
 rw [qR hi];exact m0 tW m hi (k:=4) rfl (by decide) (by rw [ho];rfl)
theorem aOf (m:List Dt){i o:Nat}(hi:i<m.length)(ho:o=i*5+3):nth (flat tW.fl m) o=some (iv (cA m i).fr):=by
 rw [qR hi];exact m0 tW m hi (k:=3) rfl (by decide) (by rw [ho];rfl)
theorem aQG (n:Nat):n ^^^ 1=if n % 2=0 then n+1 else n - 1:=by
 have h1:(n ^^^ 1) / 2=n / 2:=(by rw [Nat.xor_div_two];simp);have h2:(n ^^^ 1) % 2=(n % 2) ^^^ 1:=Nat.xor_mod_two_pow (n:=1);split
 ·rename_i h;rw [h] at h2;have:(0:Nat) ^^^ 1=1:=rfl;omega
 rename_i h;rw [show n % 2=1 by omega] at h2;have:(1:Nat) ^^^ 1=0:=rfl;omega
theorem aR4 {d:Int}(h:0≤d):((d.toNat ^^^ 1:Nat):Int)=dY d:=by
 rw [aQG];unfold dY;split <;> split <;> omega
def aLI:Nat × XF:=(46,wbX nxS)
theorem aQh:cO Go.Proofs.Tryz.prog aLI.1 aLI.2:=VA (kL (aHC (xl:=[uV]) (.cons aNk .nil)) 5).1 fun l D ls r v hs=>by
 have:∃ d,r=[iv d]∧nxB D ls d=true∧v=iv (x6 D ls d):=by
  unfold nxS at hs;split at hs
  ·rename_i d;injection hs with hs;injection hs with h1 h2;exact⟨d,rfl,h1,h2.symm⟩
  ·cases hs
 obtain⟨d,rfl,hB,rfl⟩:=this;clear hs;unfold nxB at hB;simp only [Bool.and_eq_true,decide_eq_true_eq] at hB;obtain⟨⟨⟨⟨⟨h1,h2⟩,h3⟩,h4⟩,h5,h6⟩,⟨h7,h8⟩,h9⟩:=hB;refine⟨rfl,rfl,h4,(cA D d.toNat).tt.toNat,fun nE c1 c2 n fo=>?_⟩;have hnn:x6 D ls d=aK (VU D ls d) ((tE (dY d) (VU D ls d) 0 - 1+(VU D ls d).length) % (VU D ls d).length).toNat:=rfl;generalize x6 D ls d=X at hnn ⊢;unfold VU at h7 h8 h9 hnn;generalize hs:(cA D d.toNat).tt.toNat=s at h7 h8 h9 hnn ⊢;have h0:(bQ ls s).length≠0:=(by omega);have ho7:op7 (bQ ls s)=[(7,.cells true false 1 (flat aT.fl (bQ ls s)))]:=if_neg h0;generalize hq:(bQ ls s).length=q at *;have hvv:tV (tN s s) (bQ ls s)=.slice (some ⟨7,0,none⟩) q q:=(by rw [tV,if_neg (by omega),tN,if_pos rfl,hq]);have key:∀ o,o=s*1→nth (tC s ls) o=some (.slice (some ⟨7,0,none⟩) q q):=fun o ho=>(by rw [I9 (by omega) ho,hvv]);unfold gG J3;rw [ho7]
 repeat' first
  |(((conv=>whnf);apply bm<;>intro g))
  |((conv=>whnf)
    refine iU (ZT D (i:=d.toNat) (by omega) ?_) ?_
    ·show _+Int.toNat d*5+4=_;omega)
  |((conv=>whnf)
    refine iU (key _ ?_) ?_
    ·show _+Int.toNat (cA D d.toNat).tt*1=_;omega)
 all_goals first
  |(exfalso;simp [ES,aA,aC,xS] at g;omega)
  |skip
 (conv=>whnf);refine⟨bQ ls s,⟨hq.symm,_,_,_,_,rfl,by rw [List.drop_zero,List.take_length]⟩,?_⟩;((conv=>whnf);apply bm<;>intro g1);rotate_left
 ·have g1:decide ((bQ ls s).length≤1000000)=false:=g1;exact absurd g1 (by rw [decide_eq_true (by omega)];decide)
 have hxo:(ES [uV]).A.num ((ES [uV]).A.bit BinOp.xor ((ES [uV]).A.fH d) ((ES [uV]).A.fH 1))=dY d:=aR4 h1;generalize (ES [uV]).A.num ((ES [uV]).A.bit BinOp.xor ((ES [uV]).A.fH d) ((ES [uV]).A.fH 1))=bk at hxo;subst hxo;generalize tE (dY d) (bQ ls s) 0=a at h7 h8 hnn;have hix:0≤(a - 1+(q:Int)).tmod q∧(a - 1+(q:Int)).tmod q<q∧(a - 1+(q:Int)).tmod q=(a - 1+(q:Int)) % q:=by
  have e:(a - 1+(q:Int)).tmod q=(a - 1+(q:Int)) % q:=Int.tmod_eq_emod_of_nonneg (by omega);rw [e];exact⟨Int.emod_nonneg _ (by omega),Int.emod_lt_of_pos _ (by omega),rfl⟩
 have hget:∀ o,o=((a - 1+(q:Int)).tmod q).toNat*1→nth (flat aT.fl (bQ ls s)) o=some (iv X):=fun o ho=>by
  rw [iA (bQ ls s) (i:=((a - 1+(q:Int)).tmod q).toNat) (by omega) ho,hnn,hix.2.2]
 generalize hz:(a - 1+(q:Int)).tmod q=z at hix hget
 repeat' first
  |(((conv=>whnf);apply bm<;>intro g))
  |((conv=>whnf)
    refine iU (hget _ ?_) ?_
    ·show _+Int.toNat ((a - 1+(q:Int)).tmod q)*1=_;rw [hz];omega)
 all_goals first
  |(exfalso;simp [ES,aA,aC,aF] at g;omega)
  |(exfalso
    have g:(decide (0≤(a - 1+(q:Int)).tmod q)&&decide ((a - 1+(q:Int)).tmod q<q))=false:=g;rw [hz] at g;simp at g;omega)
  |(exfalso
    rename_i g4 g3 g2;simp [ES,aA,aC] at g2 g3 g4;omega)
  |(conv=>whnf)
def M9 (l:List Pt)(D:List Dt)(d:Int):Int:=(fA l (cA D d.toNat).fr.toNat).1*(fA l (cA D d.toNat).tt.toNat).2 - (fA l (cA D d.toNat).tt.toNat).1*(fA l (cA D d.toNat).fr.toNat).2
def J2 (l:List Pt)(D:List Dt)(ls:List (List Int)):Bool:=l.all wide&&(D.all fun e=>decide (0≤e.fr)&&decide (e.fr<l.length)&&(decide (0≤e.tt)&&decide (e.tt<l.length)))&&decide (D.length≤1000)&&decide (ls.length=l.length)&&decide (l.length≤1000)
theorem V6 {l:List Pt}{D:List Dt}{ls:List (List Int)}(h:J2 l D ls=true){i:Nat}(hi:i<D.length):0≤(cA D i).fr∧(cA D i).fr<l.length∧0≤(cA D i).tt∧(cA D i).tt<l.length:=by
 simp only [J2,Bool.and_eq_true] at h;have:=List.all_eq_true.1 h.1.1.1.2 _ (List.getElem_mem hi);rw [qR hi];simp only [Bool.and_eq_true,decide_eq_true_eq] at this;omega
theorem O2 {l:List Pt}{D:List Dt}{ls:List (List Int)}(h:J2 l D ls=true){i:Nat}(hi:i<l.length) : -1000000≤(fA l i).1∧(fA l i).1≤1000000∧-1000000≤(fA l i).2∧(fA l i).2≤1000000:=by
 simp only [J2,Bool.and_eq_true] at h;have:=List.all_eq_true.1 h.1.1.1.1 _ (List.getElem_mem hi);rw [nK hi];unfold wide at this;simp only [Bool.and_eq_true,decide_eq_true_eq] at this;omega
theorem L9 {l:List Pt}{D:List Dt}{ls:List (List Int)}(h:J2 l D ls=true):D.length≤1000∧ls.length=l.length∧l.length≤1000:=by
 simp only [J2,Bool.and_eq_true,decide_eq_true_eq] at h;exact⟨h.1.1.2,h.1.2,h.2⟩
def crS (l:List Pt)(D:List Dt)(ls:List (List Int)):List Value→Option (Bool × Value)
 |[.int .i64 d]=>some (J2 l D ls&&decide (0≤d)&&decide (d<D.length),iv (M9 l D d))
 |_=>none
theorem aDA {s:Nat}{ls:List (List Int)}{n k:Nat}(h:k<1000∨1000+n≤k):look (eP (tH s ls n)) k=none:=by
 rw [kX,aGa h];rfl
def aFi:Nat × XF:=(146,wbX crS)
theorem M6 {a b:Int}(h1 : -1000000≤a)(h2:a≤1000000)(h3 : -1000000≤b)(h4:b≤1000000) : -1000000000000≤a*b∧a*b≤1000000000000:=by
 have p1:0≤(1000000 - a)*(1000000+b):=Int.mul_nonneg (by omega) (by omega);have p2:0≤(1000000+a)*(1000000 - b):=Int.mul_nonneg (by omega) (by omega);have p3:0≤(1000000 - a)*(1000000 - b):=Int.mul_nonneg (by omega) (by omega);have p4:0≤(1000000+a)*(1000000+b):=Int.mul_nonneg (by omega) (by omega);simp only [Int.sub_mul,Int.add_mul,Int.mul_sub,Int.mul_add] at p1 p2 p3 p4;omega
theorem aNA:cO Go.Proofs.Tryz.prog aFi.1 aFi.2:=VA (aH (xl:=[]) .nil) fun l D ls r v hs=>by
 have:∃ d,r=[iv d]∧J2 l D ls=true∧0≤d∧d<D.length∧v=iv (M9 l D d):=by
  unfold crS at hs;split at hs
  ·rename_i d;injection hs with hs;injection hs with h1 h2;simp only [Bool.and_eq_true,decide_eq_true_eq] at h1;exact⟨d,rfl,h1.1.1,h1.1.2,h1.2,h2.symm⟩
  ·cases hs
 obtain⟨d,rfl,hB,h1,h2,rfl⟩:=this;clear hs;have hn:=L9 hB;refine⟨rfl,rfl,by omega,ls.length,fun nE c1 c2 n fo=>?_⟩;have ho7:op7 (bQ ls ls.length)=[]:=mR (Nat.le_refl _);obtain⟨b1,b2,b3,b4⟩:=V6 hB (i:=d.toNat) (by omega);have hp:=O2 hB (i:=(cA D d.toNat).fr.toNat) (by omega);have hq:=O2 hB (i:=(cA D d.toNat).tt.toNat) (by omega);unfold gG J3;rw [ho7]
 repeat' first
  |(((conv=>whnf);apply bm<;>intro g))
  |((conv=>whnf)
    refine iU (ZT D (i:=d.toNat) (by omega) ?_) ?_
    ·show _+Int.toNat d*5+4=_;omega)
  |((conv=>whnf)
    refine iU (aOf D (i:=d.toNat) (by omega) ?_) ?_
    ·show _+Int.toNat d*5+3=_;omega)
  |((conv=>whnf)
    refine n8 (jA l (i:=(cA D d.toNat).fr.toNat) (by omega) ?_) ?_
    ·show _+Int.toNat (cA D d.toNat).fr*2=_;omega)
  |((conv=>whnf)
    refine n8 (jA l (i:=(cA D d.toNat).tt.toNat) (by omega) ?_) ?_
    ·show _+Int.toNat (cA D d.toNat).tt*2=_;omega)
 all_goals first
  |(exfalso;simp [aA,aC,aF] at g;omega)
  |(exfalso
    have g:(match look (eP (tH ls.length ls ls.length)) 2000 with|none=>true|some _=>false)=false:=g;rw [aDA (by omega)] at g;cases g)
  |(exfalso
    have m1:=M6 hp.1 hp.2.1 hq.2.2.1 hq.2.2.2;have m2:=M6 hq.1 hq.2.1 hp.2.2.1 hp.2.2.2;simp [aA,aC,aF] at g;omega)
  |((conv=>whnf)
    first
     |done
     |rfl)
def yG (W:Heap)(b:Nat):Prop:=∀ k o,look W k=some o→k<b∧bZ id b o o
theorem sM {b n0:Nat}{ρ:Nat→Nat}(hρ:∀ k,k<b→ρ k=k)(hb:b≤n0){o:bV}(h:bZ id b o o):bZ ρ n0 o o:=by
 have key:∀ v,E4 b v→bY ρ v=bY id v:=fun v hv=>nT (ι:=kV id) (ι':=kV ρ) (n:=b) (fun k hk=>by show Loc.lay _ _ _=Loc.lay _ _ _;rw [hρ k hk];rfl) hv;have mono:∀ v,E4 b v→E4 n0 v:=fun v hv=>jN (ι:=kV id) (ι':=kV id) hb (fun _ _=>rfl) hv;cases o with
 |cells wr g sz cs =>
  obtain⟨h1,h2,h3,h4,h5⟩:=h;refine⟨rfl,rfl,rfl,?_,fun v hv=>mono v (h5 v hv)⟩
  conv=>lhs;rw [h4]
  exact List.map_congr_left fun v hv=>(key v (h5 v hv)).symm
 |map es =>
  obtain⟨h1,h2⟩:=h;refine⟨?_,fun v hv=>mono _ (h2 v hv)⟩
  conv=>lhs;rw [h1]
  exact List.map_congr_left fun v hv=>by rw [key _ (h2 v hv)]
 |zero=>trivial
 |loop l=>exact h.elim
 |deferred=>exact h.elim
theorem sC {W:Heap}{k:Nat}{o:bV}:∀ {P:Heap},look (P++W) k=some o→(k,o)∈P∨look W k=some o
 |[],h=>.inr h
 |(j,q)::r,h=>by
  rw [List.cons_append,aB] at h;split at h
  ·rename_i hb;injection h with h;subst h;rw [beq_true hb];exact .inl (.head _)
  ·rcases sC h with h|h
   ·exact .inl (.tail _ h)
   exact .inr h
theorem s8 {b n0 nx:Nat}{I:KS}{e0 e:List (Nat × Value)}{P W h:Heap}(L:List (Nat × Nat))(hI:I e0 (P++W) n0)(he:∀ p∈e0,look e p.1=some (iM (rn L) p.2)∧zR n0 p.2)(hW:yG W b)(hk:∀ k o,look W k=some o→look h k=some o)
  (hP:∀ p∈P,b≤p.1∧p.1<n0∧b≤rn L p.1∧∃ o',look h (rn L p.1)=some o'∧bZ (rn L) n0 p.2 o') (hi:∀ k∈P.map Prod.fst,∀ k'∈P.map Prod.fst,rn L k=rn L k'→k=k') (hL:∀ p∈L,b≤p.1) (hb:b≤n0):sT b I e h nx:=by
 have hfix:∀ k,k<b→rn L k=k:=fun k hk=>by
  unfold rn;split
  ·rename_i q hq;have:=hL _ (aY hq);simp only at this;omega
  rfl
 have hc:∀ k o,look (P++W) k=some o→(k,o)∈P∨look W k=some o:=fun k o h=>sC h;refine⟨e0,P++W,n0,rn L,hI,fun t v hv=>he (t,v) (aY hv),fun k o hk'=>?_,fun k k' o o' h1 h2 e=>?_,hfix,hb⟩
 ·rcases hc k o hk' with hm|hm
  ·exact (hP _ hm).2.1 |> fun x=>⟨x,(hP _ hm).2.2.2⟩
  obtain⟨a1,a2⟩:=hW k o hm;exact⟨by omega,o,by rw [hfix k a1];exact hk k o hm,sM hfix hb a2⟩
 ·rcases hc k o h1 with m1|m1 <;> rcases hc k' o' h2 with m2|m2
  ·exact hi k (List.mem_map.2 ⟨_,m1,rfl⟩) k' (List.mem_map.2 ⟨_,m2,rfl⟩) e
  ·have:=(hP _ m1).2.2.1;have b2:=(hW _ _ m2).1;simp only at this;rw [hfix k' b2] at e;omega
  ·have:=(hP _ m2).2.2.1;have b2:=(hW _ _ m1).1;simp only at this;rw [hfix k b2] at e;omega
  rwa [hfix k (hW _ _ m1).1,hfix k' (hW _ _ m2).1] at e
theorem uN {l:List Pt}{D:List Dt}{ls:List (List Int)}{nE c1 c2:Nat}{n:Int}{fo:Option (Nat × Nat)}{s:Nat}(hn:ls.length≤1000):yG (gG l D ls nE c1 c2 n fo s) 2000:=by
 intro k o hk;have hsl:∀ {q a b:Nat},q<2000→E4 2000 (.slice (some ⟨q,0,none⟩) a b):=fun hq=>⟨hq,fun h=>by cases h⟩;have hfix:∀ {cs:List Value},(∀ v∈cs,bY id v=v)→cs=cs.map (bY id):=fun {cs} h=>by
  conv=>lhs;rw [← List.map_id cs]
  exact List.map_congr_left fun v hv=>(h v hv).symm
 rcases HM (aY hk) with ⟨rfl,rfl⟩|⟨rfl,rfl⟩|⟨rfl,rfl⟩|⟨rfl,rfl⟩|⟨i,hi,h0,rfl,rfl⟩
 ·refine⟨by omega,rfl,rfl,rfl,?_,?_⟩
  ·show _=[_,_,_,_,_,bY _ (fcV 6 fo)];rw [aAn];rfl
  unfold J3;exact List.forall_mem_cons.2 ⟨hsl (by omega),List.forall_mem_cons.2 ⟨hsl (by omega),List.forall_mem_cons.2 ⟨cN rfl,List.forall_mem_cons.2 ⟨hsl (by omega),List.forall_mem_cons.2 ⟨hsl (by omega),List.forall_mem_cons.2 ⟨aDa (by omega),fun _ h=>(by cases h)⟩⟩⟩⟩⟩⟩
 ·exact⟨by omega,aO (aD _ _)⟩
 ·exact⟨by omega,rfl,rfl,rfl,G0 (ρ:=id) (mJ _ _) fun i hi=>D9 hi,L6 (by omega) (by omega)⟩
 ·exact⟨by omega,aO (aD _ _)⟩
 exact⟨aJi (by omega),aO (aD _ _)⟩
theorem bG {W:Heap}{b k:Nat}{o:bV}(h:yG W b)(hk:k<b)(ho:bZ id b o o):yG ((k,o)::W) b:=by
 intro j q hj;rw [aB] at hj;split at hj
 ·rename_i hb;injection hj with hj;subst hj;exact⟨by rw [← beq_true hb];exact hk,ho⟩
 exact h j q hj
def aNv (s:List Pt→List Dt→List (List Int)→List Int→Option (Bool × Value)):XF:=fun args h nx K =>
 ∃ p k3 k0 k1 kd kt kf nm l D ls nE c1 c2 n fo L c,args=[.pointer (some ⟨p,0,none⟩),.slice (some ⟨k3,0,none⟩) L.length c]∧xX h p k0 k1 kd kt kf nm l D ls nE c1 c2 n fo ∧
   (∃ wr g sz cs,look h k3=some (.cells wr g sz cs)∧cs.take (flat aT.fl L).length=flat aT.fl L)∧(match s l D ls L with|some pr=>dQ pr.1 (K pr.2 h nx)|none=>False)
theorem aHe {P:Program}{C:VC}{f:Nat}{s:List Pt→List Dt→List (List Int)→List Int→Option (Bool × Value)}(hC:bF P C)
  (hs:∀ l D ls L v,s l D ls L=some (true,v)→gT v=true∧ls.length≤1000∧∃ s0,∀ nE c1 c2 n fo c,C f [.pointer (some ⟨0,0,none⟩),.slice (some ⟨3,0,none⟩) L.length c] ((3,.cells false true 1 (flat aT.fl L))::gG l D ls nE c1 c2 n fo s0) 2000 (fun u _ _=>u=v)):cO P f (aNv s):=by
 refine (gO (S:=fun args0 h0 n0 v1 h1 k=>∃ l D ls L c s0 nE c1 c2 n fo,gT v1=true∧C f [.pointer (some ⟨0,0,none⟩),.slice (some ⟨3,0,none⟩) L.length c] ((3,.cells false true 1 (flat aT.fl L))::gG l D ls nE c1 c2 n fo s0) 2000 (fun u _ _=>u=v1)∧args0=[.pointer (some ⟨0,0,none⟩),.slice (some ⟨3,0,none⟩) L.length c]∧h0=(3,.cells false true 1 (flat aT.fl L))::gG l D ls nE c1 c2 n fo s0∧n0=2000∧h1=[]∧k=0) hC ?_).mono ?_ ?_
 ·rintro args0 h0 n0 v1 h1 k ⟨l,D,ls,L,c,s0,nE,c1,c2,n,fo,e2,e3,rfl,rfl,rfl,rfl,rfl⟩;exact⟨rfl,_,e3,fun v h nx e=>by rw [e];exact lA e2⟩
 ·rintro args h nx K ⟨p,k3,k0,k1,kd,kt,kf,nm,l,D,ls,nE,c1,c2,n,fo,L,c,rfl,hw,hL,hx⟩;split at hx
  case h_2=>exact hx.elim
  rename_i pr e1;obtain⟨bb,u⟩:=pr;obtain⟨rfl,hx⟩:=aE.1 hx;obtain⟨a2,a3,s0,a4⟩:=hs l D ls L u e1;refine⟨_,_,2000,u,[],0,⟨l,D,ls,L,c,s0,nE,c1,c2,n,fo,a2,a4 nE c1 c2 n fo c,rfl,rfl,rfl,rfl,rfl⟩,aGt hw a3 s0 hL,?_⟩;simp only [pT,uG,oD,lY,gE a2,Nat.add_zero];exact hx
 rintro args h nx K ⟨p,k3,k0,k1,kd,kt,kf,nm,l,D,ls,nE,c1,c2,n,fo,L,c,rfl,hw,hL,hx⟩;split at hx
 case h_2=>exact hx.elim
 rename_i pr e1;obtain⟨hb,hx⟩:=aE.1 hx;exact⟨pr.2,h,nx,hx,fun K' hk=>⟨p,k3,k0,k1,kd,kt,kf,nm,l,D,ls,nE,c1,c2,n,fo,L,c,rfl,hw,hL,by rw [e1];exact aI hb hk⟩⟩
theorem ext_cons {W h:Heap}{q:Nat}{v:bV}(hx:∀ k o,look W k=some o→look h k=some o)(hq:look W q=none):∀ k o,look W k=some o→look ((q,v)::h) k=some o:=fun k o hk=>by
 rw [bA (fun e=>by rw [e,hk] at hq;cases hq)];exact hx k o hk
theorem FX {l:List Pt}{D:List Dt}{ls:List (List Int)}{nE c1 c2:Nat}{n:Int}{fo:Option (Nat × Nat)}{s q:Nat}(hn:ls.length≤1000)(hq:q=3∨2000≤q):look (gG l D ls nE c1 c2 n fo s) q=none:=by
 cases hl:look (gG l D ls nE c1 c2 n fo s) q with
 |none=>rfl
 |some o =>
  exfalso;rcases HM (aY hl) with ⟨h,_⟩|⟨h,_⟩|⟨h,_⟩|⟨h,_⟩|⟨i,h1,_,h,_⟩
  ·omega
  ·omega
  ·omega
  ·omega
  unfold tN at h;split at h <;> omega
theorem L8 {l:List Pt}{D:List Dt}{ls:List (List Int)}{nE c1 c2:Nat}{n:Int}{fo:Option (Nat × Nat)}{s i:Nat}(hi:i<ls.length)(h0:(bQ ls i).length≠0):look (gG l D ls nE c1 c2 n fo s) (tN s i)=some (.cells false false 1 (flat aT.fl (bQ ls i))):=by
 unfold tN;by_cases e:i=s
 ·subst e;rw [if_pos rfl];unfold gG;rw [bA (by omega),bA (by omega),bA (by omega),bA (by omega),show op7 (bQ ls i)=[(7,ob (bQ ls i))] from if_neg h0];rfl
 rw [if_neg e];unfold gG;rw [bA (by omega),bA (by omega),bA (by omega),bA (by omega)];have key:look (eP (tH s ls ls.length)) (i+1000)=some (.cells false false 1 (flat aT.fl (bQ ls i))):=by
  rw [kX,lM e h0 hi];rfl
 unfold op7;split
 ·exact key
 show look ((7,_)::eP (tH s ls ls.length)) _=_;rw [bA (by omega)];exact key
theorem NG {h:Heap}{l:List Pt}{D:List Dt}{ls:List (List Int)}{nE c1 c2:Nat}{n:Int}{fo:Option (Nat × Nat)}{s:Nat}(hx:∀ k o,look (gG l D ls nE c1 c2 n fo s) k=some o→look h k=some o):xX h 0 4 5 1 2 6 (tN s) l D ls nE c1 c2 n fo :=
 ⟨⟨_,_,_,hx 0 _ rfl⟩,⟨_,_,_,_,hx 4 _ rfl,List.take_length⟩,⟨_,_,_,_,hx 1 _ rfl,List.take_length⟩,⟨_,_,_,hx 2 _ rfl⟩,fun i hi h0=>⟨_,_,_,_,hx _ _ (L8 hi h0),List.take_length⟩⟩
def B8 (l:List Pt)(D:List Dt)(L:List Int):Nat→Int
 |0=>0
 |i+1=>B8 l D L i+M9 l D (aK L i)
theorem aE2 {l:List Pt}{D:List Dt}{ls:List (List Int)}(h:J2 l D ls=true){d:Int}(h1:0≤d)(h2:d<D.length) : -2000000000000≤M9 l D d∧M9 l D d≤2000000000000:=by
 obtain⟨b1,b2,b3,b4⟩:=V6 h (i:=d.toNat) (by omega);have hp:=O2 h (i:=(cA D d.toNat).fr.toNat) (by omega);have hq:=O2 h (i:=(cA D d.toNat).tt.toNat) (by omega);have m1:=M6 hp.1 hp.2.1 hq.2.2.1 hq.2.2.2;have m2:=M6 hq.1 hq.2.1 hp.2.2.1 hp.2.2.2;unfold M9;omega
theorem aCj {l:List Pt}{D:List Dt}{ls:List (List Int)}(h:J2 l D ls=true){L:List Int}(hL:inR D L=true):∀ i:Nat,i≤L.length→-2000000000000*(i:Int)≤B8 l D L i∧B8 l D L i≤2000000000000*(i:Int)
 |0,_=>by unfold B8;omega
 |i+1,hi=>by
  have ih:=aCj h hL i (by omega);have hd:=s9 hL (i:=i) (by omega);have:=aE2 h hd.1 hd.2;unfold B8;omega
theorem aKS {l:List Pt}{D:List Dt}{ls:List (List Int)}{d:Int}(h:J2 l D ls=true)(h1:0≤d)(h2:d<D.length):crS l D ls [iv d]=some (true,iv (M9 l D d)):=by
 show some (J2 l D ls&&decide (0≤d)&&decide (d<D.length),iv (M9 l D d))=_;rw [h,decide_eq_true h1,decide_eq_true h2];rfl
def arS (l:List Pt)(D:List Dt)(ls:List (List Int))(L:List Int):Option (Bool × Value):=some (J2 l D ls&&inR D L&&decide (L.length≤100000),iv (B8 l D L L.length))
def e89 (N c:Nat)(a j:Int):List (Nat × Value):=[(0,.pointer (some ⟨0,0,none⟩)),(5,iv a),(8,.slice (some ⟨3,0,none⟩) N c),(9,iv N),(10,iv j)]
def aK9:Nat × XF:=(85,aNv arS)
theorem aPT:cO Go.Proofs.Tryz.prog aK9.1 aK9.2:=aHe (f:=85) (s:=arS) (aH (xl:=[aFi]) (.cons aNA .nil)) fun l D ls L v hs=>by
 have:J2 l D ls=true∧inR D L=true∧L.length≤100000∧v=iv (B8 l D L L.length):=by
  unfold arS at hs;injection hs with hs;injection hs with h1 h2;simp only [Bool.and_eq_true,decide_eq_true_eq] at h1;exact⟨h1.1.1,h1.1.2,h1.2,h2.symm⟩
 obtain⟨hB,hL,hl,rfl⟩:=this;clear hs;have hn:=L9 hB;refine⟨rfl,by omega,ls.length,fun nE c1 c2 n fo c=>?_⟩;(conv=>whnf);refine⟨fun q e h nx=>∃ (i:Nat) (j:Int),j=i∧i≤L.length∧q=L.length - i∧e=e89 L.length c (B8 l D L i) j∧h=(3,.cells false true 1 (flat aT.fl L))::gG l D ls nE c1 c2 n fo ls.length∧nx=2000,⟨L.length,?_⟩,?_⟩
 ·refine s8 (P:=[]) (W:=(3,.cells false true 1 (flat aT.fl L))::gG l D ls nE c1 c2 n fo ls.length) (e0:=e89 L.length c 0 0) (n0:=2000) [] ⟨0,0,rfl,Nat.zero_le _,rfl,rfl,rfl,rfl⟩ ?_ (bG (uN (by omega)) (by omega) (aO (aD _ _))) (fun k o hk=>hk) (fun _ h=>(by cases h)) (fun _ h=>(by cases h)) (fun _ h=>(by cases h)) (Nat.le_refl _);unfold e89;((repeat' refine iE rfl rfl ?_);exact iN)
 rintro q e h nx ⟨i,j,hj,hi,rfl,rfl,rfl,rfl⟩;unfold e89;((conv=>whnf);apply bm<;>intro h1);rotate_left
 ·have hge:i=L.length:=(by simp [aA,aC] at h1;omega);subst hge;(conv=>whnf)
 have hlt:i<L.length:=(by simp [aA,aC] at h1;omega);have hd:=s9 hL (i:=i) hlt;((conv=>whnf);apply bm<;>intro h2)
 ·(conv=>whnf);refine iU (iA L (i:=i) hlt ?_) ?_
  ·show _+Int.toNat j*1=_;omega
  (conv=>whnf);refine⟨0,[iv (aK L i)],4,5,1,2,6,tN ls.length,l,D,ls,nE,c1,c2,n,fo,rfl,NG (ext_cons (fun _ _ h=>h) (FX (by omega) (.inl rfl))),?_⟩;rw [aKS hB hd.1 hd.2];refine aI rfl ?_;have a1:=aCj hB hL i (by omega);have a2:=aE2 hB hd.1 hd.2;have hs:B8 l D L (i+1)=B8 l D L i+M9 l D (aK L i):=rfl;generalize B8 l D L i=X at a1 hs ⊢;generalize M9 l D (aK L i)=Y at a2 hs ⊢;((conv=>whnf);apply bm<;>intro h3)
  ·((conv=>whnf);apply bm<;>intro h4)
   ·(conv=>whnf);refine⟨L.length - (i+1),by omega,?_⟩;refine s8 (P:=[]) (W:=(3,.cells false true 1 (flat aT.fl L))::gG l D ls nE c1 c2 n fo ls.length) (e0:=e89 L.length c (X+Y) (j+1)) (n0:=2000) [] ⟨i+1,j+1,by omega,by omega,rfl,by rw [hs];rfl,rfl,rfl⟩ ?_ (bG (uN (by omega)) (by omega) (aO (aD _ _))) (fun k o hk=>hk) (fun _ h=>(by cases h)) (fun _ h=>(by cases h)) (fun _ h=>(by cases h)) (Nat.le_refl _);unfold e89;((repeat' refine iE rfl rfl ?_);exact iN)
   exfalso;simp [aA,aC,aF] at h4;omega
  exfalso;simp [aA,aC,aF] at h3;omega
 exfalso;simp [aA,aC] at h2;omega
def aMY (s:List Pt→List Dt→List (List Int)→List Value→YS Int):XF:=fun args h nx K =>
 ∃ p r k0 k1 kd kt kf nm l D ls nE c1 c2 n fo,args=.pointer (some ⟨p,0,none⟩)::r∧xX h p k0 k1 kd kt kf nm l D ls nE c1 c2 n fo ∧
 (match s l D ls r with|some pr=>dQ pr.1 (K (ylV pr.2.1 pr.2.2 nx) (bT h nx (.cells true false 1 (flat aT.fl pr.2.1))) (nx+1))|none=>False)
theorem aGn {P:Program}{C:VC}{f:Nat}{s:List Pt→List Dt→List (List Int)→List Value→YS Int}(hC:bF P C)
  (hs:∀ l D ls r out rest,s l D ls r=some (true,out,rest)→eX r=true∧dP rest=true∧ls.length≤1000∧∃ s0,∀ nE c1 c2 n fo,C f (.pointer (some ⟨0,0,none⟩)::r) (gG l D ls nE c1 c2 n fo s0) 2000 (YW aT out rest)):cO P f (aMY s):=by
 refine (gO (S:=fun args0 h0 n0 v1 h1 k=>∃ l D ls r s0 nE c1 c2 n fo out rest,dP rest=true∧C f (.pointer (some ⟨0,0,none⟩)::r) (gG l D ls nE c1 c2 n fo s0) 2000 (YW aT out rest)∧args0=.pointer (some ⟨0,0,none⟩)::r∧h0=gG l D ls nE c1 c2 n fo s0∧n0=2000∧v1=ylV out rest 0∧h1=ylH aT out∧k=1) hC ?_).mono ?_ ?_
 ·rintro args0 h0 n0 v1 h1 k ⟨l,D,ls,r,s0,nE,c1,c2,n,fo,out,rest,e2,e3,rfl,rfl,rfl,rfl,rfl,rfl⟩;exact⟨rfl,_,e3,fun v h nx e=>W8 aT e2 e⟩
 ·rintro args h nx K ⟨p,r,k0,k1,kd,kt,kf,nm,l,D,ls,nE,c1,c2,n,fo,rfl,hw,hx⟩;split at hx
  case h_2=>exact hx.elim
  rename_i pr e1;obtain⟨bb,out,rest⟩:=pr;obtain⟨rfl,hx⟩:=aE.1 hx;obtain⟨a1,a2,a3,s0,a4⟩:=hs l D ls r out rest e1;exact⟨_,_,2000,_,_,1,⟨l,D,ls,r,s0,nE,c1,c2,n,fo,out,rest,a2,a4 nE c1 c2 n fo,rfl,rfl,rfl,rfl,rfl,rfl⟩,aD0 hw a3 s0 a1,aEU aT a2 hx⟩
 rintro args h nx K ⟨p,r,k0,k1,kd,kt,kf,nm,l,D,ls,nE,c1,c2,n,fo,rfl,hw,hx⟩;split at hx
 case h_2=>exact hx.elim
 rename_i pr e1;obtain⟨hb,hx⟩:=aE.1 hx;exact⟨_,_,_,hx,fun K' hk=>⟨p,r,k0,k1,kd,kt,kf,nm,l,D,ls,nE,c1,c2,n,fo,rfl,hw,by rw [e1];exact aI hb hk⟩⟩
theorem aX {W h:Heap}{q:Nat}{v:bV}(hx:∀ k o,look W k=some o→look h k=some o)(hq:look W q=none):∀ k o,look W k=some o→look (bT h q v) k=some o:=ext_cons hx hq
theorem eH {W h:Heap}{q:Nat}(hx:∀ k o,look W k=some o→look h k=some o)(hq:look W q=none):∀ k o,look W k=some o→look (rem h q) k=some o:=fun k o hk=>by
 rw [dW,if_neg (fun e=>by rw [e,hq] at hk;cases hk)];exact hx k o hk
theorem cK {W h:Heap}{q:Nat}{v:bV}(hx:∀ k o,look W k=some o→look h k=some o)(hq:look W q=none):∀ k o,look W k=some o→look (y7 h q v) k=some o:=fun k o hk=>by
 rw [lK _ _ (fun e=>by rw [e,hq] at hk;cases hk)];exact hx k o hk
def jI (D:List Dt)(ls:List (List Int))(d:Int):Nat→Int
 |0=>d
 |i+1=>x6 D ls (jI D ls d i)
def HY (D:List Dt)(ls:List (List Int))(d:Int):Nat→Nat→Nat
 |0,i=>i
 |k+1,i=>if jI D ls d i=d then i else HY D ls d k (i+1)
theorem gI (D:List Dt)(ls:List (List Int))(d:Int):∀ (k i:Nat),i≤HY D ls d k i∧HY D ls d k i≤i+k∧∀ t,i≤t→t<HY D ls d k i→jI D ls d t≠d
 |0,i=>by unfold HY;exact⟨Nat.le_refl _,Nat.le_refl _,fun t h1 h2=>by omega⟩
 |k+1,i=>by
  unfold HY;split
  ·exact⟨Nat.le_refl _,by omega,fun t h1 h2=>by omega⟩
  rename_i h;obtain⟨h1,h2,h3⟩:=gI D ls d k (i+1);refine⟨by omega,by omega,fun t h4 h5=>?_⟩;by_cases e:t=i
  ·rw [e];exact h
  exact h3 t (by omega) h5
def gU (D:List Dt)(ls:List (List Int))(d:Int):Nat:=HY D ls d D.length 1
def j8 (D:List Dt)(ls:List (List Int))(d:Int):List Int:=(List.range (gU D ls d)).map (jI D ls d)
def xO (l:List Pt)(D:List Dt)(ls:List (List Int)):Bool:=J2 l D ls&&(List.range D.length).all fun i=>nxB D ls i&&(decide (0≤x6 D ls i)&&decide (x6 D ls i<D.length))
theorem NP {l:List Pt}{D:List Dt}{ls:List (List Int)}(h:xO l D ls=true){d:Int}(h1:0≤d)(h2:d<D.length):nxB D ls d=true∧0≤x6 D ls d∧x6 D ls d<D.length:=by
 simp only [xO,Bool.and_eq_true] at h;have:=List.all_eq_true.1 h.2 d.toNat (List.mem_range.2 (by omega));rw [Int.toNat_of_nonneg h1] at this;simp only [Bool.and_eq_true,decide_eq_true_eq] at this;exact⟨this.1,this.2⟩
theorem F6 {l:List Pt}{D:List Dt}{ls:List (List Int)}(h:xO l D ls=true):J2 l D ls=true:=by
 simp only [xO,Bool.and_eq_true] at h;exact h.1
theorem UZ {l:List Pt}{D:List Dt}{ls:List (List Int)}(h:xO l D ls=true){d:Int}(h1:0≤d)(h2:d<D.length):∀ i,0≤jI D ls d i∧jI D ls d i<D.length
 |0=>⟨h1,h2⟩
 |i+1=>by
  have ih:=UZ h h1 h2 i;exact (NP h ih.1 ih.2).2
def wkS (l:List Pt)(D:List Dt)(ls:List (List Int)):List Value→YS Int
 |[.int .i64 d]=>some (xO l D ls&&decide (0≤d)&&decide (d<D.length)&&decide (jI D ls d (gU D ls d)=d),j8 D ls d,[])
 |_=>none
def itL (D:List Dt)(ls:List (List Int))(d:Int)(i:Nat):List Int:=(List.range i).map (jI D ls d)
theorem XR (D:List Dt)(ls:List (List Int))(d:Int)(i:Nat):(itL D ls d i).length=i:=by simp [itL]
theorem aNe (D:List Dt)(ls:List (List Int))(d:Int)(i:Nat):itL D ls d (i+1)=itL D ls d i++[jI D ls d i]:=by
 unfold itL;rw [List.range_succ,List.map_append];rfl
theorem aEa {l:List Pt}{D:List Dt}{ls:List (List Int)}{d:Int}(h:nxB D ls d=true):nxS l D ls [iv d]=some (true,iv (x6 D ls d)):=by
 show some (nxB D ls d,iv (x6 D ls d))=_;rw [h]
def e83 (d:Int)(i:Nat)(x:Int):List (Nat × Value):=[(0,.pointer (some ⟨0,0,none⟩)),(1,iv d),(5,.slice (some ⟨2000,0,none⟩) i i),(6,iv x)]
def aJC:Nat × XF:=(42,aMY wkS)
theorem aQ1:cO Go.Proofs.Tryz.prog aJC.1 aJC.2:=aGn (f:=42) (s:=wkS) (aH (xl:=[aLI]) (.cons aQh .nil)) fun l D ls r out rest hs=>by
 have:∃ d,r=[iv d]∧xO l D ls=true∧0≤d∧d<D.length∧jI D ls d (gU D ls d)=d∧out=j8 D ls d∧rest=[]:=by
  unfold wkS at hs;split at hs
  ·rename_i d;injection hs with hs;injection hs with h1 h2;injection h2 with h2 h3;simp only [Bool.and_eq_true,decide_eq_true_eq] at h1;exact⟨d,rfl,h1.1.1.1,h1.1.1.2,h1.1.2,h1.2,h2.symm,h3.symm⟩
  ·cases hs
 obtain⟨d,rfl,hB,h1,h2,h3,rfl,rfl⟩:=this;clear hs;have hn:=L9 (F6 hB);have hlow:=gI D ls d D.length 1;have hin:=UZ hB h1 h2;refine⟨rfl,rfl,by omega,ls.length,fun nE c1 c2 n fo=>?_⟩;have hout:j8 D ls d=itL D ls d (gU D ls d):=rfl;have hno:∀ q,2000≤q→look (gG l D ls nE c1 c2 n fo ls.length) q=none:=fun q hq=>FX (by omega) (.inr hq);rw [hout];unfold gU at h3 ⊢;generalize HY D ls d D.length 1=N at h3 hlow ⊢;obtain⟨hN1,hN2,hN3⟩:=hlow;(conv=>whnf);refine⟨0,[iv d],4,5,1,2,6,tN ls.length,l,D,ls,nE,c1,c2,n,fo,rfl,NG (ext_cons (fun _ _ h=>h) (FX (by omega) (.inr (Nat.le_refl _)))),?_⟩;rw [aEa (NP hB h1 h2).1];refine aI rfl ?_;(conv=>whnf);refine⟨fun q e h nx=>∃ i:Nat,1≤i∧i≤N∧q=N - i∧e=e83 d i (jI D ls d i)∧h=[(2000,.cells true false 1 (flat aT.fl (itL D ls d i)))]++gG l D ls nE c1 c2 n fo ls.length∧nx=2001,⟨N - 1,?_⟩,?_⟩
 ·refine s8 (P:=[(2000,.cells true false 1 (flat aT.fl (itL D ls d 1)))]) (W:=gG l D ls nE c1 c2 n fo ls.length) (e0:=e83 d 1 (jI D ls d 1)) (n0:=2001) [] ⟨1,Nat.le_refl _,hN1,rfl,rfl,rfl,rfl⟩ ?_ (uN (by omega)) (ext_cons (fun _ _ h=>h) (FX (by omega) (.inr (Nat.le_refl _)))) ?_ ?_ (fun _ h=>(by cases h)) (by omega)
  ·unfold e83;((repeat' refine iE rfl rfl ?_);exact iN)
  ·exact List.forall_mem_cons.2 ⟨⟨Nat.le_refl _,Nat.lt_succ_self _,Nat.le_refl _,_,rfl,bB (aD _ _) rfl⟩,fun _ h=>(by cases h)⟩
  show ∀ k∈[2000],∀ k'∈[2000],_;decide
 rintro q e h nx ⟨i,hi1,hi,rfl,rfl,rfl,rfl⟩;unfold e83;((conv=>whnf);apply bm<;>intro g1);rotate_left
 ·have hx:jI D ls d i=d:=(by simpa [aA,aC] using g1);have hge:i=N:=by
   refine Decidable.byContradiction fun hc=>hN3 i hi1 (by omega) hx
  subst hge;(conv=>whnf);refine⟨2000,?_,rfl⟩;unfold ylV;rw [XR];rfl
 have hx:jI D ls d i≠d:=(by simpa [aA,aC] using g1);have hlt:i<N:=by
  refine Decidable.byContradiction fun hc=>hx ?_;rw [show i=N by omega];exact h3
 have hB':=NP hB (hin i).1 (hin i).2;have hs:itL D ls d (i+1)=itL D ls d i++[jI D ls d i]:=aNe D ls d i;have hll:=XR D ls d i;have hnx:jI D ls d (i+1)=x6 D ls (jI D ls d i):=rfl;generalize itL D ls d i=M at hs hll ⊢
 repeat' first
  |((conv=>whnf)
    refine bm1 (k:=i) ?_)
  |(((conv=>whnf);apply bm<;>intro g))
 ·(conv=>whnf);refine⟨0,[iv (jI D ls d i)],4,5,1,2,6,tN ls.length,l,D,ls,nE,c1,c2,n,fo,rfl,NG ?_,?_⟩
  ·exact aX (eH (aX (ext_cons (fun _ _ h=>h) (hno _ (by omega))) (hno _ (by omega))) (hno _ (by omega))) (hno _ (by omega))
  rw [aEa hB'.1];refine aI rfl ?_;(conv=>whnf);refine⟨N - (i+1),by omega,?_⟩;refine s8 (P:=[(2000,.cells true false 1 (flat aT.fl (itL D ls d (i+1))))]) (W:=gG l D ls nE c1 c2 n fo ls.length) (e0:=e83 d (i+1) (jI D ls d (i+1))) (n0:=2001) [(2000,2002)] ⟨i+1,by omega,by omega,rfl,rfl,rfl,rfl⟩ ?_ (uN (by omega)) ?_ ?_ ?_ (by decide) (by omega)
  ·unfold e83;((repeat' refine iE rfl rfl ?_);exact iN)
  ·exact aX (eH (aX (ext_cons (fun _ _ h=>h) (hno _ (by omega))) (hno _ (by omega))) (hno _ (by omega))) (hno _ (by omega))
  ·refine List.forall_mem_cons.2 ⟨⟨Nat.le_refl _,Nat.lt_succ_self _,Nat.le_of_ble_eq_true rfl,_,rfl,bB (aD _ _) ?_⟩,fun _ h=>(by cases h)⟩;rw [hs,← fU aT M (jI D ls d i) (n:=i) hll.symm];rfl
  show ∀ k∈[2000],∀ k'∈[2000],_;decide
 exact nN (by rw [bE,hll];rfl) (by omega) g
def dX {α:Type}(ok:α→Prop)(A:α→List Value)(H:α→Heap)(N:α→Nat)(V:α→Value)(H':α→Heap)(N':α→Nat):XF:=fun args h nx K=>∃ a,ok a∧args=A a∧h=H a∧nx=N a∧K (V a) (H' a) (N' a)
theorem ED {α:Type}{ok:α→Prop}{A:α→List Value}{H:α→Heap}{N:α→Nat}{V:α→Value}{H':α→Heap}{N':α→Nat}{P:Program}{C:VC}{f:Nat}(hC:bF P C)
  (hs:∀ a,ok a→C f (A a) (H a) (N a) (fun v h nx=>∃ ρ,lQ (N a) ρ [(0,V a)] (H' a) (N' a) [(0,v)] h nx)):cO P f (dX ok A H N V H' N'):=by
 refine⟨fun args h nx K hx ι B w HH hsc=>?_,fun args h nx K hx=>?_⟩
 ·obtain⟨a,h1,rfl,rfl,rfl,hk⟩:=hx;obtain⟨c1,c2⟩:=hC f _ _ _ _ (hs a h1) ι B w HH hsc;refine⟨c1,CallsIn.mono c2 fun e w' hr=>?_⟩;cases e with
  |returned u =>
   obtain⟨v,h',nx',ι1,⟨ρ,hρ⟩,q2,q3,q4,q5,q6,rfl⟩:=hr;obtain⟨e1,e2⟩:=hρ.env 0 (V a) rfl;have ev:v=iM ρ (V a):=by
    have:some v=some (iM ρ (V a)):=e1;injection this
   subst ev;refine⟨V a,H' a,N' a,fun k=>ι1 (ρ k),hk,FR q2 e2,hρ.aLY q3,q4,fun k hk=>?_,hρ.le,G7 q2⟩;show ι1 (ρ k)=ι k;rw [hρ.fix k hk];exact q5 k hk
  |_=>exact hr.elim
 obtain⟨a,h1,h2,h3,h4,hk⟩:=hx;exact⟨_,_,_,hk,fun K' hk'=>⟨a,h1,h2,h3,h4,hk'⟩⟩
def oA (D:List Dt)(x:Int):Nat:=(cA D x.toNat).tt.toNat
def E8 (D:List Dt)(ls:List (List Int)):Nat→List Bool→Nat→List Bool
 |0,S,_=>S
 |n+1,S,p=>(bQ ls p).foldl (fun S x=>if cV S (oA D x)=true then S else E8 D ls n S (oA D x)) (S.set p true)
def sO (D:List Dt)(ls:List (List Int))(n:Nat)(S:List Bool)(p i:Nat):List Bool:=((bQ ls p).take i).foldl (fun S x=>if cV S (oA D x)=true then S else E8 D ls n S (oA D x)) (S.set p true)
theorem aE3 {D:List Dt}{ls:List (List Int)}{n:Nat}{S:List Bool}{p i:Nat}(hi:i<(bQ ls p).length):sO D ls n S p (i+1)=if cV (sO D ls n S p i) (oA D (aK (bQ ls p) i))=true then sO D ls n S p i else E8 D ls n (sO D ls n S p i) (oA D (aK (bQ ls p) i)):=by
 unfold sO;rw [List.take_succ_eq_append_getElem hi,List.foldl_append,cX hi];rfl
theorem aCz {D:List Dt}{ls:List (List Int)}{n:Nat}{S:List Bool}{p:Nat}:sO D ls n S p (bQ ls p).length=E8 D ls (n+1) S p:=by
 unfold sO;rw [List.take_length];rfl
def gZ (S:List Bool):Nat:=S.countP fun b=>!b
theorem N8 {S:List Bool}{p:Nat}(hp:p<S.length)(h:cV S p=false):gZ (S.set p true)+1=gZ S:=by
 unfold gZ;rw [qZ hp] at h
 induction S generalizing p with
 |nil=>simp at hp
 |cons b r ih =>
  cases p with
  |zero =>
   simp only [List.getElem_cons_zero] at h;subst h;simp
  |succ p =>
   simp only [List.getElem_cons_succ] at h;have:=ih (by simpa using hp) h;simp only [List.set_cons_succ,List.countP_cons];omega
theorem WW (S:List Bool)(p:Nat):gZ (S.set p true)≤gZ S:=by
 unfold gZ
 induction S generalizing p with
 |nil=>simp
 |cons b r ih =>
  cases p with
  |zero=>simp [List.countP_cons]
  |succ p =>
   have:=ih p;simp only [List.set_cons_succ,List.countP_cons];omega
theorem HN (D:List Dt)(ls:List (List Int)):∀ (n:Nat) (S:List Bool) (p:Nat),gZ (E8 D ls n S p)≤gZ S∧(E8 D ls n S p).length=S.length
 |0,S,p=>⟨Nat.le_refl _,rfl⟩
 |n+1,S,p=>by
  unfold E8;have key:∀ (L:List Int) (M:List Bool),gZ (L.foldl (fun S x=>if cV S (oA D x)=true then S else E8 D ls n S (oA D x)) M)≤gZ M∧(L.foldl (fun S x=>if cV S (oA D x)=true then S else E8 D ls n S (oA D x)) M).length=M.length:=by
   intro L
   induction L with
   |nil=>exact fun M=>⟨Nat.le_refl _,rfl⟩
   |cons x r ih =>
    intro M;rw [List.foldl_cons];split
    ·exact ih M
    obtain⟨a1,a2⟩:=ih (E8 D ls n M (oA D x));obtain⟨b1,b2⟩:=HN D ls n M (oA D x);exact⟨by omega,by omega⟩
  obtain⟨a1,a2⟩:=key (bQ ls p) (S.set p true);have:=WW S p;rw [List.length_set] at a2;exact⟨by omega,a2⟩
theorem Y7 {D:List Dt}{ls:List (List Int)}{n:Nat}{S:List Bool}{p:Nat}:∀ i,i≤(bQ ls p).length→gZ (sO D ls n S p i)≤gZ (S.set p true)∧(sO D ls n S p i).length=S.length
 |0,_=>by unfold sO;simp
 |i+1,h=>by
  obtain⟨a1,a2⟩:=Y7 (D:=D) (ls:=ls) (n:=n) (S:=S) (p:=p) i (by omega);rw [aE3 (by omega)];split
  ·exact⟨a1,a2⟩
  obtain⟨b1,b2⟩:=HN D ls n (sO D ls n S p i) (oA D (aK (bQ ls p) i));exact⟨by omega,by omega⟩
structure aCy where
 p:Int
 l:List Pt
 D:List Dt
 ls:List (List Int)
 nE:Nat
 c1:Nat
 c2:Nat
 n:Int
 fo:Option (Nat × Nat)
 S:List Bool
def aKv:Value:=.func (.func 145) #[] #[.pointer (some ⟨2002,0,none⟩),.pointer (some ⟨2000,0,none⟩),.pointer (some ⟨2003,0,none⟩)]
def uE (a:aCy)(S:List Bool):Heap:=(2003,.cells true false 1 [aKv])::(2002,.cells true false 1 [.slice (some ⟨2001,0,none⟩) a.ls.length a.ls.length])::(2001,.cells true false 1 (flat gP.fl S))::(2000,.cells true false 1 [.pointer (some ⟨0,0,none⟩)])::gG a.l a.D a.ls a.nE a.c1 a.c2 a.n a.fo a.ls.length
def aBb (D:List Dt)(ls:List (List Int)):Bool:=ls.all fun L=>decide (L.length≠0)&&decide (L.length≤1000)&&inR D L
theorem aFO {D:List Dt}{ls:List (List Int)}(h:aBb D ls=true){i:Nat}(hi:i<ls.length):(bQ ls i).length≠0∧(bQ ls i).length≤1000∧inR D (bQ ls i)=true:=by
 have:=List.all_eq_true.1 h _ (List.getElem_mem hi);unfold bQ;rw [List.getD_eq_getElem?_getD,List.getElem?_eq_getElem hi];simp only [Bool.and_eq_true,decide_eq_true_eq] at this;exact⟨this.1.1,this.1.2,this.2⟩
def aNV (n:Nat)(a:aCy):Prop:=J2 a.l a.D a.ls=true∧aBb a.D a.ls=true∧0≤a.p∧a.p<a.ls.length∧a.S.length=a.ls.length∧cV a.S a.p.toNat=false∧gZ a.S≤n
def EW (p:Int)(s q:Nat)(j:Int):List (Nat × Value):=[(0,iv p),(1,.pointer (some ⟨2002,0,none⟩)),(2,.pointer (some ⟨2000,0,none⟩)),(3,.pointer (some ⟨2003,0,none⟩)),(16,.slice (some ⟨s+1000,0,none⟩) q q),(17,iv q),(18,iv j)]
def aLK (n:Nat):XF:=dX (aNV n) (fun a=>[iv a.p,.pointer (some ⟨2002,0,none⟩),.pointer (some ⟨2000,0,none⟩),.pointer (some ⟨2003,0,none⟩)]) (fun a=>uE a a.S) (fun _=>2004) (fun _=>.tuple #[]) (fun a=>uE a (E8 a.D a.ls n a.S a.p.toNat)) (fun _=>2004)
theorem vJ {W:Heap}{b c:Nat}(h:yG W b)(hb:b≤c):yG W c:=fun k o hk=>by
 obtain⟨h1,h2⟩:=h k o hk;exact⟨by omega,sM (fun _ _=>rfl) hb h2⟩
theorem BY {a:aCy}{M:List Bool}(hn:a.ls.length≤1000):yG (uE a M) 2004:=by
 unfold uE;refine bG (bG (bG (bG (vJ (uN hn) (by omega)) (by omega) ?_) (by omega) (aO (aD _ _))) (by omega) ?_) (by omega) ?_
 ·exact⟨rfl,rfl,rfl,rfl,List.forall_mem_cons.2 ⟨⟨Nat.le_of_ble_eq_true rfl,rfl⟩,fun _ h=>(by cases h)⟩⟩
 ·exact⟨rfl,rfl,rfl,rfl,List.forall_mem_cons.2 ⟨⟨Nat.le_of_ble_eq_true rfl,fun h=>by cases h⟩,fun _ h=>(by cases h)⟩⟩
 refine⟨rfl,rfl,rfl,by simp [aKv,bY,cC,nO,eN,kV],List.forall_mem_cons.2 ⟨⟨trivial,?_⟩,fun _ h=>(by cases h)⟩⟩;intro v hv;simp only [List.mem_cons,List.not_mem_nil,or_false] at hv;rcases hv with rfl|rfl|rfl
 ·exact⟨Nat.le_of_ble_eq_true rfl,rfl⟩
 ·exact⟨Nat.le_of_ble_eq_true rfl,rfl⟩
 exact⟨Nat.le_of_ble_eq_true rfl,rfl⟩
theorem aFS {a:aCy}{M:List Bool}{s:Nat}(hn:a.ls.length≤1000)(hs:s<a.ls.length)(h0:(bQ a.ls s).length≠0):look (uE a M) (s+1000)=some (.cells false false 1 (flat aT.fl (bQ a.ls s))):=by
 unfold uE;rw [bA (by omega),bA (by omega),bA (by omega),bA (by omega)];have:=L8 (l:=a.l) (D:=a.D) (nE:=a.nE) (c1:=a.c1) (c2:=a.c2) (n:=a.n) (fo:=a.fo) (s:=a.ls.length) hs h0
 rwa [show tN a.ls.length s=s+1000 by unfold tN;rw [if_neg (by omega)]] at this
theorem M3 {p j:Int}{s q:Nat}{e:List (Nat × Value)}(hs:s<1000)(he:∀ x∈EW p s q j,look e x.1=some x.2):∀ x∈EW p s q j,look e x.1=some (iM (rn []) x.2)∧zR 2004 x.2:=by
 have key:∀ x∈EW p s q j,iM (rn []) x.2=x.2∧zR 2004 x.2:=by
  unfold EW;refine List.forall_mem_cons.2 ⟨⟨rfl,cG rfl⟩,List.forall_mem_cons.2 ⟨⟨rfl,Nat.le_of_ble_eq_true rfl,rfl⟩,List.forall_mem_cons.2 ⟨⟨rfl,Nat.le_of_ble_eq_true rfl,rfl⟩,List.forall_mem_cons.2 ⟨⟨rfl,Nat.le_of_ble_eq_true rfl,rfl⟩,List.forall_mem_cons.2 ⟨⟨rfl,show s+1000<2004 by omega,fun h=>by cases h⟩,List.forall_mem_cons.2 ⟨⟨rfl,cG rfl⟩,List.forall_mem_cons.2 ⟨⟨rfl,cG rfl⟩,fun _ h=>(by cases h)⟩⟩⟩⟩⟩⟩⟩
 exact fun x hx=>⟨by rw [(key x hx).1];exact he x hx,(key x hx).2⟩
theorem aFL {W:Heap}{b:Nat}(h:yG W b){v:Value}(hv:gT v=true):∃ ρ,lQ b ρ [(0,v)] W b [(0,v)] W b :=
 ⟨id,fun t u hu=>by
  have hm:=aY hu;simp only [List.mem_cons,List.not_mem_nil,or_false] at hm;injection hm with e1 e2;subst e1 e2;exact⟨by rw [iM,jH hv];rfl,cG hv⟩,fun k o hk=>⟨(h k o hk).1,o,hk,(h k o hk).2⟩,fun _ _ _ _ _ _ e=>e,fun _ _=>rfl,Nat.le_refl _⟩
theorem aAl {S:List Bool}{p:Nat}(hp:p<S.length)(h:cV S p=false):0<gZ S:=by
 have:=N8 hp h;omega
theorem aJw:∀ n,cO Go.Proofs.Tryz.prog 145 (aLK n)
 |0=>ED (aH (xl:=[]) .nil) fun a ⟨h1,h2,h3,h4,h5,h6,h7⟩=>by
  have:=aAl (by omega) h6;omega
 |n+1=>ED (aH (xl:=[(145,aLK n)]) (.cons (aJw n) .nil)) fun a ⟨h1,h2,h3,h4,h5,h6,h7⟩=>by
  obtain⟨p,l,D,ls,nE,c1,c2,nI,fo,S⟩:=a;simp only at h1 h2 h3 h4 h5 h6 h7;have hn:=L9 h1;obtain⟨q1,q2,q3⟩:=aFO h2 (i:=p.toNat) (by omega);generalize ha:(⟨p,l,D,ls,nE,c1,c2,nI,fo,S⟩:aCy)=a;have hvH:∀ M:List Bool,uE a M=(2003,.cells true false 1 [aKv])::(2002,.cells true false 1 [.slice (some ⟨2001,0,none⟩) ls.length ls.length])::(2001,.cells true false 1 (flat gP.fl M))::(2000,.cells true false 1 [.pointer (some ⟨0,0,none⟩)])::gG l D ls nE c1 c2 nI fo ls.length:=fun M=>(by rw [← ha];rfl);have hpa:a.p=p:=(by rw [← ha]);have hSa:a.S=S:=(by rw [← ha]);have hDa:a.D=D:=(by rw [← ha]);have hla:a.ls=ls:=(by rw [← ha]);simp only [hpa,hSa,hDa,hla];clear ha hpa hSa hDa;rw [hvH S];generalize hpp:p.toNat=s at *;generalize hq:(bQ ls s).length=q at *;have hvv:tV (tN ls.length s) (bQ ls s)=.slice (some ⟨s+1000,0,none⟩) q q:=(by rw [tV,if_neg (by omega),tN,if_neg (by omega),hq]);have key:∀ o,o=s*1→nth (tC ls.length ls) o=some (.slice (some ⟨s+1000,0,none⟩) q q):=fun o ho=>(by rw [I9 (by omega) ho,hvv]);unfold gG J3;rw [mR (Nat.le_refl _)]
  repeat' first
   |(((conv=>whnf);apply bm<;>intro g))
   |((conv=>whnf)
     refine iU (key _ ?_) ?_
     ·show _+Int.toNat p*1=_;omega)
  all_goals first
   |(exfalso;simp [aA,aC,aF] at g;omega)
   |(exfalso
     have hb:Nat.ble (0+Int.toNat p*1+1) (flat gP.fl S).length=true:=Nat.ble_eq_true_of_le (by rw [bE];show _≤S.length*1;omega);exact Bool.false_ne_true (g.symm.trans hb))
   |skip
  (conv=>whnf);refine⟨fun q' e h nx=>∃ (i:Nat) (j:Int),j=i∧i≤q∧q'=q - i∧e=EW p s q j∧h=uE a (sO D ls n S s i)∧nx=2004,⟨q,?_⟩,?_⟩
  ·refine s8 (P:=[]) (W:=uE a (sO D ls n S s 0)) (e0:=EW p s q 0) (n0:=2004) [] ⟨0,0,rfl,Nat.zero_le _,rfl,rfl,rfl,rfl⟩ ?_ ?_ ?_ (fun _ h=>(by cases h)) (fun _ h=>(by cases h)) (fun _ h=>(by cases h)) (Nat.le_refl _)
   ·refine M3 (by omega) ?_;unfold EW;exact List.forall_mem_cons.2 ⟨rfl,List.forall_mem_cons.2 ⟨rfl,List.forall_mem_cons.2 ⟨rfl,List.forall_mem_cons.2 ⟨rfl,List.forall_mem_cons.2 ⟨rfl,List.forall_mem_cons.2 ⟨rfl,List.forall_mem_cons.2 ⟨rfl,fun _ h=>(by cases h)⟩⟩⟩⟩⟩⟩⟩
   ·exact BY (by rw [hla];omega)
   intro k o hk;have bT:eJ (flat gP.fl S) (0+Int.toNat p*1) [.bool true]=flat gP.fl (sO D ls n S s 0):=by
    rw [hpp,Nat.zero_add,AM _ _ _ (by omega)];rfl
   rw [hvH,← bT] at hk;unfold gG J3 at hk;rw [mR (Nat.le_refl _)] at hk;exact hk
  rintro q' e h nx ⟨i,j,hj,hi,rfl,rfl,rfl,rfl⟩;unfold EW;((conv=>whnf);apply bm<;>intro h8);rotate_left
  ·have hge:i=q:=(by simp [aA,aC] at h8;omega);(conv=>whnf);rw [hge,← hq,aCz];exact aFL (BY (by rw [hla];omega)) rfl
  have hlt:i<q:=(by simp [aA,aC] at h8;omega);have hli:look (uE a (sO D ls n S s i)) (s+1000)=some (.cells false false 1 (flat aT.fl (bQ ls s))):=by
   have:=aFS (a:=a) (M:=sO D ls n S s i) (s:=s) (by rw [hla];omega) (by rw [hla];omega) (by rw [hla,hq];exact q1)
   rwa [hla] at this
  have hd:=s9 q3 (i:=i) (by omega);have ht:=V6 h1 (i:=(aK (bQ ls s) i).toNat) (by omega);((conv=>whnf);apply bm<;>intro h9);rotate_left
  ·exfalso;simp [aA,aC] at h9;omega
  (conv=>whnf);rw [hli];(conv=>whnf);refine iU (iA (bQ ls s) (i:=i) (by omega) ?_) ?_
  ·show _+Int.toNat j*1=_;omega
  have hvs:=aE3 (D:=D) (n:=n) (S:=S) (show i<(bQ ls s).length by omega);have hvl:=(Y7 (D:=D) (ls:=ls) (n:=n) (S:=S) (p:=s) i (by omega));generalize sO D ls n S s i=M at hvs hvl ⊢;generalize aK (bQ ls s) i=x at hd ht hvs ⊢;rw [hvH M];unfold gG J3;rw [mR (Nat.le_refl _)];have hE:∀ p' S' X,uE ⟨p',l,D,ls,nE,c1,c2,nI,fo,S'⟩ X=uE a X:=fun p' S' X=>(by rw [hvH];rfl);have hcs:=N8 (S:=S) (p:=s) (by omega) h6;((conv=>whnf);apply bm<;>intro b1);rotate_left
  ·exfalso;simp [aA,aC] at b1;omega
  (conv=>whnf);refine iU (ZT D (i:=x.toNat) (by omega) ?_) ?_
  ·show _+Int.toNat x*5+4=_;omega
  ((conv=>whnf);apply bm<;>intro b2);rotate_left
  ·exfalso;simp [aA,aC] at b2;omega
  (conv=>whnf);refine iU (Q4 M (i:=oA D x) (by show Int.toNat _<_;omega) ?_) ?_
  ·show _+Int.toNat (cA D x.toNat).tt*1=_;rw [Nat.zero_add];rfl
  ((conv=>whnf);apply bm<;>intro b3);rotate_left
  ·have hM:cV M (oA D x)=true:=(by simpa [aA,aC] using b3);((conv=>whnf);apply bm<;>intro b4)
   ·(conv=>whnf);refine⟨q - (i+1),by omega,?_⟩;refine s8 (P:=[]) (W:=uE a (sO D ls n S s (i+1))) (e0:=EW p s q (j+1)) (n0:=2004) [] ⟨i+1,j+1,by omega,by omega,rfl,rfl,rfl,rfl⟩ ?_ (BY (by rw [hla];omega)) ?_ (fun _ h=>(by cases h)) (fun _ h=>(by cases h)) (fun _ h=>(by cases h)) (Nat.le_refl _)
    ·refine M3 (by omega) ?_;unfold EW;exact List.forall_mem_cons.2 ⟨rfl,List.forall_mem_cons.2 ⟨rfl,List.forall_mem_cons.2 ⟨rfl,List.forall_mem_cons.2 ⟨rfl,List.forall_mem_cons.2 ⟨rfl,List.forall_mem_cons.2 ⟨rfl,List.forall_mem_cons.2 ⟨rfl,fun _ h=>(by cases h)⟩⟩⟩⟩⟩⟩⟩
    intro k o hk;rw [hvs,if_pos hM,hvH M] at hk;unfold gG J3 at hk;rw [mR (Nat.le_refl _)] at hk;exact hk
   exfalso;simp [aA,aC,aF] at b4;omega
  have hM:cV M (oA D x)=false:=(by simpa [aA,aC] using b3);((conv=>whnf);apply bm<;>intro b4);rotate_left
  ·exfalso;simp [aA,aC] at b4;omega
  (conv=>whnf);refine iU (ZT D (i:=x.toNat) (by omega) ?_) ?_
  ·show _+Int.toNat x*5+4=_;omega
  (conv=>whnf);refine⟨⟨(cA D x.toNat).tt,l,D,ls,nE,c1,c2,nI,fo,M⟩,⟨h1,h2,ht.2.2.1,?_,?_,hM,?_⟩,rfl,?_,rfl,?_⟩
  ·show (cA D x.toNat).tt<(ls.length:Int);omega
  ·show M.length=ls.length;omega
  ·show gZ M≤n;omega
  ·show _=uE _ M;unfold uE gG J3;simp only;rw [mR (Nat.le_refl _)]
  ((conv=>whnf);apply bm<;>intro b5)
  ·(conv=>whnf);refine⟨q - (i+1),by omega,?_⟩;refine s8 (P:=[]) (W:=uE a (sO D ls n S s (i+1))) (e0:=EW p s q (j+1)) (n0:=2004) [] ⟨i+1,j+1,by omega,by omega,rfl,rfl,rfl,rfl⟩ ?_ (BY (by rw [hla];omega)) ?_ (fun _ h=>(by cases h)) (fun _ h=>(by cases h)) (fun _ h=>(by cases h)) (Nat.le_refl _)
   ·refine M3 (by omega) ?_;unfold EW;exact List.forall_mem_cons.2 ⟨rfl,List.forall_mem_cons.2 ⟨rfl,List.forall_mem_cons.2 ⟨rfl,List.forall_mem_cons.2 ⟨rfl,List.forall_mem_cons.2 ⟨rfl,List.forall_mem_cons.2 ⟨rfl,List.forall_mem_cons.2 ⟨rfl,fun _ h=>(by cases h)⟩⟩⟩⟩⟩⟩⟩
   intro k o hk;rw [hvs,if_neg (by rw [hM];decide),← hE (cA D x.toNat).tt M] at hk;exact hk
  exfalso;simp [aA,aC,aF] at b5;omega
def fM (D:List Dt)(ls:List (List Int)):List Bool:=E8 D ls 1000 (List.replicate ls.length false) 0
def cnS (l:List Pt)(D:List Dt)(ls:List (List Int)):List Value→Option (Bool × Value)
 |[]=>some (J2 l D ls&&aBb D ls&&decide (1≤ls.length),.bool ((fM D ls).all id))
 |_=>none
def YB:Nat × XF:=(82,wbX cnS)
theorem aMW:cO Go.Proofs.Tryz.prog YB.1 YB.2:=VA (f:=82) (s:=cnS) (aH (xl:=[(145,aLK 1000),Z7]) (.cons (aJw 1000) (.cons aIu .nil))) fun l D ls r v hs=>by
 have:r=[]∧J2 l D ls=true∧aBb D ls=true∧1≤ls.length∧v=.bool ((fM D ls).all id):=by
  unfold cnS at hs;split at hs
  ·injection hs with hs;injection hs with h1 h2;simp only [Bool.and_eq_true,decide_eq_true_eq] at h1;exact⟨rfl,h1.1.1,h1.1.2,h1.2,h2.symm⟩
  ·cases hs
 obtain⟨rfl,h1,h2,h3,rfl⟩:=this;clear hs;have hn:=L9 h1;refine⟨rfl,rfl,by omega,ls.length,fun nE c1 c2 n fo=>?_⟩;unfold gG J3;rw [mR (Nat.le_refl _)];((conv=>whnf);apply bm<;>intro g1);rotate_left
 ·exfalso;simp [aA,aC,aF] at g1;omega
 ((conv=>whnf);apply bm<;>intro g);rotate_left
 ·exfalso;have g:decide ((0:Int)<(ls.length:Int))=false:=g;simp only [decide_eq_false_iff_not] at g;omega
 (conv=>whnf);refine⟨⟨0,l,D,ls,nE,c1,c2,n,fo,List.replicate ls.length false⟩,⟨h1,h2,Int.le_refl 0,?_,List.length_replicate,?_,?_⟩,rfl,?_,rfl,?_⟩
 ·show (0:Int)<(ls.length:Int);omega
 ·show cV (List.replicate ls.length false) 0=false;unfold cV;rw [List.getD_eq_getElem?_getD,List.getElem?_replicate];split <;> rfl
 ·have:gZ (List.replicate ls.length false)≤(List.replicate ls.length false).length:=List.countP_le_length;rw [List.length_replicate] at this;show gZ (List.replicate ls.length false)≤1000;omega
 ·show _=uE _ (List.replicate ls.length false);unfold uE gG J3;simp only;rw [mR (Nat.le_refl _),← WH];rfl
 (conv=>whnf);have hrl:(fM D ls).length=ls.length:=by
  unfold fM;rw [(HN D ls 1000 _ 0).2,List.length_replicate]
 refine⟨fM D ls,⟨hrl.symm,_,_,_,_,rfl,by rw [List.drop_zero];exact List.take_length⟩,?_⟩;rw [show ctS (fM D ls) ([Value.bool false].append #[].toList)=some (true,.bool (!((fM D ls).all id))) from by
  show some (decide ((fM D ls).length≤1000000),Value.bool (!((fM D ls).all id)))=_;rw [decide_eq_true (by omega)]]
 refine aI rfl ?_;(conv=>whnf);show Value.bool (!(!((fM D ls).all id)))=_;rw [Bool.not_not]
end Go.Aw
end
