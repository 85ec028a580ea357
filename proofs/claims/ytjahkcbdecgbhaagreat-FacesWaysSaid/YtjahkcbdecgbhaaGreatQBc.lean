/-
  Parts of a proof. No condition.
-/
import Derived.Test.YtjahkcbdecgbhaaGreatQBb
set_option linter.unusedSimpArgs false
set_option linter.unusedVariables false
noncomputable section
namespace Go.Aw
set_option maxRecDepth 100000
set_option maxHeartbeats 4000000
def FF (N:Nat)(j:Int):List (Nat × Value):=[(3,.pointer (some ⟨3,0,none⟩)),(118,.slice (some ⟨5,0,none⟩) N N),(119,iv N),(120,iv j)]
theorem aM4 (l:List Pt)(m:List Ed)(n:Int)(c1 c2:Nat)(hok:dG l m n=true):body [(160,RP (I5 1000))] 153 [aG l.length m.length c1 c2 n] (aB aT aW l m) 2 (fun v h nx=>L8 (.pointer (some ⟨4,0,none⟩)) (aA8 l m c1 c2 n (2*m.length) (bD l m m.length) (outs l m)) 2000 v h nx):=by
 have hsz:l.length≤400∧3≤m.length∧m.length≤400:=by
  simp only [dG,ZH,Bool.and_eq_true,decide_eq_true_eq] at hok;omega
 obtain⟨hl,hm3,hm⟩:=hsz;have hM:pU l m=true:=by
  simp only [dG,Bool.and_eq_true] at hok;exact LU (by omega) (by omega) (fun i hi=>fY hok.2.1 hi) (fun i hi=>fY hok.2.2.1 hi)
 (conv=>whnf);refine⟨aKv l m n c1 c2,aFj aIg LI (ZP l m n c1 c2 hl).h,?_⟩;rintro e h nx ⟨rfl,rfl,rfl⟩;unfold QK r9 aB;(conv=>whnf);refine⟨fun q e h nx=>∃ (i:Nat) (j:Int),j=i∧i≤m.length∧q=m.length - i∧e=AH m c2 j∧((i=0∧h=r9 l m c1 c2 n∧nx=6)∨(0<i∧(∃ k,k=2*i∧h=AD l m c1 c2 n k (bD l m i))∧nx=7)),⟨m.length,?_⟩,?_⟩
 ·refine aO (e0:=AH m c2 0) (h0:=r9 l m c1 c2 n) (n0:=6) ⟨0,0,rfl,Nat.zero_le _,rfl,rfl,.inl ⟨rfl,rfl,rfl⟩⟩ ?_ ?_ (by decide)
  ·unfold AH;((repeat' refine iE rfl rfl ?_);exact iN)
  unfold r9 aX aB pY aR;refine List.forall_mem_cons.2 ⟨⟨Nat.le_of_ble_eq_true rfl,_,rfl,aN (TJ _)⟩,?_⟩;((repeat'(first|refine iF rfl rfl ?_|refine iC rfl rfl rfl ?_|refine iJ rfl rfl rfl rfl ?_));exact iN)
 rintro q e h nx ⟨i,j,hj,hi,rfl,rfl,⟨hi0,rfl,rfl⟩|⟨hip,⟨k,hk,rfl⟩,rfl⟩⟩
 ·subst hi0;unfold AH r9 aX aB pY;((conv=>whnf);apply bm<;>intro h1);rotate_left
  ·exfalso;simp [aA,aC] at h1;omega
  have he:=rS hM (i:=0) (by omega);have pa:=rG hok (i:=(cH m 0).a.toNat) (by omega);have pb:=rG hok (i:=(cH m 0).b.toNat) (by omega)
  repeat' first
   |(((conv=>whnf);apply bm<;>intro g))
   |((conv=>whnf)
     refine nN (A2 m (i:=0) (by omega) ?_) ?_
     ·show _+Int.toNat j*5=_;omega)
   |((conv=>whnf)
     refine nN (jP l (i:=(cH m 0).a.toNat) (by omega) ?_) ?_
     ·show _+Int.toNat (cH m 0).a*2=_;omega)
   |((conv=>whnf)
     refine nN (jP l (i:=(cH m 0).b.toNat) (by omega) ?_) ?_
     ·show _+Int.toNat (cH m 0).b*2=_;omega)
  all_goals first
   |(exfalso;simp [aA,aC,aF] at g;omega)
   |(exfalso;simp [aA,aC] at g;rw [g] at hm3;simp at hm3)
   |skip
  (conv=>whnf);refine⟨m.length - 1,by omega,?_⟩;refine y8 (e0:=AH m c2 (j+1)) (h0:=AD l m c1 c2 n 2 (bD l m 1)) (n0:=7) [(6,10)] ⟨1,_,by omega,by omega,rfl,rfl,.inr ⟨Nat.one_pos,⟨2,rfl,rfl⟩,rfl⟩⟩ ?_ ?_ ?_ (by decide) (by decide)
  ·unfold AH;((repeat' refine iE rfl rfl ?_);exact iN)
  ·unfold AD aX aB pY;refine List.forall_mem_cons.2 ⟨⟨Nat.le_of_ble_eq_true rfl,_,rfl,aU (aH _ _) (by subst hj;rfl)⟩,List.forall_mem_cons.2 ⟨⟨Nat.le_of_ble_eq_true rfl,_,rfl,aN (TJ _)⟩,?_⟩⟩;((repeat'(first|refine iF rfl rfl ?_|refine iC rfl rfl rfl ?_|refine iJ rfl rfl rfl rfl ?_));exact iN)
  show ∀ k∈[6,5,3,4,2,0,1],∀ k'∈[6,5,3,4,2,0,1],_;decide
 have hdl:=bP l m i;generalize hD:bD l m i=D at hdl;unfold AH AD aX aB pY;((conv=>whnf);apply bm<;>intro h1)
 ·have hlt:i<m.length:=(by simp [aA,aC] at h1;omega);have he:=rS hM (i:=i) (by omega);have pa:=rG hok (i:=(cH m i).a.toNat) (by omega);have pb:=rG hok (i:=(cH m i).b.toNat) (by omega)
  repeat' first
   |((conv=>whnf)
     refine bm2 (k:=k) ?_)
   |(((conv=>whnf);apply bm<;>intro g))
   |((conv=>whnf)
     refine nN (A2 m (i:=i) (by omega) ?_) ?_
     ·show _+Int.toNat j*5=_;omega)
   |((conv=>whnf)
     refine nN (jP l (i:=(cH m i).a.toNat) (by omega) ?_) ?_
     ·show _+Int.toNat (cH m i).a*2=_;omega)
   |((conv=>whnf)
     refine nN (jP l (i:=(cH m i).b.toNat) (by omega) ?_) ?_
     ·show _+Int.toNat (cH m i).b*2=_;omega)
  all_goals first
   |(exfalso;simp [aA,aC,aF] at g;omega)
   |(exfalso;simp [aA,aC] at g;rw [g] at hm3;simp at hm3)
   |skip
  ·(conv=>whnf);refine⟨m.length - (i+1),by omega,?_⟩;refine y8 (e0:=AH m c2 (j+1)) (h0:=AD l m c1 c2 n (k+2) (bD l m (i+1))) (n0:=7) [(6,11)] ⟨i+1,_,by omega,by omega,rfl,rfl,.inr ⟨by omega,⟨k+2,by omega,rfl⟩,rfl⟩⟩ ?_ ?_ ?_ (by decide) (by decide)
   ·unfold AH;((repeat' refine iE rfl rfl ?_);exact iN)
   ·unfold AD aX aB pY;refine List.forall_mem_cons.2 ⟨⟨Nat.le_of_ble_eq_true rfl,_,rfl,aU (aH _ _) ?_⟩,List.forall_mem_cons.2 ⟨⟨Nat.le_of_ble_eq_true rfl,_,rfl,aN (TJ _)⟩,?_⟩⟩
    ·rw [bD,hD];have hg:=SZ sH D (dA l m i) (dB l m i) (n:=k) (by omega);rw [← hg];unfold dA dB;rw [← hj];rfl
    ((repeat'(first|refine iF rfl rfl ?_|refine iC rfl rfl rfl ?_|refine iJ rfl rfl rfl rfl ?_));exact iN)
   show ∀ k∈[6,5,3,4,2,0,1],∀ k'∈[6,5,3,4,2,0,1],_;decide
  exact aDH (by rw [a7,hdl,hk];rfl) (by omega) g
 have hge:i=m.length:=(by simp [aA,aC] at h1;omega);have hDe:D=bD l m m.length:=(by rw [← hD,hge]);have hDk:D.length=k:=(by omega);clear hD hdl hip;(conv=>whnf);refine⟨fun q e h nx=>∃ (i:Nat) (j:Int),j=i∧i≤k∧q=k - i∧e=oU k j∧h=gK l m c1 c2 n k D (sD l.length D i) (qX l.length D i)∧nx=2000,⟨k,?_⟩,?_⟩
 ·refine aO (e0:=oU k 0) (h0:=gK l m c1 c2 n k D (sD l.length D 0) (qX l.length D 0)) (n0:=2000) ⟨0,0,rfl,Nat.zero_le _,rfl,rfl,rfl,rfl⟩ ?_ ?_ (by decide)
  ·unfold oU;((repeat' refine iE rfl rfl ?_);exact iN)
  rw [show qX l.length D 0=List.replicate l.length [] from rfl,aFG];unfold AD aX aB pY;refine List.forall_mem_cons.2 ⟨⟨Nat.le_of_ble_eq_true rfl,_,rfl,aN (aH _ _)⟩,List.forall_mem_cons.2 ⟨⟨Nat.le_of_ble_eq_true rfl,_,rfl,aN (TJ _)⟩,?_⟩⟩;((repeat'(first|refine iF rfl rfl ?_|refine iC rfl rfl rfl ?_|refine iJ rfl rfl rfl rfl ?_));exact iN)
 rintro q e h nx ⟨i,j,hj,hi,rfl,rfl,rfl,rfl⟩;by_cases hlt:i<k
 ·have hf:=mN (l:=l) hM (i:=i) (by omega);rw [← hDe] at hf;have hol:=oH l.length D i;have hle:=D5 l.length D i (cB D i).fr.toNat fun i' hi'=>by
   have:=(mN (l:=l) hM (i:=i') (by omega));rw [← hDe] at this;omega
  have hnx:qX l.length D (i+1)=(qX l.length D i).set (cB D i).fr.toNat (bR (qX l.length D i) (cB D i).fr.toNat++[(cB D i).no]):=rfl;rw [show sD l.length D i=(cB D i).fr.toNat from if_pos (by omega)];generalize qX l.length D i=ls at hol hnx hle ⊢;generalize hs:(cB D i).fr.toNat=s at hnx hle ⊢;by_cases h0:(bR ls s).length=0
  ·have ho7:ZA (bR ls s)=[]:=if_pos h0;have hvv:tV (tN s s) (bR ls s)=aR:=if_pos h0;have key:∀ o,o=s*1→nth (tC s ls) o=some aR:=fun o ho=>(by rw [HB (by omega) ho,hvv]);unfold oU gK aX pY;rw [ho7]
   repeat' first
    |(((conv=>whnf);apply bm<;>intro g))
    |((conv=>whnf)
      refine nN (aGg D (i:=i) (by omega) ?_) ?_
      ·show _+Int.toNat j*5=_;omega)
    |((conv=>whnf)
      refine eC (key _ ?_) ?_
      ·show _+Int.toNat (cB D i).fr*1=_;omega)
   all_goals first
    |(exfalso;simp [aA,aC,aF] at g;omega)
    |(exfalso;simp [aA,aC] at g;rw [g] at hm3;simp at hm3)
    |(exfalso
      have hb:Nat.ble (0+Int.toNat (cB D i).fr*1+1) (tC s ls).length=true:=Nat.ble_eq_true_of_le (by rw [lL];omega);exact Bool.false_ne_true (g.symm.trans hb))
    |skip
   (conv=>whnf);refine⟨k - (i+1),by omega,?_⟩;refine aGC (s:=s) (s':=sD l.length D (i+1)) (q:=1) (ls:=ls) (x:=(cB D i).no) (j:=j+1) (D:=D) (k:=k) (l:=l) (m:=m) (c1:=c1) (c2:=c2) (n:=n) (by omega) (by omega) ⟨i+1,j+1,by omega,by omega,rfl,rfl,congrArg (gK l m c1 c2 n k D (sD l.length D (i+1))) hnx.symm,rfl⟩ ?_ ?_ (by omega) ?_ ?_ ?_
   ·unfold oU;exact List.forall_mem_cons.2 ⟨rfl,List.forall_mem_cons.2 ⟨rfl,List.forall_mem_cons.2 ⟨rfl,List.forall_mem_cons.2 ⟨rfl,fun _ h=>(by cases h)⟩⟩⟩⟩
   ·unfold sG aX pY;exact List.forall_mem_cons.2 ⟨rfl,List.forall_mem_cons.2 ⟨rfl,List.forall_mem_cons.2 ⟨rfl,List.forall_mem_cons.2 ⟨rfl,List.forall_mem_cons.2 ⟨rfl,List.forall_mem_cons.2 ⟨rfl,fun _ h=>(by cases h)⟩⟩⟩⟩⟩⟩
   ·show some (a8.cells true false 1 (cN (tC s ls) (0+Int.toNat (cB D i).fr*1) [.slice (some ⟨2002,0,none⟩) 1 1]))=_;rw [RB (i:=s) (by omega) (by rw [lL];omega)]
   ·rw [List.eq_nil_of_length_eq_zero h0];rfl
   intro i1 a1 a2 a3
   repeat first
    |rw [iT _ _ (by omega)]
    |rw [jK _ _ (by omega)]
    |rw [bK (by omega)]
     |rw [c7,if_neg (by omega)]
   exact lP a2 a3 a1
  have ho7:ZA (bR ls s)=[(7,.cells true false 1 (flat aP.fl (bR ls s)))]:=if_neg h0;generalize hq:(bR ls s).length=q at h0 hle;have hvv:tV (tN s s) (bR ls s)=.slice (some ⟨7,0,none⟩) q q:=(by rw [tV,if_neg (by omega),tN,if_pos rfl,hq]);have hqk:q≤1000:=(by omega);have key:∀ o,o=s*1→nth (tC s ls) o=some (.slice (some ⟨7,0,none⟩) q q):=fun o ho=>(by rw [HB (by omega) ho,hvv]);unfold oU gK aX pY;rw [ho7]
  repeat' first
   |((conv=>whnf)
     refine bm1 (k:=q) ?_)
   |(((conv=>whnf);apply bm<;>intro g))
   |((conv=>whnf)
     refine nN (aGg D (i:=i) (by omega) ?_) ?_
     ·show _+Int.toNat j*5=_;omega)
   |((conv=>whnf)
     refine eC (key _ ?_) ?_
     ·show _+Int.toNat (cB D i).fr*1=_;omega)
  all_goals first
   |(exfalso;simp [aA,aC,aF] at g;omega)
   |(exfalso;simp [aA,aC] at g;rw [g] at hm3;simp at hm3)
   |(exfalso
     have hb:Nat.ble (0+Int.toNat (cB D i).fr*1+1) (tC s ls).length=true:=Nat.ble_eq_true_of_le (by rw [lL];omega);exact Bool.false_ne_true (g.symm.trans hb))
   |skip
  ·(conv=>whnf);refine⟨k - (i+1),by omega,?_⟩;refine aGC (s:=s) (s':=sD l.length D (i+1)) (q:=q+1) (ls:=ls) (x:=(cB D i).no) (j:=j+1) (D:=D) (k:=k) (l:=l) (m:=m) (c1:=c1) (c2:=c2) (n:=n) (by omega) (by omega) ⟨i+1,j+1,by omega,by omega,rfl,rfl,congrArg (gK l m c1 c2 n k D (sD l.length D (i+1))) hnx.symm,rfl⟩ ?_ ?_ (by omega) ?_ ?_ ?_
   ·unfold oU;exact List.forall_mem_cons.2 ⟨rfl,List.forall_mem_cons.2 ⟨rfl,List.forall_mem_cons.2 ⟨rfl,List.forall_mem_cons.2 ⟨rfl,fun _ h=>(by cases h)⟩⟩⟩⟩
   ·unfold sG aX pY;exact List.forall_mem_cons.2 ⟨rfl,List.forall_mem_cons.2 ⟨rfl,List.forall_mem_cons.2 ⟨rfl,List.forall_mem_cons.2 ⟨rfl,List.forall_mem_cons.2 ⟨rfl,List.forall_mem_cons.2 ⟨rfl,fun _ h=>(by cases h)⟩⟩⟩⟩⟩⟩
   ·show some (a8.cells true false 1 (cN (tC s ls) (0+Int.toNat (cB D i).fr*1) [.slice (some ⟨2002,0,none⟩) (q+1) (q+1)]))=_;rw [RB (i:=s) (by omega) (by rw [lL];omega)]
   ·have hg:=cL aP (bR ls s) (cB D i).no (n:=q) hq.symm;unfold ob;rw [← hg];rfl
   intro i1 a1 a2 a3
   repeat first
    |rw [iT _ _ (by omega)]
    |rw [jK _ _ (by omega)]
    |rw [bK (by omega)]
    |rw [c7,if_neg (by omega)]
   show look ((7,_)::tH s ls ls.length) _=_;rw [bK (by omega)];exact lP a2 a3 a1
  exact jA (by rw [a7,hq];rfl) (by omega) g
 have hik:i=k:=(by omega);subst hik;clear hlt hi;rw [show sD l.length D i=l.length from if_neg (by omega)];have hol:=oH l.length D i;have hfr:∀ i',i'<i→(cB D i').fr.toNat<l.length∧(cB D i').no=i':=fun i' hi'=>by
  have:=(mN (l:=l) hM (i:=i') (by omega));rw [← hDe] at this;omega
 have hout:∀ s,s<l.length→(bR (qX l.length D i) s).length≠0∧(bR (qX l.length D i) s).length≤1000∧fI D (bR (qX l.length D i) s)=true:=fun s hs=>by
  refine⟨?_,?_,?_⟩
  ·rw [D7 i hfr s,hDe,show i=2*m.length by omega];exact UY hok hs
  ·have:=D5 l.length D i s fun i' hi'=>(hfr i' hi').1;omega
  rw [D7 i hfr s];refine List.all_eq_true.2 fun x hx=>?_;obtain⟨i',h1,rfl,_⟩:=NP hx;simp only [Bool.and_eq_true,decide_eq_true_eq];omega
 have hW:fV D=true:=(by rw [hDe];exact aAv hok hM);generalize hlsE:qX l.length D i=ls at hol hout ⊢;unfold oU gK aX pY;((conv=>whnf);apply bm<;>intro h1)
 ·exfalso;simp [aA,aC] at h1;omega
 (conv=>whnf);refine⟨fun q e h nx=>∃ (t:Nat) (j:Int),j=t∧t≤l.length∧q=l.length - t∧e=FF l.length j∧h=gK l m c1 c2 n i D l.length (srN D ls t)∧nx=2000,⟨l.length,?_⟩,?_⟩
 ·refine PA (e0:=FF l.length 0) (ls:=srN D ls 0) (by rw [rD];omega) (by rw [rD];omega) ⟨0,0,rfl,Nat.zero_le _,rfl,rfl,rfl,rfl⟩ ?_ ?_ rfl ?_
  ·unfold FF;((repeat' refine iE rfl rfl ?_);exact iN)
  ·unfold sG aX pY;exact List.forall_mem_cons.2 ⟨rfl,List.forall_mem_cons.2 ⟨rfl,List.forall_mem_cons.2 ⟨rfl,List.forall_mem_cons.2 ⟨rfl,List.forall_mem_cons.2 ⟨rfl,List.forall_mem_cons.2 ⟨rfl,fun _ h=>(by cases h)⟩⟩⟩⟩⟩⟩
  intro i1 a1 a2;rw [lS (by omega)]
  repeat rw [bK (by omega)]
  exact lP (by have:=rD D ls 0;omega) a2 a1
 rintro q e h nx ⟨t,j,hj,ht,rfl,rfl,rfl,rfl⟩;have hsl:=rD D ls t;have hat:=S1 D ls (i:=t) (by omega);have hnx:srN D ls (t+1)=(srN D ls t).set t (sP D 1000 (bR ls t)):=rfl;generalize hls':srN D ls t=ls' at hsl hat hnx ⊢;by_cases hlt:t<l.length
 ·obtain⟨o1,o2,o3⟩:=hout t hlt;have hA:bR ls' t=bR ls t:=(by rw [hat,if_neg (by omega)]);generalize hq:(bR ls t).length=q at o1 o2;have key:∀ o,o=t*1→nth (tC l.length ls') o=some (.slice (some ⟨t+1000,0,none⟩) q q):=fun o ho=>by
   rw [HB (by omega) ho,tV,hA,if_neg (by omega),tN,if_neg (by omega),hq]
  have ho7:ZA (bR ls' l.length)=[]:=lS (by omega);unfold FF gK aX pY;rw [ho7]
  repeat' first
   |(((conv=>whnf);apply bm<;>intro g))
   |((conv=>whnf)
     refine eC (key _ ?_) ?_
     ·show _+Int.toNat j*1=_;omega)
  all_goals first
   |(exfalso;simp [aA,aC,aF] at g;omega)
   |skip
  (conv=>whnf);refine⟨t+1000,q,[],3,bR ls t,D,by rw [hq];rfl,?_,?_,?_,?_⟩
  ·repeat rw [bK (by omega)]
   rw [← hA];exact lP (by omega) (by rw [hA,hq];exact o1) (by omega)
  ·exact aY (aY (aY (aY (aY (aY (aY (K7 _ _ _)))))))
  ·refine⟨4,6,0,1,true,false,1,[],true,false,1,[.slice (some ⟨5,0,none⟩) l.length l.length,aR],true,false,5,flat sH.fl D,l.length,c1,m.length,c2,n,i,?_,?_,?_,?_⟩
   ·rw [c7,if_neg (by omega)];rfl
   ·rw [c7,if_neg (by omega),hDk];rfl
   ·rw [c7,if_neg (by omega)];rfl
   exact List.take_length
  rw [aEL (by rw [hq];exact o2) (by omega) o3 hW];refine aM rfl ?_;((conv=>whnf);apply bm<;>intro g2);rotate_left
  ·exfalso;simp [aA,aC,aF] at g2;omega
  (conv=>whnf);refine⟨l.length - (t+1),by omega,?_⟩;have hlen:∀ i1,(bR (ls'.set t (sP D 1000 (bR ls t))) i1).length=(bR ls' i1).length:=fun i1=>by
   rw [vT _ (by omega)];split
   ·rename_i e;rw [PH,e,hA]
   rfl
  refine PA (e0:=FF l.length (j+1)) (ls:=ls'.set t (sP D 1000 (bR ls t))) (s:=l.length) (k:=i) (D:=D) (l:=l) (m:=m) (c1:=c1) (c2:=c2) (n:=n) (by rw [List.length_set];omega) (by rw [List.length_set];omega) ⟨t+1,j+1,by omega,by omega,rfl,rfl,congrArg (gK l m c1 c2 n i D l.length) hnx.symm,rfl⟩ ?_ ?_ ?_ ?_
  ·unfold FF;((repeat' refine iE rfl rfl ?_);exact iN)
  ·unfold sG aX pY;exact List.forall_mem_cons.2 ⟨rfl,List.forall_mem_cons.2 ⟨rfl,List.forall_mem_cons.2 ⟨rfl,List.forall_mem_cons.2 ⟨rfl,List.forall_mem_cons.2 ⟨rfl,List.forall_mem_cons.2 ⟨rfl,fun _ h=>(by cases h)⟩⟩⟩⟩⟩⟩
  ·rw [aBg (List.length_set) (fun i1 _=>hlen i1)];rfl
  intro i1 a1 a2;rw [List.length_set] at a1;rw [hlen] at a2;rw [vT _ (by omega)];by_cases e:i1=t
  ·rw [if_pos e,e,wW];rfl
  rw [if_neg e,iT _ _ (by omega)]
  repeat rw [bK (by omega)]
  exact lP (by omega) a2 a1
 unfold FF gK aX pY;((conv=>whnf);apply bm<;>intro h1)
 ·exfalso;simp [aA,aC] at h1;omega
 (conv=>whnf);have htt:t=l.length:=(by omega);subst htt;have hi2:i=2*m.length:=(by omega);refine aCs (k:=2*m.length) (D:=bD l m m.length) (ls:=outs l m) (s:=l.length) (by rw [gY];omega) (gY l m) ?_;unfold outs;rw [← hDe,← hi2,hlsE,hls'];rfl
end Go.Aw
end

noncomputable section
namespace Go.Aw
set_option maxRecDepth 100000
def pE:Value→Nat
 |.slice (some _) _ c=>c
 |_=>0
section
variable {α β:Type}(E:El α)(G:El β)
theorem aBV {h:Heap}{nx:Nat}{v:Value}{l:List α}(hl:iQ E h v l):In [.slice (some ⟨0,0,none⟩) l.length (pE v)] [(0,.cells false true E.sz (flat E.fl l))] 1 [v] h nx:=by
 unfold iQ at hl;split at hl
 ·rename_i n c;obtain⟨rfl,rfl,rfl⟩:=hl;exact TQ rfl true E.sz E.pos
 ·rename_i k o n c;obtain⟨rfl,wr,g,sz,cs,hk,hcs⟩:=hl;exact aD8 rfl hk hcs (aH E l) true E.sz E.pos
 exact hl.elim
theorem NB {p q:Value}{n:Int}{r:List Value}(hr:eT r=true){h:Heap}{nx:Nat}{l:List α}{m:List β}(hl:iQ E h p l)(hm:iQ G h q m) :
  In (aG l.length m.length (pE p) (pE q) n::r) (aB E G l m) 2 (mapA p q n::r) h nx :=
 aCx hr (TS rfl rfl (aBV (nx:=nx) E hl) (aBV (nx:=nx) G hm) ⟨_,_,rfl,aH E l⟩ ⟨_,_,rfl,aH G m⟩) ⟨_,_,_,rfl⟩ ⟨_,_,_,rfl⟩
end
theorem AM (s:Nat)(ls:List (List Int)):∀ n,gM (tH s ls n)=true
 |0=>rfl
 |n+1=>by
  unfold tH;split
  ·exact AM s ls n
  exact AM s ls n
theorem RU {l:List Pt}{m:List Ed}{c1 c2:Nat}{n:Int}{k:Nat}{D:List Dt}{ls:List (List Int)}:gM (aA8 l m c1 c2 n k D ls)=true:=AM _ _ _
def aF2 (l:List Pt)(m:List Ed)(c1 c2:Nat)(n:Int):Heap:=aA8 l m c1 c2 n (2*m.length) (bD l m m.length) (outs l m)
def W6:Nat × XF:=(153,fun args h nx K=>∃ l m n p q,args=[mapA p q n]∧iQ aT h p l∧iQ aW h q m∧dG l m n=true∧K (.pointer (some ⟨nx+4,0,none⟩)) (app (mR nx (aF2 l m (pE p) (pE q) n)) (eY h)) (nx+2000))
theorem aK5:cT Go.Proofs.Tryz.prog W6.1 W6.2:=by
 refine (jD (S:=fun args0 h0 n0 v1 h1 j=>∃ l m n c1 c2,dG l m n=true∧args0=[aG l.length m.length c1 c2 n]∧h0=aB aT aW l m∧n0=2∧v1=.pointer (some ⟨4,0,none⟩)∧h1=aF2 l m c1 c2 n∧j=2000) (aL (xl:=[(160,RP (I5 1000))]) (.cons (aGn 1000) .nil)) ?_).mono ?_ ?_
 ·rintro args0 h0 n0 v1 h1 j ⟨l,m,n,c1,c2,hok,rfl,rfl,rfl,rfl,rfl,rfl⟩;exact⟨RU,_,aM4 l m n c1 c2 hok,fun v h nx e=>e⟩
 ·rintro args h nx K ⟨l,m,n,p,q,rfl,hl,hm,hok,hx⟩;exact⟨_,_,2,_,_,_,⟨l,m,n,pE p,pE q,hok,rfl,rfl,rfl,rfl,rfl,rfl⟩,NB aT aW rfl hl hm,hx⟩
 rintro args h nx K ⟨l,m,n,p,q,rfl,hl,hm,hok,hx⟩;exact⟨_,_,_,hx,fun K' hk=>⟨l,m,n,p,q,rfl,hl,hm,hok,hk⟩⟩
def r6 (x:Int):List Int→Nat→Int
 |[],_=>-1
 |b::r,i=>if x=b then i else r6 x r (i+1)
def aI6 (l:List Int):List Value→Option (Bool × Value)
 |[.int .i64 x]=>some (decide (l.length≤1000000),iv (r6 x l 0))
 |_=>none
theorem aAZ {l:List Int}{r:List Value}{v:Value}(hs:aI6 l r=some (true,v)):∃ x,r=[iv x]∧l.length≤1000000∧v=iv (r6 x l 0):=by
 unfold aI6 at hs;split at hs
 ·rename_i x;injection hs with hs;injection hs with h1 h2;exact⟨x,rfl,by simpa using h1,h2.symm⟩
 ·cases hs
def ZR (x:Int)(l:List Int)(c:Nat)(j:Int):List (Nat × Value):=[(0,.slice (some ⟨0,0,none⟩) l.length c),(1,iv x),(7,iv l.length),(8,iv j)]
def hIn (l:List Int):Heap:=[(0,.cells false true 1 (flat aP.fl l))]
def uM:Nat × XF:=(167,lX aP aI6)
theorem aJR:cT Go.Proofs.Tryz.prog uM.1 uM.2:=VM aP (aL (xl:=[]) .nil) fun l r v hs=>by
 obtain⟨x,rfl,hlen,rfl⟩:=aAZ hs;refine⟨rfl,rfl,fun c=>?_⟩;(conv=>whnf);refine⟨fun q e h nx=>∃ (i:Nat) (j:Int),j=i∧i≤l.length∧q=l.length - i∧r6 x l 0=r6 x (l.drop i) i∧e=ZR x l c j∧h=hIn l∧nx=1,⟨l.length,?_⟩,?_⟩
 ·refine aO (e0:=ZR x l c 0) (h0:=hIn l) (n0:=1) ⟨0,0,rfl,Nat.zero_le _,rfl,rfl,rfl,rfl,rfl⟩ ?_ ?_ (by decide)
  ·unfold ZR;((repeat' refine iE rfl rfl ?_);exact iN)
  unfold hIn;((repeat'(first|refine iF rfl rfl ?_|refine iC rfl rfl rfl ?_|refine iJ rfl rfl rfl rfl ?_));exact iN)
 rintro q e h nx ⟨i,j,hj,hi,rfl,hb,rfl,rfl,rfl⟩;unfold ZR hIn;((conv=>whnf);apply bm<;>intro h1);rotate_left
 ·have hge:l.length≤i:=(by simp [aA,aC] at h1;omega);(conv=>whnf);rw [hb,List.drop_eq_nil_of_le hge];rfl
 have hlt:i<l.length:=(by simp [aA,aC] at h1;omega);have hd:l.drop i=aD l i::l.drop (i+1):=(by rw [dM hlt];exact List.drop_eq_getElem_cons hlt);rw [hd,r6] at hb;((conv=>whnf);apply bm<;>intro h2);rotate_left
 ·exfalso;simp [aA,aC] at h2;omega
 (conv=>whnf);refine eC (bY l (i:=i) hlt ?_) ?_
 ·show _+Int.toNat j*1=_;omega
 ((conv=>whnf);apply bm<;>intro h3)
 ·have h3:x=aD l i:=(by simpa [aA,aC] using h3);(conv=>whnf);rw [hb,if_pos h3,hj]
 have h3:¬ x=aD l i:=(by simpa [aA,aC] using h3);((conv=>whnf);apply bm<;>intro h4)
 ·(conv=>whnf);refine⟨l.length - (i+1),by omega,?_⟩;refine aO (e0:=ZR x l c (j+1)) (h0:=hIn l) (n0:=1) ⟨i+1,j+1,by omega,hlt,rfl,by rw [hb,if_neg h3],rfl,rfl,rfl⟩ ?_ ?_ (by decide)
  ·unfold ZR;((repeat' refine iE rfl rfl ?_);exact iN)
  unfold hIn;((repeat'(first|refine iF rfl rfl ?_|refine iC rfl rfl rfl ?_|refine iJ rfl rfl rfl rfl ?_));exact iN)
 exfalso;simp [aA,aC,aF] at h4;omega
def fcV (k:Nat):Option (Nat × Nat)→Value
 |none=>aR
 |some (a,b)=>.slice (some ⟨k,0,none⟩) a b
theorem VI {ρ:Nat→Nat}{k:Nat}{o:Option (Nat × Nat)}:cD ρ (fcV k o)=fcV (ρ k) o:=by
 cases o with
 |none=>rfl
 |some p=>rfl
theorem aC0 {k n:Nat}{o:Option (Nat × Nat)}(h:k<n):DN n (fcV k o):=by
 cases o with
 |none=>exact cX rfl
 |some p=>exact⟨h,fun h=>by cases h⟩
def EC (k0 k1 kd kt kf:Nat)(nP nE nD nL c1 c2:Nat)(n:Int)(fo:Option (Nat × Nat)):List Value :=
 [.slice (some ⟨k0,0,none⟩) nP c1,.slice (some ⟨k1,0,none⟩) nE c2,iv n,.slice (some ⟨kd,0,none⟩) nD nD,.slice (some ⟨kt,0,none⟩) nL nL,fcV kf fo]
structure zH (h:Heap) (p k0 k1 kd kt kf:Nat) (nm:Nat→Nat) (l:List Pt) (D:List Dt) (ls:List (List Int)) (nE c1 c2:Nat) (n:Int) (fo:Option (Nat × Nat)):Prop where
 st:∃ wr g sz,look h p=some (.cells wr g sz (EC k0 k1 kd kt kf l.length nE D.length ls.length c1 c2 n fo))
 pt:∃ wr g sz cs,look h k0=some (.cells wr g sz cs)∧cs.take (flat aT.fl l).length=flat aT.fl l
 da:∃ wr g sz cs,look h kd=some (.cells wr g sz cs)∧cs.take (flat sH.fl D).length=flat sH.fl D
 tb:∃ wr g sz,look h kt=some (.cells wr g sz ((List.range ls.length).map fun i=>tV (nm i) (bR ls i)))
 li:∀ i,i<ls.length→(bR ls i).length≠0→∃ wr g sz cs,look h (nm i)=some (.cells wr g sz cs)∧cs.take (flat aP.fl (bR ls i)).length=flat aP.fl (bR ls i)
def gP (l:List Pt)(D:List Dt)(ls:List (List Int))(nE c1 c2:Nat)(n:Int)(fo:Option (Nat × Nat))(s:Nat):Heap :=
 (0,.cells false false 1 (EC 4 5 1 2 6 l.length nE D.length ls.length c1 c2 n fo))::(1,.cells false true 5 (flat sH.fl D))::(2,.cells false false 1 (tC s ls))::(4,.cells false true 2 (flat aT.fl l))::(eY (ZA (bR ls s))++eY (tH s ls ls.length))
def rhW (p k0 k1 kd kt kf k3:Nat)(nm:Nat→Nat)(s:Nat)(k:Nat):Nat :=
 if 1000≤k then nm (k - 1000) else if k=0 then p else if k=1 then kd else if k=2 then kt else if k=3 then k3 else if k=4 then k0 else if k=5 then k1 else if k=6 then kf else nm s
theorem aG8 {p k0 k1 kd kt kf k3:Nat}{nm:Nat→Nat}{s i:Nat}:rhW p k0 k1 kd kt kf k3 nm s (tN s i)=nm i:=by
 unfold tN;split
 ·rename_i e;rw [e];rfl
 unfold rhW;rw [if_pos (by omega),Nat.add_sub_cancel]
theorem KZ {h:Heap}{k:Nat}{o:a8}(hm:(k,o)∈eY h):∃ o',(k,o')∈h∧o=o'.closed:=by
 induction h with
 |nil=>cases hm
 |cons x r ih =>
  obtain⟨j,q⟩:=x;unfold eY at hm;rcases List.mem_cons.1 hm with e|hm
  ·injection e with e1 e2;subst e1 e2;exact⟨q,.head _,rfl⟩
  obtain⟨o',h1,h2⟩:=ih hm;exact⟨o',.tail _ h1,h2⟩
theorem H6 {l:List Pt}{D:List Dt}{ls:List (List Int)}{nE c1 c2:Nat}{n:Int}{fo:Option (Nat × Nat)}{s k:Nat}{o:a8}(h:(k,o)∈gP l D ls nE c1 c2 n fo s) :
  (k=0∧o=.cells false false 1 (EC 4 5 1 2 6 l.length nE D.length ls.length c1 c2 n fo))∨(k=1∧o=.cells false true 5 (flat sH.fl D))∨(k=2∧o=.cells false false 1 (tC s ls))∨(k=4∧o=.cells false true 2 (flat aT.fl l)) ∨
  ∃ i,i<ls.length∧(bR ls i).length≠0∧k=tN s i∧o=.cells false false 1 (flat aP.fl (bR ls i)):=by
 unfold gP at h;simp only [List.mem_cons,List.mem_append] at h;rcases h with h|h|h|h|h|h
 ·injection h with e1 e2;exact .inl ⟨e1,e2⟩
 ·injection h with e1 e2;exact .inr (.inl ⟨e1,e2⟩)
 ·injection h with e1 e2;exact .inr (.inr (.inl ⟨e1,e2⟩))
 ·injection h with e1 e2;exact .inr (.inr (.inr (.inl ⟨e1,e2⟩)))
 ·obtain⟨o',h1,h2⟩:=KZ h;unfold ZA at h1;split at h1
  ·cases h1
  rename_i hc;simp only [List.mem_cons,List.not_mem_nil,or_false] at h1;injection h1 with e1 e2;subst e1 e2 h2;refine .inr (.inr (.inr (.inr ⟨s,?_,hc,by unfold tN;rw [if_pos rfl],rfl⟩)));refine Decidable.byContradiction fun hq=>hc ?_;unfold bR;rw [List.getD_eq_getElem?_getD,List.getElem?_eq_none (by omega)];rfl
 obtain⟨o',h1,h2⟩:=KZ h;obtain⟨i,a1,a2,a3,a4⟩:=B7 h1;injection a4 with e1 e2;subst e1 e2 h2;exact .inr (.inr (.inr (.inr ⟨i,a1,a3,by unfold tN;rw [if_neg a2],rfl⟩)))
theorem aGo {s i n:Nat}(h:i+1000<n):tN s i<n:=by
 unfold tN;split <;> omega
theorem WY {h:Heap}{p k0 k1 kd kt kf k3:Nat}{nm:Nat→Nat}{l:List Pt}{D:List Dt}{ls:List (List Int)}{nE c1 c2:Nat}{n:Int}{fo:Option (Nat × Nat)}(hw:zH h p k0 k1 kd kt kf nm l D ls nE c1 c2 n fo)(hn:ls.length≤1000)(s:Nat) :
  ∀ k o,look (gP l D ls nE c1 c2 n fo s) k=some o→k<2000∧∃ g sz cs0,o=.cells false g sz cs0∧sz≠0∧(g=true→dL cs0=true)∧(∀ v∈cs0,DN 2000 v)∧∃ wr g' sz' cs,look h (rhW p k0 k1 kd kt kf k3 nm s k)=some (.cells wr g' sz' cs)∧cs.take cs0.length=cs0.map (cD (rhW p k0 k1 kd kt kf k3 nm s)):=by
 intro k o hk;have hsl:∀ {q a b:Nat},q<2000→DN 2000 (.slice (some ⟨q,0,none⟩) a b):=fun hq=>⟨hq,fun h=>by cases h⟩;rcases H6 (bF hk) with ⟨rfl,rfl⟩|⟨rfl,rfl⟩|⟨rfl,rfl⟩|⟨rfl,rfl⟩|⟨i,hi,h0,rfl,rfl⟩
 ·obtain⟨wr,g,sz,h1⟩:=hw.st;refine⟨by omega,false,1,_,rfl,by omega,(fun h=>by cases h),?_,wr,g,sz,_,h1,?_⟩
  ·unfold EC;exact List.forall_mem_cons.2 ⟨hsl (by omega),List.forall_mem_cons.2 ⟨hsl (by omega),List.forall_mem_cons.2 ⟨cX rfl,List.forall_mem_cons.2 ⟨hsl (by omega),List.forall_mem_cons.2 ⟨hsl (by omega),List.forall_mem_cons.2 ⟨aC0 (by omega),fun _ h=>(by cases h)⟩⟩⟩⟩⟩⟩
  show _=[_,_,_,_,_,cD _ (fcV 6 fo)];rw [VI];rfl
 ·obtain⟨wr,g,sz,cs,h1,h2⟩:=hw.da;exact⟨by omega,true,5,_,rfl,by omega,fun _=>aH sH D,fun v hv=>cX (bB (aH sH D) hv),wr,g,sz,cs,h1,by rw [h2];exact (cZ (aH sH D)).symm⟩
 ·obtain⟨wr,g,sz,h1⟩:=hw.tb;refine⟨by omega,false,1,_,rfl,by omega,(fun h=>by cases h),KW (by omega) (by omega),wr,g,sz,_,h1,?_⟩;rw [show (tC s ls).length=((List.range ls.length).map fun i=>tV (nm i) (bR ls i)).length by rw [lL];simp,List.take_length];unfold tC;rw [List.map_map];refine List.map_congr_left fun i hi=>?_;show _=cD _ (tV (tN s i) (bR ls i));rw [T8,aG8]
 ·obtain⟨wr,g,sz,cs,h1,h2⟩:=hw.pt;exact⟨by omega,true,2,_,rfl,by omega,fun _=>aH aT l,fun v hv=>cX (bB (aH aT l) hv),wr,g,sz,cs,h1,by rw [h2];exact (cZ (aH aT l)).symm⟩
 obtain⟨wr,g,sz,cs,h1,h2⟩:=hw.li i hi h0;exact⟨aGo (by omega),false,1,_,rfl,by omega,(fun h=>by cases h),fun v hv=>cX (bB (aH aP _) hv),wr,g,sz,cs,by rw [aG8];exact h1,by rw [h2];exact (cZ (aH aP _)).symm⟩
theorem aBr {h:Heap}{p k0 k1 kd kt kf:Nat}{nm:Nat→Nat}{l:List Pt}{D:List Dt}{ls:List (List Int)}{nE c1 c2:Nat}{n:Int}{fo:Option (Nat × Nat)}(hw:zH h p k0 k1 kd kt kf nm l D ls nE c1 c2 n fo)(hn:ls.length≤1000)(s:Nat){r:List Value}(hr:eT r=true){nx:Nat} :
  In (.pointer (some ⟨0,0,none⟩)::r) (gP l D ls nE c1 c2 n fo s) 2000 (.pointer (some ⟨p,0,none⟩)::r) h nx:=by
 refine BJ (rhW p k0 k1 kd kt kf 0 nm s) ?_ ?_ (WY hw hn s)
 ·rw [List.map_cons];congr 1
  conv=>lhs;rw [← List.map_id r]
  exact List.map_congr_left fun v hv=>by rw [jX,gZ (cA hr hv)];rfl
 exact List.forall_mem_cons.2 ⟨⟨Nat.le_of_ble_eq_true rfl,rfl⟩,fun v hv=>dI (cA hr hv)⟩
theorem aFd {h:Heap}{p k0 k1 kd kt kf k3:Nat}{nm:Nat→Nat}{l:List Pt}{D:List Dt}{ls:List (List Int)}{nE c1 c2:Nat}{n:Int}{fo:Option (Nat × Nat)}(hw:zH h p k0 k1 kd kt kf nm l D ls nE c1 c2 n fo)(hn:ls.length≤1000)(s:Nat){L:List Int}{c:Nat}
  (hL:∃ wr g sz cs,look h k3=some (.cells wr g sz cs)∧cs.take (flat aP.fl L).length=flat aP.fl L) {nx:Nat} :
  In [.pointer (some ⟨0,0,none⟩),.slice (some ⟨3,0,none⟩) L.length c] ((3,.cells false true 1 (flat aP.fl L))::gP l D ls nE c1 c2 n fo s) 2000 [.pointer (some ⟨p,0,none⟩),.slice (some ⟨k3,0,none⟩) L.length c] h nx:=by
 refine BJ (rhW p k0 k1 kd kt kf k3 nm s) rfl ?_ fun k o hk=>?_
 ·exact List.forall_mem_cons.2 ⟨⟨Nat.le_of_ble_eq_true rfl,rfl⟩,List.forall_mem_cons.2 ⟨⟨Nat.le_of_ble_eq_true rfl,fun h=>by cases h⟩,fun _ h=>(by cases h)⟩⟩
 rw [aE] at hk;split at hk
 ·rename_i hb;injection hk with hk;subst hk;have:=beq_true hb;subst this;obtain⟨wr,g,sz,cs,h1,h2⟩:=hL;exact⟨by omega,true,1,_,rfl,by omega,fun _=>aH aP L,fun v hv=>cX (bB (aH aP L) hv),wr,g,sz,cs,h1,by rw [h2];exact (cZ (aH aP L)).symm⟩
 exact WY hw hn s k o hk
def wbX (s:List Pt→List Dt→List (List Int)→List Value→Option (Bool × Value)):XF:=fun args h nx K =>
 ∃ p r k0 k1 kd kt kf nm l D ls nE c1 c2 n fo,args=.pointer (some ⟨p,0,none⟩)::r∧zH h p k0 k1 kd kt kf nm l D ls nE c1 c2 n fo∧(match s l D ls r with|some pr=>dT pr.1 (K pr.2 h nx)|none=>False)
theorem S5 {P:Program}{C:VC}{f:Nat}{s:List Pt→List Dt→List (List Int)→List Value→Option (Bool × Value)}(hC:bN P C)
  (hs:∀ l D ls r v,s l D ls r=some (true,v)→eT r=true∧gT v=true∧ls.length≤1000∧∃ s0,∀ nE c1 c2 n fo,C f (.pointer (some ⟨0,0,none⟩)::r) (gP l D ls nE c1 c2 n fo s0) 2000 (fun u _ _=>u=v)):cT P f (wbX s):=by
 refine (jD (S:=fun args0 h0 n0 v1 h1 k=>∃ l D ls r s0 nE c1 c2 n fo,s l D ls r=some (true,v1)∧gT v1=true∧C f (.pointer (some ⟨0,0,none⟩)::r) (gP l D ls nE c1 c2 n fo s0) 2000 (fun u _ _=>u=v1)∧args0=.pointer (some ⟨0,0,none⟩)::r∧h0=gP l D ls nE c1 c2 n fo s0∧n0=2000∧h1=[]∧k=0) hC ?_).mono ?_ ?_
 ·rintro args0 h0 n0 v1 h1 k ⟨l,D,ls,r,s0,nE,c1,c2,n,fo,e1,e2,e3,rfl,rfl,rfl,rfl,rfl⟩;exact⟨rfl,_,e3,fun v h nx e=>by rw [e];exact mG e2⟩
 ·rintro args h nx K ⟨p,r,k0,k1,kd,kt,kf,nm,l,D,ls,nE,c1,c2,n,fo,rfl,hw,hx⟩;split at hx
  case h_2=>exact hx.elim
  rename_i pr e1;obtain⟨bb,u⟩:=pr;obtain⟨rfl,hx⟩:=aI.1 hx;obtain⟨a1,a2,a3,s0,a4⟩:=hs l D ls r u e1;refine⟨_,_,2000,u,[],0,⟨l,D,ls,r,s0,nE,c1,c2,n,fo,e1,a2,a4 nE c1 c2 n fo,rfl,rfl,rfl,rfl,rfl⟩,aBr hw a3 s0 a1,?_⟩;simp only [qK,wR,mR,m8,tP a2,Nat.add_zero];exact hx
 rintro args h nx K ⟨p,r,k0,k1,kd,kt,kf,nm,l,D,ls,nE,c1,c2,n,fo,rfl,hw,hx⟩;split at hx
 case h_2=>exact hx.elim
 rename_i pr e1;obtain⟨hb,hx⟩:=aI.1 hx;exact⟨pr.2,h,nx,hx,fun K' hk=>⟨p,r,k0,k1,kd,kt,kf,nm,l,D,ls,nE,c1,c2,n,fo,rfl,hw,by rw [e1];exact aM hb hk⟩⟩
end Go.Aw
end

noncomputable section
namespace Go.Aw
set_option maxRecDepth 100000
set_option maxHeartbeats 2000000
def DA (xl:List (Nat × XF)):FH:={ aA with X:=look xl,M:=2 }
theorem aFt {xl:List (Nat × XF)}(h:pF xl):sK Go.Proofs.Tryz.prog (DA xl) where
 ar:=lV.ar
 tab:=lV.tab
 mixed:=lV.mixed
 funcs:=lV.funcs
 xs:=h.look
def fG (d:Int):Int:=if d % 2=0 then d+1 else d - 1
def UE (D:List Dt)(ls:List (List Int))(d:Int):List Int:=bR ls (cB D d.toNat).tt.toNat
def CO (D:List Dt)(ls:List (List Int))(d:Int):Int:=aD (UE D ls d) ((r6 (fG d) (UE D ls d) 0 - 1+(UE D ls d).length) % (UE D ls d).length).toNat
def nxB (D:List Dt)(ls:List (List Int))(d:Int):Bool:=decide (0≤d)&&decide (d<D.length)&&decide (D.length≤1000)&&decide (ls.length≤1000)&&(decide (0≤(cB D d.toNat).tt)&&decide ((cB D d.toNat).tt<ls.length)) &&
 (decide (0≤r6 (fG d) (UE D ls d) 0)&&decide (r6 (fG d) (UE D ls d) 0<(UE D ls d).length)&&decide ((UE D ls d).length≤1000))
def nxS (l:List Pt)(D:List Dt)(ls:List (List Int)):List Value→Option (Bool × Value)
 |[.int .i64 d]=>some (nxB D ls d,iv (CO D ls d))
 |_=>none
theorem VW (m:List Dt){i o:Nat}(hi:i<m.length)(ho:o=i*5+4):nth (flat sH.fl m) o=some (iv (cB m i).tt):=by
 rw [pR hi];exact oG sH m hi (k:=4) rfl (by decide) (by rw [ho];rfl)
theorem aKx (m:List Dt){i o:Nat}(hi:i<m.length)(ho:o=i*5+3):nth (flat sH.fl m) o=some (iv (cB m i).fr):=by
 rw [pR hi];exact oG sH m hi (k:=3) rfl (by decide) (by rw [ho];rfl)
theorem aMp (n:Nat):n ^^^ 1=if n % 2=0 then n+1 else n - 1:=by
 have h1:(n ^^^ 1) / 2=n / 2:=(by rw [Nat.xor_div_two];simp);have h2:(n ^^^ 1) % 2=(n % 2) ^^^ 1:=Nat.xor_mod_two_pow (n:=1);split
 ·rename_i h;rw [h] at h2;have:(0:Nat) ^^^ 1=1:=rfl;omega
 rename_i h;rw [show n % 2=1 by omega] at h2;have:(1:Nat) ^^^ 1=0:=rfl;omega
theorem aLN {d:Int}(h:0≤d):((d.toNat ^^^ 1:Nat):Int)=fG d:=by
 rw [aMp];unfold fG;split <;> split <;> omega
def aGQ:Nat × XF:=(78,wbX nxS)
theorem aMV:cT Go.Proofs.Tryz.prog aGQ.1 aGQ.2:=S5 (mC (aFt (xl:=[uM]) (.cons aJR .nil)) 5).1 fun l D ls r v hs=>by
 have:∃ d,r=[iv d]∧nxB D ls d=true∧v=iv (CO D ls d):=by
  unfold nxS at hs;split at hs
  ·rename_i d;injection hs with hs;injection hs with h1 h2;exact⟨d,rfl,h1,h2.symm⟩
  ·cases hs
 obtain⟨d,rfl,hB,rfl⟩:=this;clear hs;unfold nxB at hB;simp only [Bool.and_eq_true,decide_eq_true_eq] at hB;obtain⟨⟨⟨⟨⟨h1,h2⟩,h3⟩,h4⟩,h5,h6⟩,⟨h7,h8⟩,h9⟩:=hB;refine⟨rfl,rfl,h4,(cB D d.toNat).tt.toNat,fun nE c1 c2 n fo=>?_⟩;have hnn:CO D ls d=aD (UE D ls d) ((r6 (fG d) (UE D ls d) 0 - 1+(UE D ls d).length) % (UE D ls d).length).toNat:=rfl;generalize CO D ls d=X at hnn ⊢;unfold UE at h7 h8 h9 hnn;generalize hs:(cB D d.toNat).tt.toNat=s at h7 h8 h9 hnn ⊢;have h0:(bR ls s).length≠0:=(by omega);have ho7:ZA (bR ls s)=[(7,.cells true false 1 (flat aP.fl (bR ls s)))]:=if_neg h0;generalize hq:(bR ls s).length=q at *;have hvv:tV (tN s s) (bR ls s)=.slice (some ⟨7,0,none⟩) q q:=(by rw [tV,if_neg (by omega),tN,if_pos rfl,hq]);have key:∀ o,o=s*1→nth (tC s ls) o=some (.slice (some ⟨7,0,none⟩) q q):=fun o ho=>(by rw [HB (by omega) ho,hvv]);unfold gP EC;rw [ho7]
 repeat' first
  |(((conv=>whnf);apply bm<;>intro g))
  |((conv=>whnf)
    refine eC (VW D (i:=d.toNat) (by omega) ?_) ?_
    ·show _+Int.toNat d*5+4=_;omega)
  |((conv=>whnf)
    refine eC (key _ ?_) ?_
    ·show _+Int.toNat (cB D d.toNat).tt*1=_;omega)
 all_goals first
  |(exfalso;simp [DA,aA,aC,wE] at g;omega)
  |skip
 (conv=>whnf);refine⟨bR ls s,⟨hq.symm,_,_,_,_,rfl,by rw [List.drop_zero,List.take_length]⟩,?_⟩;((conv=>whnf);apply bm<;>intro g1);rotate_left
 ·have g1:decide ((bR ls s).length≤1000000)=false:=g1;exact absurd g1 (by rw [decide_eq_true (by omega)];decide)
 have hxo:(DA [uM]).A.num ((DA [uM]).A.bit BinOp.xor ((DA [uM]).A.toN d) ((DA [uM]).A.toN 1))=fG d:=aLN h1;generalize (DA [uM]).A.num ((DA [uM]).A.bit BinOp.xor ((DA [uM]).A.toN d) ((DA [uM]).A.toN 1))=bk at hxo;subst hxo;generalize r6 (fG d) (bR ls s) 0=a at h7 h8 hnn;have hix:0≤(a - 1+(q:Int)).tmod q∧(a - 1+(q:Int)).tmod q<q∧(a - 1+(q:Int)).tmod q=(a - 1+(q:Int)) % q:=by
  have e:(a - 1+(q:Int)).tmod q=(a - 1+(q:Int)) % q:=Int.tmod_eq_emod_of_nonneg (by omega);rw [e];exact⟨Int.emod_nonneg _ (by omega),Int.emod_lt_of_pos _ (by omega),rfl⟩
 have hget:∀ o,o=((a - 1+(q:Int)).tmod q).toNat*1→nth (flat aP.fl (bR ls s)) o=some (iv X):=fun o ho=>by
  rw [bY (bR ls s) (i:=((a - 1+(q:Int)).tmod q).toNat) (by omega) ho,hnn,hix.2.2]
 generalize hz:(a - 1+(q:Int)).tmod q=z at hix hget
 repeat' first
  |(((conv=>whnf);apply bm<;>intro g))
  |((conv=>whnf)
    refine eC (hget _ ?_) ?_
    ·show _+Int.toNat ((a - 1+(q:Int)).tmod q)*1=_;rw [hz];omega)
 all_goals first
  |(exfalso;simp [DA,aA,aC,aF] at g;omega)
  |(exfalso
    have g:(decide (0≤(a - 1+(q:Int)).tmod q)&&decide ((a - 1+(q:Int)).tmod q<q))=false:=g;rw [hz] at g;simp at g;omega)
  |(exfalso
    rename_i g4 g3 g2;simp [DA,aA,aC] at g2 g3 g4;omega)
  |(conv=>whnf)
end Go.Aw
end
