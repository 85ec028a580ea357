/-
  Parts of a proof. No condition.
-/
import Derived.Test.YtjahkcbdecgbhaaGreatQAs
set_option linter.unusedSimpArgs false
set_option linter.unusedVariables false
noncomputable section
namespace Go.Aw
set_option maxRecDepth 100000
theorem kS (l:List Int):∀ (i:Nat) (v:Int),i<l.length→cN (flat aP.fl l) (i*1) [iv v]=flat aP.fl (l.set i v):=by
 induction l with
 |nil=>intro i v h;cases h
 |cons a r ih =>
  intro i v h;cases i with
  |zero=>rfl
  |succ i =>
   have:=ih i v (by simpa using h);simp only [List.set_cons_succ,flat,← this];have e:(i+1)*1=i*1+1:=(by omega);rw [e];unfold cN;show List.take (i*1+1) (iv a::flat aP.fl r)++_++List.drop (i*1+1+1) (iv a::flat aP.fl r)=_;rfl
theorem qW {of w:List Int}{c:Int}{t o:Nat}(ho:o=(aD w t).toNat*1)(hi:(aD w t).toNat<of.length):cN (flat aP.fl (dW of w c t)) o [iv c]=flat aP.fl (dW of w c (t+1)):=by
 rw [ho,kS _ _ _ (by rw [fE];exact hi)];rfl
def fcS (l:List Pt)(m:List Ed)(n:Int):List Value→YS Int
 |[]=>some (pU l m&&decide (1≤m.length),(eU l m).of,[iv (eU l m).faces,.bool (NK (eU l m))])
 |_=>none
theorem aEa {l:List Pt}{m:List Ed}{n:Int}{r:List Value}{out:List Int}{rest:List Value}(h:fcS l m n r=some (true,out,rest)):r=[]∧pU l m=true∧1≤m.length∧out=(eU l m).of∧rest=[iv (eU l m).faces,.bool (NK (eU l m))]:=by
 unfold fcS at h;split at h
 ·injection h with h;injection h with h1 h2;injection h2 with h2 h3;simp only [Bool.and_eq_true,decide_eq_true_eq] at h1;exact⟨rfl,h1.1,h1.2,h2.symm,h3.symm⟩
 ·cases h
def tru (m:List Ed):List Bool:=List.replicate (2*m.length) true
theorem aE8 (m:List Ed):(tru m).length=2*m.length:=List.length_replicate
def fU (l:List Pt)(m:List Ed)(c1 c2:Nat)(n:Int)(s:Value)(F:Int)(K:Bool):Heap:=(5,.cells true false 1 [s,iv F,.bool K])::(4,.cells true false 1 (flat gI.fl (tru m)))::(3,.cells true false 1 [.slice none 0 0,iv 0,.bool false])::(2,aX l.length m.length c1 c2 n)::aB aT aW l m
def MG (m:List Ed)(j:Int):List (Nat × Value):=[(1,.pointer (some ⟨2,0,none⟩)),(2,.pointer (some ⟨3,0,none⟩)),(3,.slice (some ⟨4,0,none⟩) (tru m).length (tru m).length),(4,.pointer (some ⟨5,0,none⟩)),(5,iv j)]
def jR (m:List Ed)(O j:Int):List (Nat × Value):=[(1,.pointer (some ⟨2,0,none⟩)),(2,.pointer (some ⟨3,0,none⟩)),(3,.slice (some ⟨4,0,none⟩) (tru m).length (tru m).length),(4,.pointer (some ⟨5,0,none⟩)),(6,iv O),(7,iv j)]
def lC (m:List Ed)(w:List Int)(O j c i:Int):List (Nat × Value):=(8,.slice (some ⟨7,0,none⟩) w.length w.length)::(10,iv c)::(11,iv i)::jR m O j
def aCb:Nat × XF:=(158,mYX aT aW aP fcS)
theorem aKu:cT Go.Proofs.Tryz.prog aCb.1 aCb.2:=aCM aT aW aP (aL (xl:=[aHv,aAM,X90]) (.cons aMw (.cons aK0 (.cons x90 .nil)))) fun l m n r out rest hs=>by
 obtain⟨rfl,hM,h1m,rfl,rfl⟩:=aEa hs;clear hs;refine⟨rfl,rfl,fun c1 c2=>?_⟩;have hm:m.length≤1000:=(by simp only [pU,Bool.and_eq_true,decide_eq_true_eq] at hM;exact hM.1.2);(conv=>whnf);refine⟨_,_,_,[],l,m,rfl,aJ aT rfl,aJ aW rfl,?_⟩;((conv=>whnf);apply bm<;>intro h1);rotate_left
 ·exfalso;have h1:(decide (1≤m.length)&&decide (m.length≤1000))=false:=h1;rw [decide_eq_true h1m,decide_eq_true hm] at h1;cases h1
 (conv=>whnf)
 refine⟨fun q e h nx=>∃ (i:Nat) (j:Int),j=i∧i≤2*m.length∧q=2*m.length - i∧e=MG m j ∧
  ((i=0∧h=fU l m c1 c2 n (.slice none 0 0) 0 true∧nx=6)∨(0<i∧h=(6,.cells true false 1 (flat aP.fl (List.replicate i (-1))))::fU l m c1 c2 n (.slice (some ⟨6,0,none⟩) i i) 0 true∧nx=7)),⟨2*m.length,?_⟩,?_⟩
 ·refine aO (e0:=MG m 0) (h0:=fU l m c1 c2 n (.slice none 0 0) 0 true) (n0:=6) ⟨0,0,rfl,Nat.zero_le _,rfl,rfl,.inl ⟨rfl,rfl,rfl⟩⟩ ?_ ?_ (by decide)
  ·unfold MG;((repeat' refine iE rfl rfl ?_);exact iN)
  unfold fU aX aB;((repeat'(first|refine iF rfl rfl ?_|refine iC rfl rfl rfl ?_|refine iJ rfl rfl rfl rfl ?_));exact iN)
 rintro q e h nx ⟨i,j,hj,hi,rfl,rfl,⟨hi0,rfl,rfl⟩|⟨hip,rfl,rfl⟩⟩
 ·subst hi0;unfold MG fU aX aB;((conv=>whnf);apply bm<;>intro h2);rotate_left
  ·exfalso;simp [aA,aC,aF] at h2;omega
  ((conv=>whnf);apply bm<;>intro h3)
  ·((conv=>whnf);apply bm<;>intro h4)
   ·(conv=>whnf);refine⟨2*m.length - 1,by omega,?_⟩;refine gN (e0:=MG m (j+1)) (h0:=(6,.cells true false 1 (flat aP.fl [-1]))::fU l m c1 c2 n (.slice (some ⟨6,0,none⟩) 1 1) 0 true) (n0:=7) 6 7 (by decide) (by decide) ⟨1,j+1,by omega,by omega,rfl,rfl,.inr ⟨Nat.one_pos,rfl,rfl⟩⟩ ?_ ?_ ?_
    ·unfold MG;((repeat' refine iE rfl rfl ?_);exact iN)
    ·unfold fU aX aB;((repeat'(first|refine iF rfl rfl ?_|refine iC rfl rfl rfl ?_|refine iJ rfl rfl rfl rfl ?_));exact iN)
    unfold fU aB;((repeat' refine iK rfl ?_);exact iN)
   exfalso;simp [aA,aC,aF] at h4;omega
  exfalso;simp [aA,aC] at h3;omega
 unfold MG fU aX aB;((conv=>whnf);apply bm<;>intro h2);rotate_left
 ·exfalso;simp [aA,aC,aF] at h2;omega
 ((conv=>whnf);apply bm<;>intro h3)
 ·have hlt:i<2*m.length:=(by simp [aA,aC] at h3;omega);have hll:(flat aP.fl (List.replicate i (-1))).length=i:=(by rw [a7,List.length_replicate];exact Nat.mul_one _);((conv=>whnf);apply bm<;>intro h4)
  ·exfalso;have:=Nat.le_of_ble_eq_true h4;omega
  ((conv=>whnf);apply bm<;>intro h5);rotate_left
  ·exact jA (s:=1) (by omega) (by omega) h5
  ((conv=>whnf);apply bm<;>intro h6)
  ·(conv=>whnf);refine⟨2*m.length - (i+1),by omega,?_⟩
   refine gN (e0:=MG m (j+1)) (h0:=(6,.cells true false 1 (flat aP.fl (List.replicate i (-1)++[-1])))::fU l m c1 c2 n (.slice (some ⟨6,0,none⟩) (i+1) (i+1)) 0 true) (n0:=7) 6 8 (by decide) (by decide)
    ⟨i+1,j+1,by omega,by omega,rfl,rfl,.inr ⟨Nat.succ_pos _,by rw [List.replicate_succ'];rfl,rfl⟩⟩ ?_ ?_ ?_
   ·unfold MG;((repeat' refine iE rfl rfl ?_);exact iN)
   ·unfold fU aX aB;((repeat'(first|refine iW rfl rfl (aU (aH aP _) (cL aP (List.replicate i (-1)) (-1) (by rw [List.length_replicate]))) ?_|refine iF rfl rfl ?_|refine iC rfl rfl rfl ?_|refine iJ rfl rfl rfl rfl ?_));exact iN)
   unfold fU aB;((repeat' refine iK rfl ?_);exact iN)
  exfalso;simp [aA,aC,aF] at h6;omega
 have hge:i=2*m.length:=(by simp [aA,aC] at h3;omega);subst hge;(conv=>whnf)
 refine⟨fun q e h nx=>∃ (i:Nat) (j:Int),j=i∧i≤2*m.length∧q=2*m.length - i∧e=jR m (j6 l m i).outside j ∧
  h=(6,.cells true false 1 (flat aP.fl (j6 l m i).of))::fU l m c1 c2 n (.slice (some ⟨6,0,none⟩) (2*m.length) (2*m.length)) (j6 l m i).faces (j6 l m i).ok∧nx=7,⟨2*m.length,?_⟩,?_⟩
 ·refine aO (e0:=jR m 0 0) (h0:=(6,.cells true false 1 (flat aP.fl (List.replicate (2*m.length) (-1))))::fU l m c1 c2 n (.slice (some ⟨6,0,none⟩) (2*m.length) (2*m.length)) 0 true) (n0:=7) ⟨0,0,rfl,Nat.zero_le _,rfl,rfl,rfl,rfl⟩ ?_ ?_ (by decide)
  ·unfold jR;((repeat' refine iE rfl rfl ?_);exact iN)
  unfold fU aX aB;((repeat'(first|refine iF rfl rfl ?_|refine iC rfl rfl rfl ?_|refine iJ rfl rfl rfl rfl ?_));exact iN)
 clear h2 h3 hj hi hip h1;rintro q e h nx ⟨i,j,hj,hi,rfl,rfl,rfl,rfl⟩;have low:=JV l m i;have len:=vY l m i;have nxt:j6 l m (i+1)=pW l m (j6 l m i) i:=rfl;generalize hst:j6 l m i=st at low len nxt;unfold jR fU aX aB;((conv=>whnf);apply bm<;>intro h2);rotate_left
 ·exfalso;simp [aA,aC,aF] at h2;omega
 ((conv=>whnf);apply bm<;>intro h3);rotate_left
 ·have hge:i=2*m.length:=(by simp [aA,aC] at h3;omega);have hfin:eU l m=st:=(by rw [← hst,hge];rfl);rw [hfin]
  repeat' ((conv=>whnf);apply bm<;>intro g1)
  all_goals (conv=>whnf)
  all_goals refine⟨6,?_,rfl⟩
  all_goals (show Value.agg _=Value.agg _)
  all_goals rw [len]
  all_goals (simp [aA,aC] at *)
  all_goals simp [NK, *]
 have hlt:i<2*m.length:=(by simp [aA,aC] at h3;omega);have hdj:pD m j=true:=(by simp only [pD,Bool.and_eq_true,decide_eq_true_eq];omega);((conv=>whnf);apply bm<;>intro h4);rotate_left
 ·exfalso;simp [aA,aC] at h4;omega
 (conv=>whnf);refine eC (bY st.of (i:=i) (by omega) ?_) ?_
 ·show _+Int.toNat j*1=_;omega
 ((conv=>whnf);apply bm<;>intro h5)
 ·have h5:0≤aD st.of i:=(by simpa [aA,aC] using h5);((conv=>whnf);apply bm<;>intro h6)
  ·(conv=>whnf);refine⟨2*m.length - (i+1),by omega,?_⟩;refine aO (e0:=jR m st.outside (j+1)) (h0:=(6,.cells true false 1 (flat aP.fl st.of))::fU l m c1 c2 n (.slice (some ⟨6,0,none⟩) (2*m.length) (2*m.length)) st.faces st.ok) (n0:=7) ⟨i+1,j+1,by omega,by omega,rfl,?_,?_,rfl⟩ ?_ ?_ (by decide)
   ·rw [nxt];unfold pW;rw [if_pos h5];rfl
   ·rw [nxt];unfold pW;rw [if_pos h5];rfl
   ·unfold jR;((repeat' refine iE rfl rfl ?_);exact iN)
   unfold fU aX aB;((repeat'(first|refine iF rfl rfl ?_|refine iC rfl rfl rfl ?_|refine iJ rfl rfl rfl rfl ?_));exact iN)
  exfalso;simp [aA,aC,aF] at h6;omega
 have h5:¬ 0≤aD st.of i:=(by simpa [aA,aC] using h5);(conv=>whnf);refine⟨_,_,_,[iv j],_,l,m,tru m,rfl,aJ aT rfl,aJ aW rfl,aJ gI rfl,?_⟩;((conv=>whnf);apply bm<;>intro h6);rotate_left
 ·exfalso;have h6:(pU l m&&pD m j&&decide ((tru m).length=2*m.length))=false:=h6;rw [hM,hdj,decide_eq_true (aE8 m)] at h6;cases h6
 obtain⟨w,hw⟩:∃ w,w=kT l m (tru m) j:=⟨_,rfl⟩;have hwl:=R5 l m (tru m) j;have hwp:=TN l m (tru m) j;have hwi:=YZ (l:=l) (k:=tru m) hm hdj;rw [← hw] at hwl hwp hwi;have hj':kT l m (List.replicate (2*m.length) true) i=w:=(by rw [hw,hj];rfl);rw [← hw];(conv=>whnf);refine⟨_,_,_,[],_,l,m,w,rfl,aJ aT rfl,aJ aW rfl,aJ aP rfl,?_⟩;((conv=>whnf);apply bm<;>intro h7);rotate_left
 ·exfalso;have h7:(pU l m&&T6 m w&&decide (w.length≤10000))=false:=h7;rw [hM,hwi,decide_eq_true (show w.length≤10000 by omega)] at h7;cases h7
 obtain⟨a,ha⟩:∃ a,a=mV l m w w.length:=⟨_,rfl⟩;rw [← ha];have hstep:pW l m st i=⟨dW st.of w (if 0<a then st.faces+1 else 0) w.length,if 0<a then st.faces+1 else st.faces,if a<0 then st.outside+1 else st.outside,if a=0 then false else st.ok⟩:=by
  unfold pW;rw [if_neg h5];simp only [hj',← ha]
 ((conv=>whnf);apply bm<;>intro g1)
 ·have g1:0<a:=(by simpa [aA,aC] using g1);rw [if_pos g1,if_pos g1,if_neg (by omega),if_neg (by omega)] at hstep;((conv=>whnf);apply bm<;>intro g2);rotate_left
  ·exfalso;simp [aA,aC,aF] at g2;omega
  ((conv=>whnf);apply bm<;>intro g3)
  ·exfalso;have:a<0:=(by simpa [aA,aC] using g3);omega
  ((conv=>whnf);apply bm<;>intro g4)
  ·exfalso;have:a=0:=(by simpa [aA,aC] using g4);omega
  (conv=>whnf)
  refine⟨fun q e h nx=>∃ (t:Nat) (z:Int),z=t∧t≤w.length∧q=w.length - t∧e=lC m w (st.outside) j (st.faces+1) z ∧
   h=(7,.cells true false 1 (flat aP.fl w))::(6,.cells true false 1 (flat aP.fl (dW st.of w (st.faces+1) t)))::fU l m c1 c2 n (.slice (some ⟨6,0,none⟩) (2*m.length) (2*m.length)) (st.faces+1) (st.ok)∧nx=8,⟨w.length,?_⟩,?_⟩
  ·refine aO (e0:=lC m w (st.outside) j (st.faces+1) 0) (h0:=(7,.cells true false 1 (flat aP.fl w))::(6,.cells true false 1 (flat aP.fl st.of))::fU l m c1 c2 n (.slice (some ⟨6,0,none⟩) (2*m.length) (2*m.length)) (st.faces+1) (st.ok)) (n0:=8) ⟨0,0,rfl,Nat.zero_le _,rfl,rfl,rfl,rfl⟩ ?_ ?_ (by decide)
   ·unfold lC jR;((repeat' refine iE rfl rfl ?_);exact iN)
   unfold fU aX aB;((repeat'(first|refine iF rfl rfl ?_|refine iC rfl rfl rfl ?_|refine iJ rfl rfl rfl rfl ?_));exact iN)
  rintro q e h nx ⟨t,z,hz,ht,rfl,rfl,rfl,rfl⟩;have sl:=fE st.of w (st.faces+1) t;unfold lC jR fU aX aB;((conv=>whnf);apply bm<;>intro k1);rotate_left
  ·have hgt:t=w.length:=(by simp [aA,aC] at k1;omega);subst hgt;((conv=>whnf);apply bm<;>intro k2)
   ·(conv=>whnf);refine⟨2*m.length - (i+1),by omega,?_⟩;refine aO (e0:=jR m (st.outside) (j+1)) (h0:=(6,.cells true false 1 (flat aP.fl (dW st.of w (st.faces+1) w.length)))::fU l m c1 c2 n (.slice (some ⟨6,0,none⟩) (2*m.length) (2*m.length)) (st.faces+1) (st.ok)) (n0:=7) ⟨i+1,j+1,by omega,by omega,rfl,by rw [nxt,hstep];rfl,by rw [nxt,hstep];rfl,rfl⟩ ?_ ?_ (by decide)
    ·unfold jR;((repeat' refine iE rfl rfl ?_);exact iN)
    unfold fU aX aB;((repeat'(first|refine iF rfl rfl ?_|refine iC rfl rfl rfl ?_|refine iJ rfl rfl rfl rfl ?_));exact iN)
   exfalso;simp [aA,aC,aF] at k2;omega
  have htl:t<w.length:=(by simp [aA,aC] at k1;omega);have hdt:=zD hwi htl;simp only [pD,Bool.and_eq_true,decide_eq_true_eq] at hdt;((conv=>whnf);apply bm<;>intro k2);rotate_left
  ·exfalso;simp [aA,aC] at k2;omega
  (conv=>whnf);refine eC (bY w (i:=t) htl ?_) ?_
  ·show _+Int.toNat z*1=_;omega
  ((conv=>whnf);apply bm<;>intro k3)
  ·((conv=>whnf);apply bm<;>intro k4)
   ·((conv=>whnf);apply bm<;>intro k5)
    ·(conv=>whnf);refine⟨w.length - (t+1),by omega,?_⟩;refine aO (e0:=lC m w (st.outside) j (st.faces+1) (z+1)) (h0:=(7,.cells true false 1 (flat aP.fl w))::(6,.cells true false 1 (flat aP.fl (dW st.of w (st.faces+1) (t+1))))::fU l m c1 c2 n (.slice (some ⟨6,0,none⟩) (2*m.length) (2*m.length)) (st.faces+1) (st.ok)) (n0:=8) ⟨t+1,z+1,by omega,by omega,rfl,rfl,rfl,rfl⟩ ?_ ?_ (by decide)
     ·unfold lC jR;((repeat' refine iE rfl rfl ?_);exact iN)
     unfold fU aX aB;have bZ:=qW (of:=st.of) (w:=w) (c:=st.faces+1) (t:=t) (o:=0+(aD w t).toNat*1) (by omega) (by omega);((repeat'(first|refine iW rfl rfl (aU (aH aP _) bZ) ?_|refine iF rfl rfl ?_|refine iC rfl rfl rfl ?_|refine iJ rfl rfl rfl rfl ?_));exact iN)
    exfalso;simp [aA,aC,aF] at k5;omega
   exfalso;have hfl:(flat aP.fl (dW st.of w (st.faces+1) t)).length=2*m.length:=(by rw [a7,sl,len];exact Nat.mul_one _);rw [hfl] at k4;have k4:(0+(aD w t).toNat*1+1).ble (2*m.length)=false:=k4;have:=Nat.ble_eq_true_of_le (show 0+(aD w t).toNat*1+1≤2*m.length by omega);rw [this] at k4;cases k4
  exfalso;simp [aA,aC] at k3;omega
 have g1:¬ 0<a:=(by simpa [aA,aC] using g1);rw [if_neg g1,if_neg g1] at hstep;((conv=>whnf);apply bm<;>intro g3);rotate_left
 ·have g3:¬ a<0:=(by simpa [aA,aC] using g3);rw [if_neg g3,if_pos (by omega)] at hstep;((conv=>whnf);apply bm<;>intro g4)
  ·(conv=>whnf)
   refine⟨fun q e h nx=>∃ (t:Nat) (z:Int),z=t∧t≤w.length∧q=w.length - t∧e=lC m w (st.outside) j (0) z ∧
    h=(7,.cells true false 1 (flat aP.fl w))::(6,.cells true false 1 (flat aP.fl (dW st.of w (0) t)))::fU l m c1 c2 n (.slice (some ⟨6,0,none⟩) (2*m.length) (2*m.length)) (st.faces) (false)∧nx=8,⟨w.length,?_⟩,?_⟩
   ·refine aO (e0:=lC m w (st.outside) j (0) 0) (h0:=(7,.cells true false 1 (flat aP.fl w))::(6,.cells true false 1 (flat aP.fl st.of))::fU l m c1 c2 n (.slice (some ⟨6,0,none⟩) (2*m.length) (2*m.length)) (st.faces) (false)) (n0:=8) ⟨0,0,rfl,Nat.zero_le _,rfl,rfl,rfl,rfl⟩ ?_ ?_ (by decide)
    ·unfold lC jR;((repeat' refine iE rfl rfl ?_);exact iN)
    unfold fU aX aB;((repeat'(first|refine iF rfl rfl ?_|refine iC rfl rfl rfl ?_|refine iJ rfl rfl rfl rfl ?_));exact iN)
   rintro q e h nx ⟨t,z,hz,ht,rfl,rfl,rfl,rfl⟩;have sl:=fE st.of w (0) t;unfold lC jR fU aX aB;((conv=>whnf);apply bm<;>intro k1)
   ·have htl:t<w.length:=(by simp [aA,aC] at k1;omega);have hdt:=zD hwi htl;simp only [pD,Bool.and_eq_true,decide_eq_true_eq] at hdt;((conv=>whnf);apply bm<;>intro k2)
    ·(conv=>whnf);refine eC (bY w (i:=t) htl ?_) ?_
     ·show _+Int.toNat z*1=_;omega
     ((conv=>whnf);apply bm<;>intro k3)
     ·((conv=>whnf);apply bm<;>intro k4)
      ·((conv=>whnf);apply bm<;>intro k5)
       ·(conv=>whnf);refine⟨w.length - (t+1),by omega,?_⟩;refine aO (e0:=lC m w (st.outside) j (0) (z+1)) (h0:=(7,.cells true false 1 (flat aP.fl w))::(6,.cells true false 1 (flat aP.fl (dW st.of w (0) (t+1))))::fU l m c1 c2 n (.slice (some ⟨6,0,none⟩) (2*m.length) (2*m.length)) (st.faces) (false)) (n0:=8) ⟨t+1,z+1,by omega,by omega,rfl,rfl,rfl,rfl⟩ ?_ ?_ (by decide)
        ·unfold lC jR;((repeat' refine iE rfl rfl ?_);exact iN)
        unfold fU aX aB;have bZ:=qW (of:=st.of) (w:=w) (c:=0) (t:=t) (o:=0+(aD w t).toNat*1) (by omega) (by omega);((repeat'(first|refine iW rfl rfl (aU (aH aP _) bZ) ?_|refine iF rfl rfl ?_|refine iC rfl rfl rfl ?_|refine iJ rfl rfl rfl rfl ?_));exact iN)
       exfalso;simp [aA,aC,aF] at k5;omega
      exfalso;have hfl:(flat aP.fl (dW st.of w (0) t)).length=2*m.length:=(by rw [a7,sl,len];exact Nat.mul_one _);rw [hfl] at k4;have k4:(0+(aD w t).toNat*1+1).ble (2*m.length)=false:=k4;have:=Nat.ble_eq_true_of_le (show 0+(aD w t).toNat*1+1≤2*m.length by omega);rw [this] at k4;cases k4
     exfalso;simp [aA,aC] at k3;omega
    exfalso;simp [aA,aC] at k2;omega
   have hgt:t=w.length:=(by simp [aA,aC] at k1;omega);subst hgt;((conv=>whnf);apply bm<;>intro k2)
   ·(conv=>whnf);refine⟨2*m.length - (i+1),by omega,?_⟩;refine aO (e0:=jR m (st.outside) (j+1)) (h0:=(6,.cells true false 1 (flat aP.fl (dW st.of w (0) w.length)))::fU l m c1 c2 n (.slice (some ⟨6,0,none⟩) (2*m.length) (2*m.length)) (st.faces) (false)) (n0:=7) ⟨i+1,j+1,by omega,by omega,rfl,by rw [nxt,hstep];rfl,by rw [nxt,hstep];rfl,rfl⟩ ?_ ?_ (by decide)
    ·unfold jR;((repeat' refine iE rfl rfl ?_);exact iN)
    unfold fU aX aB;((repeat'(first|refine iF rfl rfl ?_|refine iC rfl rfl rfl ?_|refine iJ rfl rfl rfl rfl ?_));exact iN)
   exfalso;simp [aA,aC,aF] at k2;omega
  exfalso;have:¬ a=0:=(by simpa [aA,aC] using g4);omega
 have g3:a<0:=(by simpa [aA,aC] using g3);rw [if_pos g3,if_neg (by omega)] at hstep;((conv=>whnf);apply bm<;>intro g2);rotate_left
 ·exfalso;simp [aA,aC,aF] at g2;omega
 ((conv=>whnf);apply bm<;>intro g4)
 ·exfalso;have:a=0:=(by simpa [aA,aC] using g4);omega
 (conv=>whnf)
 refine⟨fun q e h nx=>∃ (t:Nat) (z:Int),z=t∧t≤w.length∧q=w.length - t∧e=lC m w (st.outside+1) j (0) z ∧
  h=(7,.cells true false 1 (flat aP.fl w))::(6,.cells true false 1 (flat aP.fl (dW st.of w (0) t)))::fU l m c1 c2 n (.slice (some ⟨6,0,none⟩) (2*m.length) (2*m.length)) (st.faces) (st.ok)∧nx=8,⟨w.length,?_⟩,?_⟩
 ·refine aO (e0:=lC m w (st.outside+1) j (0) 0) (h0:=(7,.cells true false 1 (flat aP.fl w))::(6,.cells true false 1 (flat aP.fl st.of))::fU l m c1 c2 n (.slice (some ⟨6,0,none⟩) (2*m.length) (2*m.length)) (st.faces) (st.ok)) (n0:=8) ⟨0,0,rfl,Nat.zero_le _,rfl,rfl,rfl,rfl⟩ ?_ ?_ (by decide)
  ·unfold lC jR;((repeat' refine iE rfl rfl ?_);exact iN)
  unfold fU aX aB;((repeat'(first|refine iF rfl rfl ?_|refine iC rfl rfl rfl ?_|refine iJ rfl rfl rfl rfl ?_));exact iN)
 rintro q e h nx ⟨t,z,hz,ht,rfl,rfl,rfl,rfl⟩;have sl:=fE st.of w (0) t;unfold lC jR fU aX aB;((conv=>whnf);apply bm<;>intro k1);rotate_left
 ·have hgt:t=w.length:=(by simp [aA,aC] at k1;omega);subst hgt;((conv=>whnf);apply bm<;>intro k2)
  ·(conv=>whnf);refine⟨2*m.length - (i+1),by omega,?_⟩;refine aO (e0:=jR m (st.outside+1) (j+1)) (h0:=(6,.cells true false 1 (flat aP.fl (dW st.of w (0) w.length)))::fU l m c1 c2 n (.slice (some ⟨6,0,none⟩) (2*m.length) (2*m.length)) (st.faces) (st.ok)) (n0:=7) ⟨i+1,j+1,by omega,by omega,rfl,by rw [nxt,hstep];rfl,by rw [nxt,hstep];rfl,rfl⟩ ?_ ?_ (by decide)
   ·unfold jR;((repeat' refine iE rfl rfl ?_);exact iN)
   unfold fU aX aB;((repeat'(first|refine iF rfl rfl ?_|refine iC rfl rfl rfl ?_|refine iJ rfl rfl rfl rfl ?_));exact iN)
  exfalso;simp [aA,aC,aF] at k2;omega
 have htl:t<w.length:=(by simp [aA,aC] at k1;omega);have hdt:=zD hwi htl;simp only [pD,Bool.and_eq_true,decide_eq_true_eq] at hdt;((conv=>whnf);apply bm<;>intro k2);rotate_left
 ·exfalso;simp [aA,aC] at k2;omega
 (conv=>whnf);refine eC (bY w (i:=t) htl ?_) ?_
 ·show _+Int.toNat z*1=_;omega
 ((conv=>whnf);apply bm<;>intro k3)
 ·((conv=>whnf);apply bm<;>intro k4)
  ·((conv=>whnf);apply bm<;>intro k5)
   ·(conv=>whnf);refine⟨w.length - (t+1),by omega,?_⟩;refine aO (e0:=lC m w (st.outside+1) j (0) (z+1)) (h0:=(7,.cells true false 1 (flat aP.fl w))::(6,.cells true false 1 (flat aP.fl (dW st.of w (0) (t+1))))::fU l m c1 c2 n (.slice (some ⟨6,0,none⟩) (2*m.length) (2*m.length)) (st.faces) (st.ok)) (n0:=8) ⟨t+1,z+1,by omega,by omega,rfl,rfl,rfl,rfl⟩ ?_ ?_ (by decide)
    ·unfold lC jR;((repeat' refine iE rfl rfl ?_);exact iN)
    unfold fU aX aB;have bZ:=qW (of:=st.of) (w:=w) (c:=0) (t:=t) (o:=0+(aD w t).toNat*1) (by omega) (by omega);((repeat'(first|refine iW rfl rfl (aU (aH aP _) bZ) ?_|refine iF rfl rfl ?_|refine iC rfl rfl rfl ?_|refine iJ rfl rfl rfl rfl ?_));exact iN)
   exfalso;simp [aA,aC,aF] at k5;omega
  exfalso;have hfl:(flat aP.fl (dW st.of w (0) t)).length=2*m.length:=(by rw [a7,sl,len];exact Nat.mul_one _);rw [hfl] at k4;have k4:(0+(aD w t).toNat*1+1).ble (2*m.length)=false:=k4;have:=Nat.ble_eq_true_of_le (show 0+(aD w t).toNat*1+1≤2*m.length by omega);rw [this] at k4;cases k4
 exfalso;simp [aA,aC] at k3;omega
theorem AR (l:List Bool):∀ (i:Nat) (v:Bool),i<l.length→cN (flat gI.fl l) (i*1) [.bool v]=flat gI.fl (l.set i v):=by
 induction l with
 |nil=>intro i v h;cases h
 |cons a r ih =>
  intro i v h;cases i with
  |zero=>rfl
  |succ i =>
   have:=ih i v (by simpa using h);simp only [List.set_cons_succ,flat,← this];have e:(i+1)*1=i*1+1:=(by omega);rw [e];unfold cN;show List.take (i*1+1) (.bool a::flat gI.fl r)++_++List.drop (i*1+1+1) (.bool a::flat gI.fl r)=_;rfl
def mP (i:Nat):List Bool:=(List.range i).map fun (t:Nat)=>decide ((t:Int)=0)
theorem tO (i:Nat):(mP i).length=i:=by simp [mP]
theorem aHA (i:Nat):mP (i+1)=mP i++[decide ((i:Int)=0)]:=by
 unfold mP;rw [List.range_succ,List.map_append];rfl
def wM (s:List Bool)(e:Ed):List Bool:=if (dD s e.a.toNat || dD s e.b.toNat)=true then (s.set e.a.toNat true).set e.b.toNat true else s
def m0 (m:List Ed)(s:List Bool):Nat→List Bool
 |0=>s
 |i+1=>wM (m0 m s i) (cH m i)
def dR (l:List Pt)(m:List Ed):Nat→List Bool
 |0=>mP l.length
 |i+1=>m0 m (dR l m i) m.length
def NR (l:List Pt)(m:List Ed):Bool:=(dR l m l.length).all id
theorem aD2 (s:List Bool)(e:Ed):(wM s e).length=s.length:=by
 unfold wM;split <;> simp
theorem uC (m:List Ed)(s:List Bool):∀ i,(m0 m s i).length=s.length
 |0=>rfl
 |i+1=>by unfold m0;rw [aD2];exact uC m s i
theorem yQ (l:List Pt)(m:List Ed):∀ i,(dR l m i).length=l.length
 |0=>tO _
 |i+1=>by unfold dR;rw [uC];exact yQ l m i
theorem R3 {s:List Bool}{a b o1 o2:Nat}(h1:o1=a*1)(h2:o2=b*1)(ha:a<s.length)(hb:b<s.length):cN (cN (flat gI.fl s) o1 [.bool true]) o2 [.bool true]=flat gI.fl ((s.set a true).set b true):=by
 rw [h1,h2,AR _ _ _ ha,AR _ _ _ (by rw [List.length_set];exact hb)]
theorem eZ {x N:Nat}{p:Prop}(h:x.ble N=false)(hx:x≤N):p:=by
 rw [Nat.ble_eq_true_of_le hx] at h;cases h
def coS (l:List Pt)(m:List Ed)(n:Int):List Value→Option (Bool × Value)
 |[]=>some (pU l m&&decide (1≤l.length),.bool (NR l m))
 |_=>none
theorem aE5 {l:List Pt}{m:List Ed}{n:Int}{r:List Value}{v:Value}(h:coS l m n r=some (true,v)):r=[]∧pU l m=true∧1≤l.length∧v=.bool (NR l m):=by
 unfold coS at h;split at h
 ·injection h with h;injection h with h1 h2;simp only [Bool.and_eq_true,decide_eq_true_eq] at h1;exact⟨rfl,h1.1,h1.2,h2.symm⟩
 ·cases h
def cJ (l:List Pt)(m:List Ed)(c1 c2:Nat)(n:Int):Heap:=(2,aX l.length m.length c1 c2 n)::aB aT aW l m
def bO (l:List Pt)(m:List Ed)(c1 c2:Nat)(n:Int)(s:List Bool):Heap:=(3,.cells true false 1 (flat gI.fl s))::cJ l m c1 c2 n
def I3 (s:Value)(j:Int):List (Nat × Value):=[(1,.pointer (some ⟨2,0,none⟩)),(3,s),(4,iv j)]
def sC (N:Nat)(j:Int):List (Nat × Value):=[(1,.pointer (some ⟨2,0,none⟩)),(3,.slice (some ⟨3,0,none⟩) N N),(5,iv j)]
def wZ (N:Nat)(j k:Int):List (Nat × Value):=(6,iv k)::sC N j
def KY (N:Nat)(j:Int):List (Nat × Value):=[(3,.slice (some ⟨3,0,none⟩) N N),(8,iv j)]
def aBb:Nat × XF:=(157,mX aT aW coS)
theorem aJi:cT Go.Proofs.Tryz.prog aBb.1 aBb.2:=uG aT aW (aL (xl:=[]) .nil) fun l m n r v hs=>by
 obtain⟨rfl,hM,h1l,rfl⟩:=aE5 hs;clear hs;refine⟨rfl,rfl,fun c1 c2=>?_⟩;have hm:m.length≤1000:=(by simp only [pU,Bool.and_eq_true,decide_eq_true_eq] at hM;exact hM.1.2);have hl:l.length≤1000:=(by simp only [pU,Bool.and_eq_true,decide_eq_true_eq] at hM;exact hM.2);(conv=>whnf)
 refine⟨fun q e h nx=>∃ (i:Nat) (j:Int),j=i∧i≤l.length∧q=l.length - i ∧
  ((i=0∧e=I3 (.slice none 0 0) j∧h=cJ l m c1 c2 n∧nx=3)∨(0<i∧e=I3 (.slice (some ⟨3,0,none⟩) i i) j∧h=bO l m c1 c2 n (mP i)∧nx=4)),⟨l.length,?_⟩,?_⟩
 ·refine aO (e0:=I3 (.slice none 0 0) 0) (h0:=cJ l m c1 c2 n) (n0:=3) ⟨0,0,rfl,Nat.zero_le _,rfl,.inl ⟨rfl,rfl,rfl,rfl⟩⟩ ?_ ?_ (by decide)
  ·unfold I3;((repeat' refine iE rfl rfl ?_);exact iN)
  unfold cJ aX aB;((repeat'(first|refine iF rfl rfl ?_|refine iC rfl rfl rfl ?_|refine iJ rfl rfl rfl rfl ?_));exact iN)
 rintro q e h nx ⟨i,j,hj,hi,rfl,⟨hi0,rfl,rfl,rfl⟩|⟨hip,rfl,rfl,rfl⟩⟩
 ·subst hi0;unfold I3 cJ aX aB;((conv=>whnf);apply bm<;>intro h2)
  ·((conv=>whnf);apply bm<;>intro h3)
   ·(conv=>whnf);refine⟨l.length - 1,by omega,?_⟩;refine gN (e0:=I3 (.slice (some ⟨3,0,none⟩) 1 1) (j+1)) (h0:=bO l m c1 c2 n [decide (j=0)]) (n0:=4) 3 4 (by decide) (by decide) ⟨1,j+1,by omega,by omega,rfl,.inr ⟨Nat.one_pos,rfl,by rw [hj];rfl,rfl⟩⟩ ?_ ?_ ?_
    ·unfold I3;((repeat' refine iE rfl rfl ?_);exact iN)
    ·unfold bO cJ aX aB;((repeat'(first|refine iF rfl rfl ?_|refine iC rfl rfl rfl ?_|refine iJ rfl rfl rfl rfl ?_));exact iN)
    unfold bO cJ aB;((repeat' refine iK rfl ?_);exact iN)
   exfalso;simp [aA,aC,aF] at h3;omega
  exfalso;simp [aA,aC] at h2;omega
 unfold I3 bO cJ aX aB;((conv=>whnf);apply bm<;>intro h2)
 ·have hlt:i<l.length:=(by simp [aA,aC] at h2;omega);have hll:(flat gI.fl (mP i)).length=i:=(by rw [a7,tO];exact Nat.mul_one _);((conv=>whnf);apply bm<;>intro h3)
  ·exfalso;have:=Nat.le_of_ble_eq_true h3;omega
  ((conv=>whnf);apply bm<;>intro h4);rotate_left
  ·exact jA (s:=1) (by omega) (by omega) h4
  ((conv=>whnf);apply bm<;>intro h5)
  ·(conv=>whnf);refine⟨l.length - (i+1),by omega,?_⟩
   refine gN (e0:=I3 (.slice (some ⟨3,0,none⟩) (i+1) (i+1)) (j+1)) (h0:=bO l m c1 c2 n (mP i++[decide (j=0)])) (n0:=4) 3 5 (by decide) (by decide)
    ⟨i+1,j+1,by omega,by omega,rfl,.inr ⟨Nat.succ_pos _,rfl,by rw [aHA,hj];rfl,rfl⟩⟩ ?_ ?_ ?_
   ·unfold I3;((repeat' refine iE rfl rfl ?_);exact iN)
   ·unfold bO cJ aX aB;((repeat'(first|refine iW rfl rfl (aU (aH gI _) (cL gI (mP i) (decide (j=0)) (tO i).symm)) ?_|refine iF rfl rfl ?_|refine iC rfl rfl rfl ?_|refine iJ rfl rfl rfl rfl ?_));exact iN)
   unfold bO cJ aB;((repeat' refine iK rfl ?_);exact iN)
  exfalso;simp [aA,aC,aF] at h5;omega
 have hge:i=l.length:=(by simp [aA,aC] at h2;omega);subst hge;clear hj hi hip h2;(conv=>whnf);refine⟨fun q e h nx=>∃ (i:Nat) (j:Int),j=i∧i≤l.length∧q=l.length - i∧e=sC l.length j∧h=bO l m c1 c2 n (dR l m i)∧nx=4,⟨l.length,?_⟩,?_⟩
 ·refine aO (e0:=sC l.length 0) (h0:=bO l m c1 c2 n (mP l.length)) (n0:=4) ⟨0,0,rfl,Nat.zero_le _,rfl,rfl,rfl,rfl⟩ ?_ ?_ (by decide)
  ·unfold sC;((repeat' refine iE rfl rfl ?_);exact iN)
  unfold bO cJ aX aB;((repeat'(first|refine iF rfl rfl ?_|refine iC rfl rfl rfl ?_|refine iJ rfl rfl rfl rfl ?_));exact iN)
 rintro q e h nx ⟨i,j,hj,hi,rfl,rfl,rfl,rfl⟩;have cl:=yQ l m i;unfold sC bO cJ aX aB;((conv=>whnf);apply bm<;>intro h2);rotate_left
 ·have hge:i=l.length:=(by simp [aA,aC] at h2;omega);have hcon:NR l m=(dR l m i).all id:=(by rw [hge];rfl);generalize dR l m i=s at cl hcon;rw [hcon];clear hcon;(conv=>whnf);refine⟨fun q e h nx=>∃ (t:Nat) (z:Int),z=t∧t≤l.length∧q=l.length - t∧s.all id=(s.drop t).all id∧e=KY l.length z∧h=bO l m c1 c2 n s∧nx=4,⟨l.length,?_⟩,?_⟩
  ·refine aO (e0:=KY l.length 0) (h0:=bO l m c1 c2 n s) (n0:=4) ⟨0,0,rfl,Nat.zero_le _,rfl,rfl,rfl,rfl,rfl⟩ ?_ ?_ (by decide)
   ·unfold KY;((repeat' refine iE rfl rfl ?_);exact iN)
   unfold bO cJ aX aB;((repeat'(first|refine iF rfl rfl ?_|refine iC rfl rfl rfl ?_|refine iJ rfl rfl rfl rfl ?_));exact iN)
  rintro q e h nx ⟨t,z,hz,ht,rfl,hall,rfl,rfl,rfl⟩;unfold KY bO cJ aX aB;((conv=>whnf);apply bm<;>intro h3)
  ·have htl:t<l.length:=(by simp [aA,aC] at h3;omega);have hd:s.drop t=dD s t::s.drop (t+1):=(by rw [rX (by omega)];exact List.drop_eq_getElem_cons (by omega));rw [hd,List.all_cons] at hall;((conv=>whnf);apply bm<;>intro h4)
   ·(conv=>whnf);refine eC (PJ s (i:=t) (by omega) ?_) ?_
    ·show _+Int.toNat z*1=_;omega
    ((conv=>whnf);apply bm<;>intro h5)
    ·have h5:dD s t=false:=(by simpa [aA,aC] using h5);(conv=>whnf);rw [hall,h5];rfl
    have h5:dD s t=true:=(by simpa [aA,aC] using h5);((conv=>whnf);apply bm<;>intro h6)
    ·(conv=>whnf);refine⟨l.length - (t+1),by omega,?_⟩;refine aO (e0:=KY l.length (z+1)) (h0:=bO l m c1 c2 n s) (n0:=4) ⟨t+1,z+1,by omega,by omega,rfl,by rw [hall,h5];rfl,rfl,rfl,rfl⟩ ?_ ?_ (by decide)
     ·unfold KY;((repeat' refine iE rfl rfl ?_);exact iN)
     unfold bO cJ aX aB;((repeat'(first|refine iF rfl rfl ?_|refine iC rfl rfl rfl ?_|refine iJ rfl rfl rfl rfl ?_));exact iN)
    exfalso;simp [aA,aC,aF] at h6;omega
   exfalso;simp [aA,aC] at h4;omega
  have hgt:t=l.length:=(by simp [aA,aC] at h3;omega);(conv=>whnf);rw [hall,hgt,List.drop_eq_nil_of_le (by omega)];rfl
 have hlt:i<l.length:=(by simp [aA,aC] at h2;omega);(conv=>whnf);refine⟨fun q e h nx=>∃ (t:Nat) (z:Int),z=t∧t≤m.length∧q=m.length - t∧e=wZ l.length j z∧h=bO l m c1 c2 n (m0 m (dR l m i) t)∧nx=4,⟨m.length,?_⟩,?_⟩
 ·refine aO (e0:=wZ l.length j 0) (h0:=bO l m c1 c2 n (dR l m i)) (n0:=4) ⟨0,0,rfl,Nat.zero_le _,rfl,rfl,rfl,rfl⟩ ?_ ?_ (by decide)
  ·unfold wZ sC;((repeat' refine iE rfl rfl ?_);exact iN)
  unfold bO cJ aX aB;((repeat'(first|refine iF rfl rfl ?_|refine iC rfl rfl rfl ?_|refine iJ rfl rfl rfl rfl ?_));exact iN)
 rintro q e h nx ⟨t,z,hz,ht,rfl,rfl,rfl,rfl⟩;have rl:=uC m (dR l m i) t;rw [cl] at rl;have nxt:m0 m (dR l m i) (t+1)=wM (m0 m (dR l m i) t) (cH m t):=rfl;generalize hs0:m0 m (dR l m i) t=s at rl nxt;unfold wZ sC bO cJ aX aB;((conv=>whnf);apply bm<;>intro h3);rotate_left
 ·have hge:t=m.length:=(by simp [aA,aC] at h3;omega);have hcn:dR l m (i+1)=s:=by
   show m0 m (dR l m i) m.length=s;rw [← hge];exact hs0
  ((conv=>whnf);apply bm<;>intro h4)
  ·(conv=>whnf);refine⟨l.length - (i+1),by omega,?_⟩;refine aO (e0:=sC l.length (j+1)) (h0:=bO l m c1 c2 n s) (n0:=4) ⟨i+1,j+1,by omega,by omega,rfl,rfl,by rw [hcn];rfl,rfl⟩ ?_ ?_ (by decide)
   ·unfold sC;((repeat' refine iE rfl rfl ?_);exact iN)
   unfold bO cJ aX aB;((repeat'(first|refine iF rfl rfl ?_|refine iC rfl rfl rfl ?_|refine iJ rfl rfl rfl rfl ?_));exact iN)
  exfalso;simp [aA,aC,aF] at h4;omega
 have htl:t<m.length:=(by simp [aA,aC] at h3;omega);have he:=rS hM htl;have hsl:(flat gI.fl s).length=l.length:=(by rw [a7,rl];exact Nat.mul_one _);((conv=>whnf);apply bm<;>intro h4);rotate_left
 ·exfalso;simp [aA,aC] at h4;omega
 (conv=>whnf);refine nN (A2 m (i:=t) htl ?_) ?_
 ·show _+Int.toNat z*5=_;omega
 generalize cH m t=ed at he nxt;((conv=>whnf);apply bm<;>intro h5);rotate_left
 ·exfalso;simp [aA,aC] at h5;omega
 (conv=>whnf);refine eC (PJ s (i:=ed.a.toNat) (by omega) ?_) ?_
 ·show _+Int.toNat ed.a*1=_;omega
 have fin:∀ s',wM s ed=s'→m0 m (dR l m i) (t+1)=s':=fun s' h=>(by rw [nxt,h]);((conv=>whnf);apply bm<;>intro g1);rotate_left
 ·have g1:dD s ed.a.toNat=true:=(by simpa [aA,aC] using g1);have hrel:wM s ed=(s.set ed.a.toNat true).set ed.b.toNat true:=(by unfold wM;rw [g1];rfl);((conv=>whnf);apply bm<;>intro k1)
  ·((conv=>whnf);apply bm<;>intro k2)
   ·((conv=>whnf);apply bm<;>intro k3)
    ·((conv=>whnf);apply bm<;>intro k4)
     ·((conv=>whnf);apply bm<;>intro k5)
      ·(conv=>whnf);refine⟨m.length - (t+1),by omega,?_⟩;refine aO (e0:=wZ l.length j (z+1)) (h0:=bO l m c1 c2 n ((s.set ed.a.toNat true).set ed.b.toNat true)) (n0:=4) ⟨t+1,z+1,by omega,by omega,rfl,rfl,by rw [fin _ hrel];rfl,rfl⟩ ?_ ?_ (by decide)
       ·unfold wZ sC;((repeat' refine iE rfl rfl ?_);exact iN)
       unfold bO cJ aX aB;have bZ:=R3 (s:=s) (a:=ed.a.toNat) (b:=ed.b.toNat) (o1:=0+ed.a.toNat*1) (o2:=0+ed.b.toNat*1) (by omega) (by omega) (by omega) (by omega);((repeat'(first|refine iW rfl rfl (aU (aH gI _) bZ) ?_|refine iF rfl rfl ?_|refine iC rfl rfl rfl ?_|refine iJ rfl rfl rfl rfl ?_));exact iN)
      exfalso;simp [aA,aC,aF] at k5;omega
     have hpl:(cN (flat gI.fl s) (0+ed.a.toNat*1) [.bool true]).length=l.length:=(by rw [dN (by rw [hsl];show 0+ed.a.toNat*1+1≤l.length;omega)];exact hsl);have k4:(0+ed.b.toNat*1+1).ble (cN (flat gI.fl s) (0+ed.a.toNat*1) [.bool true]).length=false:=k4;rw [hpl] at k4;exact eZ k4 (by omega)
    exfalso;simp [aA,aC] at k3;omega
   rw [hsl] at k2;exact eZ k2 (by show 0+ed.a.toNat*1+1≤l.length;omega)
  exfalso;simp [aA,aC] at k1;omega
 have g1:dD s ed.a.toNat=false:=(by simpa [aA,aC] using g1);((conv=>whnf);apply bm<;>intro g2);rotate_left
 ·exfalso;simp [aA,aC] at g2;omega
 (conv=>whnf);refine eC (PJ s (i:=ed.b.toNat) (by omega) ?_) ?_
 ·show _+Int.toNat ed.b*1=_;omega
 ((conv=>whnf);apply bm<;>intro g3);rotate_left
 ·have g3:dD s ed.b.toNat=false:=g3;have hrel:wM s ed=s:=(by unfold wM;rw [g1,g3];rfl);((conv=>whnf);apply bm<;>intro k5)
  ·(conv=>whnf);refine⟨m.length - (t+1),by omega,?_⟩;refine aO (e0:=wZ l.length j (z+1)) (h0:=bO l m c1 c2 n s) (n0:=4) ⟨t+1,z+1,by omega,by omega,rfl,rfl,by rw [fin _ hrel];rfl,rfl⟩ ?_ ?_ (by decide)
   ·unfold wZ sC;((repeat' refine iE rfl rfl ?_);exact iN)
   unfold bO cJ aX aB;((repeat'(first|refine iF rfl rfl ?_|refine iC rfl rfl rfl ?_|refine iJ rfl rfl rfl rfl ?_));exact iN)
  exfalso;simp [aA,aC,aF] at k5;omega
 have g3:dD s ed.b.toNat=true:=g3;have hrel:wM s ed=(s.set ed.a.toNat true).set ed.b.toNat true:=(by unfold wM;rw [g1,g3];rfl);((conv=>whnf);apply bm<;>intro k1);rotate_left
 ·exfalso;simp [aA,aC] at k1;omega
 ((conv=>whnf);apply bm<;>intro k2);rotate_left
 ·rw [hsl] at k2;exact eZ k2 (by show 0+ed.a.toNat*1+1≤l.length;omega)
 ((conv=>whnf);apply bm<;>intro k3)
 ·((conv=>whnf);apply bm<;>intro k4)
  ·((conv=>whnf);apply bm<;>intro k5)
   ·(conv=>whnf);refine⟨m.length - (t+1),by omega,?_⟩;refine aO (e0:=wZ l.length j (z+1)) (h0:=bO l m c1 c2 n ((s.set ed.a.toNat true).set ed.b.toNat true)) (n0:=4) ⟨t+1,z+1,by omega,by omega,rfl,rfl,by rw [fin _ hrel];rfl,rfl⟩ ?_ ?_ (by decide)
    ·unfold wZ sC;((repeat' refine iE rfl rfl ?_);exact iN)
    unfold bO cJ aX aB;have bZ:=R3 (s:=s) (a:=ed.a.toNat) (b:=ed.b.toNat) (o1:=0+ed.a.toNat*1) (o2:=0+ed.b.toNat*1) (by omega) (by omega) (by omega) (by omega);((repeat'(first|refine iW rfl rfl (aU (aH gI _) bZ) ?_|refine iF rfl rfl ?_|refine iC rfl rfl rfl ?_|refine iJ rfl rfl rfl rfl ?_));exact iN)
   exfalso;simp [aA,aC,aF] at k5;omega
  have hpl:(cN (flat gI.fl s) (0+ed.a.toNat*1) [.bool true]).length=l.length:=(by rw [dN (by rw [hsl];show 0+ed.a.toNat*1+1≤l.length;omega)];exact hsl);have k4:(0+ed.b.toNat*1+1).ble (cN (flat gI.fl s) (0+ed.a.toNat*1) [.bool true]).length=false:=k4;rw [hpl] at k4;exact eZ k4 (by omega)
 exfalso;simp [aA,aC] at k3;omega
end Go.Aw
end
