/-
  Parts of the proof, put together. No condition.
-/
import Derived.Test.YtjahkcbdecgbhaaGreatQAw
set_option linter.unusedSimpArgs false
set_option linter.unusedVariables false
noncomputable section
namespace Go.Aw
set_option maxRecDepth 100000
theorem CR (l:List Int):∀ (i:Nat) (v:Int),i<l.length→dJ (flat aP.fl l) (i*1) [iv v]=flat aP.fl (l.set i v):=by
 induction l with
 |nil=>intro i v h;cases h
 |cons a r ih =>
  intro i v h;cases i with
  |zero=>rfl
  |succ i =>
   have:=ih i v (by simpa using h);simp only [List.set_cons_succ,flat,← this];have e:(i+1)*1=i*1+1:=(by omega);rw [e];unfold dJ;show List.take (i*1+1) (iv a::flat aP.fl r)++_++List.drop (i*1+1+1) (iv a::flat aP.fl r)=_;rfl
theorem pD {of w:List Int}{c:Int}{t o:Nat}(ho:o=(aN w t).toNat*1)(hi:(aN w t).toNat<of.length):dJ (flat aP.fl (dM of w c t)) o [iv c]=flat aP.fl (dM of w c (t+1)):=by
 rw [ho,CR _ _ _ (by rw [eV];exact hi)];rfl
def fcS (l:List Pt)(m:List Ed)(n:Int):List Value→YS Int
 |[]=>some (mF l m&&decide (1≤m.length),(dZ l m).of,[iv (dZ l m).faces,.bool (KV (dZ l m))])
 |_=>none
theorem aBW {l:List Pt}{m:List Ed}{n:Int}{r:List Value}{out:List Int}{rest:List Value}(h:fcS l m n r=some (true,out,rest)):r=[]∧mF l m=true∧1≤m.length∧out=(dZ l m).of∧rest=[iv (dZ l m).faces,.bool (KV (dZ l m))]:=by
 unfold fcS at h;split at h
 ·injection h with h;injection h with h1 h2;injection h2 with h2 h3;simp only [Bool.and_eq_true,decide_eq_true_eq] at h1;exact⟨rfl,h1.1,h1.2,h2.symm,h3.symm⟩
 ·cases h
def XD (m:List Ed):List Bool:=List.replicate (2*m.length) true
theorem aD3 (m:List Ed):(XD m).length=2*m.length:=List.length_replicate
def fG (l:List Pt)(m:List Ed)(c1 c2:Nat)(n:Int)(s:Value)(F:Int)(K:Bool):Heap:=(5,.cells true false 1 [s,iv F,.bool K])::(4,.cells true false 1 (flat fO.fl (XD m)))::(3,.cells true false 1 [.slice none 0 0,iv 0,.bool false])::(2,aX l.length m.length c1 c2 n)::aB aR aU l m
def JT (m:List Ed)(j:Int):List (Nat × Value):=[(1,.pointer (some ⟨2,0,none⟩)),(2,.pointer (some ⟨3,0,none⟩)),(3,.slice (some ⟨4,0,none⟩) (XD m).length (XD m).length),(4,.pointer (some ⟨5,0,none⟩)),(5,iv j)]
def jD (m:List Ed)(O j:Int):List (Nat × Value):=[(1,.pointer (some ⟨2,0,none⟩)),(2,.pointer (some ⟨3,0,none⟩)),(3,.slice (some ⟨4,0,none⟩) (XD m).length (XD m).length),(4,.pointer (some ⟨5,0,none⟩)),(6,iv O),(7,iv j)]
def kI (m:List Ed)(w:List Int)(O j c i:Int):List (Nat × Value):=(8,.slice (some ⟨7,0,none⟩) w.length w.length)::(10,iv c)::(11,iv i)::jD m O j
def ZX:Nat × XF:=(158,mYX aR aU aP fcS)
theorem aHu:cE Go.Proofs.Tryz.prog ZX.1 ZX.2:=QF aR aU aP (aK (xl:=[ZP,SH,X90]) (.cons aGE (.cons aDR (.cons x90 .nil)))) fun l m n r out rest hs=>by
 obtain⟨rfl,hM,h1m,rfl,rfl⟩:=aBW hs;clear hs;refine⟨rfl,rfl,fun c1 c2=>?_⟩;have hm:m.length≤1000:=(by simp only [mF,Bool.and_eq_true,decide_eq_true_eq] at hM;exact hM.1.2);(conv=>whnf);refine⟨_,_,_,[],l,m,rfl,aG aR rfl,aG aU rfl,?_⟩;((conv=>whnf);refine bm (fun h1=>?_) (fun h1=>?_))
 ·(conv=>whnf)
  refine⟨fun q e h nx=>∃ (i:Nat) (j:Int),j=i∧i≤2*m.length∧q=2*m.length - i∧e=JT m j ∧
   ((i=0∧h=fG l m c1 c2 n (.slice none 0 0) 0 true∧nx=6)∨(0<i∧h=(6,.cells true false 1 (flat aP.fl (List.replicate i (-1))))::fG l m c1 c2 n (.slice (some ⟨6,0,none⟩) i i) 0 true∧nx=7)),⟨2*m.length,?_⟩,?_⟩
  ·refine aL (e0:=JT m 0) (h0:=fG l m c1 c2 n (.slice none 0 0) 0 true) (n0:=6) ⟨0,0,rfl,Nat.zero_le _,rfl,rfl,.inl ⟨rfl,rfl,rfl⟩⟩ ?_ ?_ (by decide)
   ·unfold JT;((repeat' refine iE rfl rfl ?_);exact iN)
   ·unfold fG aX aB;((repeat'(first|refine iF rfl rfl ?_|refine iC rfl rfl rfl ?_|refine iJ rfl rfl rfl rfl ?_));exact iN)
  ·rintro q e h nx ⟨i,j,hj,hi,rfl,rfl,⟨hi0,rfl,rfl⟩|⟨hip,rfl,rfl⟩⟩
   ·subst hi0;unfold JT fG aX aB;((conv=>whnf);refine bm (fun h2=>?_) (fun h2=>?_))
    ·((conv=>whnf);refine bm (fun h3=>?_) (fun h3=>?_))
     ·((conv=>whnf);refine bm (fun h4=>?_) (fun h4=>?_))
      ·(conv=>whnf);refine⟨2*m.length - 1,by omega,?_⟩;refine iU (e0:=JT m (j+1)) (h0:=(6,.cells true false 1 (flat aP.fl [-1]))::fG l m c1 c2 n (.slice (some ⟨6,0,none⟩) 1 1) 0 true) (n0:=7) 6 7 (by decide) (by decide) ⟨1,j+1,by omega,by omega,rfl,rfl,.inr ⟨Nat.one_pos,rfl,rfl⟩⟩ ?_ ?_ ?_
       ·unfold JT;((repeat' refine iE rfl rfl ?_);exact iN)
       ·unfold fG aX aB;((repeat'(first|refine iF rfl rfl ?_|refine iC rfl rfl rfl ?_|refine iJ rfl rfl rfl rfl ?_));exact iN)
       ·unfold fG aB;((repeat' refine iK rfl ?_);exact iN)
      ·exfalso;simp [aA,aC,aH] at h4;omega
     ·exfalso;simp [aA,aC] at h3;omega
    ·exfalso;simp [aA,aC,aH] at h2;omega
   ·unfold JT fG aX aB;((conv=>whnf);refine bm (fun h2=>?_) (fun h2=>?_))
    ·((conv=>whnf);refine bm (fun h3=>?_) (fun h3=>?_))
     ·have hlt:i<2*m.length:=(by simp [aA,aC] at h3;omega);have hll:(flat aP.fl (List.replicate i (-1))).length=i:=(by rw [bD,List.length_replicate];exact Nat.mul_one _);((conv=>whnf);refine bm (fun h4=>?_) (fun h4=>?_))
      ·exfalso;have:=Nat.le_of_ble_eq_true h4;omega
      ·((conv=>whnf);refine bm (fun h5=>?_) (fun h5=>?_))
       ·((conv=>whnf);refine bm (fun h6=>?_) (fun h6=>?_))
        ·(conv=>whnf);refine⟨2*m.length - (i+1),by omega,?_⟩
         refine iU (e0:=JT m (j+1)) (h0:=(6,.cells true false 1 (flat aP.fl (List.replicate i (-1)++[-1])))::fG l m c1 c2 n (.slice (some ⟨6,0,none⟩) (i+1) (i+1)) 0 true) (n0:=7) 6 8 (by decide) (by decide)
          ⟨i+1,j+1,by omega,by omega,rfl,rfl,.inr ⟨Nat.succ_pos _,by rw [List.replicate_succ'];rfl,rfl⟩⟩ ?_ ?_ ?_
         ·unfold JT;((repeat' refine iE rfl rfl ?_);exact iN)
         ·unfold fG aX aB;((repeat'(first|refine iW rfl rfl (bG (aI aP _) (gV aP (List.replicate i (-1)) (-1) (by rw [List.length_replicate]))) ?_|refine iF rfl rfl ?_|refine iC rfl rfl rfl ?_|refine iJ rfl rfl rfl rfl ?_));exact iN)
         ·unfold fG aB;((repeat' refine iK rfl ?_);exact iN)
        ·exfalso;simp [aA,aC,aH] at h6;omega
       ·exact sJ (s:=1) (by omega) (by omega) h5
     ·have hge:i=2*m.length:=(by simp [aA,aC] at h3;omega);subst hge;(conv=>whnf)
      refine⟨fun q e h nx=>∃ (i:Nat) (j:Int),j=i∧i≤2*m.length∧q=2*m.length - i∧e=jD m (jM l m i).outside j ∧
       h=(6,.cells true false 1 (flat aP.fl (jM l m i).of))::fG l m c1 c2 n (.slice (some ⟨6,0,none⟩) (2*m.length) (2*m.length)) (jM l m i).faces (jM l m i).ok∧nx=7,⟨2*m.length,?_⟩,?_⟩
      ·refine aL (e0:=jD m 0 0) (h0:=(6,.cells true false 1 (flat aP.fl (List.replicate (2*m.length) (-1))))::fG l m c1 c2 n (.slice (some ⟨6,0,none⟩) (2*m.length) (2*m.length)) 0 true) (n0:=7) ⟨0,0,rfl,Nat.zero_le _,rfl,rfl,rfl,rfl⟩ ?_ ?_ (by decide)
       ·unfold jD;((repeat' refine iE rfl rfl ?_);exact iN)
       ·unfold fG aX aB;((repeat'(first|refine iF rfl rfl ?_|refine iC rfl rfl rfl ?_|refine iJ rfl rfl rfl rfl ?_));exact iN)
      ·clear h2 h3 hj hi hip h1;rintro q e h nx ⟨i,j,hj,hi,rfl,rfl,rfl,rfl⟩;have low:=IP l m i;have len:=uF l m i;have nxt:jM l m (i+1)=oQ l m (jM l m i) i:=rfl;generalize hst:jM l m i=st at low len nxt;unfold jD fG aX aB;((conv=>whnf);refine bm (fun h2=>?_) (fun h2=>?_))
       ·((conv=>whnf);refine bm (fun h3=>?_) (fun h3=>?_))
        ·have hlt:i<2*m.length:=(by simp [aA,aC] at h3;omega);have hdj:kM m j=true:=(by simp only [kM,Bool.and_eq_true,decide_eq_true_eq];omega);((conv=>whnf);refine bm (fun h4=>?_) (fun h4=>?_))
         ·(conv=>whnf);refine iL (fP st.of (i:=i) (by omega) ?_) ?_
          ·show _+Int.toNat j*1=_;omega
          ((conv=>whnf);refine bm (fun h5=>?_) (fun h5=>?_))
          ·have h5:0≤aN st.of i:=(by simpa [aA,aC] using h5);((conv=>whnf);refine bm (fun h6=>?_) (fun h6=>?_))
           ·(conv=>whnf);refine⟨2*m.length - (i+1),by omega,?_⟩;refine aL (e0:=jD m st.outside (j+1)) (h0:=(6,.cells true false 1 (flat aP.fl st.of))::fG l m c1 c2 n (.slice (some ⟨6,0,none⟩) (2*m.length) (2*m.length)) st.faces st.ok) (n0:=7) ⟨i+1,j+1,by omega,by omega,rfl,?_,?_,rfl⟩ ?_ ?_ (by decide)
            ·rw [nxt];unfold oQ;rw [if_pos h5];rfl
            ·rw [nxt];unfold oQ;rw [if_pos h5];rfl
            ·unfold jD;((repeat' refine iE rfl rfl ?_);exact iN)
            ·unfold fG aX aB;((repeat'(first|refine iF rfl rfl ?_|refine iC rfl rfl rfl ?_|refine iJ rfl rfl rfl rfl ?_));exact iN)
           ·exfalso;simp [aA,aC,aH] at h6;omega
          ·have h5:¬ 0≤aN st.of i:=(by simpa [aA,aC] using h5);(conv=>whnf);refine⟨_,_,_,[iv j],_,l,m,XD m,rfl,aG aR rfl,aG aU rfl,aG fO rfl,?_⟩;((conv=>whnf);refine bm (fun h6=>?_) (fun h6=>?_))
           ·obtain⟨w,hw⟩:∃ w,w=jI l m (XD m) j:=⟨_,rfl⟩;have hwl:=O8 l m (XD m) j;have hwp:=PV l m (XD m) j;have hwi:=VT (l:=l) (k:=XD m) hm hdj;rw [← hw] at hwl hwp hwi;have hj':jI l m (List.replicate (2*m.length) true) i=w:=(by rw [hw,hj];rfl);rw [← hw];(conv=>whnf);refine⟨_,_,_,[],_,l,m,w,rfl,aG aR rfl,aG aU rfl,aG aP rfl,?_⟩;((conv=>whnf);refine bm (fun h7=>?_) (fun h7=>?_))
            ·obtain⟨a,ha⟩:∃ a,a=lK l m w w.length:=⟨_,rfl⟩;rw [← ha];have hstep:oQ l m st i=⟨dM st.of w (if 0<a then st.faces+1 else 0) w.length,if 0<a then st.faces+1 else st.faces,if a<0 then st.outside+1 else st.outside,if a=0 then false else st.ok⟩:=by
              unfold oQ;rw [if_neg h5];simp only [hj',← ha]
             ((conv=>whnf);refine bm (fun g1=>?_) (fun g1=>?_))
             ·have g1:0<a:=(by simpa [aA,aC] using g1);rw [if_pos g1,if_pos g1,if_neg (by omega),if_neg (by omega)] at hstep;((conv=>whnf);refine bm (fun g2=>?_) (fun g2=>?_))
              ·((conv=>whnf);refine bm (fun g3=>?_) (fun g3=>?_))
               ·exfalso;have:a<0:=(by simpa [aA,aC] using g3);omega
               ·((conv=>whnf);refine bm (fun g4=>?_) (fun g4=>?_))
                ·exfalso;have:a=0:=(by simpa [aA,aC] using g4);omega
                ·(conv=>whnf)
                 refine⟨fun q e h nx=>∃ (t:Nat) (z:Int),z=t∧t≤w.length∧q=w.length - t∧e=kI m w (st.outside) j (st.faces+1) z ∧
                  h=(7,.cells true false 1 (flat aP.fl w))::(6,.cells true false 1 (flat aP.fl (dM st.of w (st.faces+1) t)))::fG l m c1 c2 n (.slice (some ⟨6,0,none⟩) (2*m.length) (2*m.length)) (st.faces+1) (st.ok)∧nx=8,⟨w.length,?_⟩,?_⟩
                 ·refine aL (e0:=kI m w (st.outside) j (st.faces+1) 0) (h0:=(7,.cells true false 1 (flat aP.fl w))::(6,.cells true false 1 (flat aP.fl st.of))::fG l m c1 c2 n (.slice (some ⟨6,0,none⟩) (2*m.length) (2*m.length)) (st.faces+1) (st.ok)) (n0:=8) ⟨0,0,rfl,Nat.zero_le _,rfl,rfl,rfl,rfl⟩ ?_ ?_ (by decide)
                  ·unfold kI jD;((repeat' refine iE rfl rfl ?_);exact iN)
                  ·unfold fG aX aB;((repeat'(first|refine iF rfl rfl ?_|refine iC rfl rfl rfl ?_|refine iJ rfl rfl rfl rfl ?_));exact iN)
                 ·rintro q e h nx ⟨t,z,hz,ht,rfl,rfl,rfl,rfl⟩;have sl:=eV st.of w (st.faces+1) t;unfold kI jD fG aX aB;((conv=>whnf);refine bm (fun k1=>?_) (fun k1=>?_))
                  ·have htl:t<w.length:=(by simp [aA,aC] at k1;omega);have hdt:=pY hwi htl;simp only [kM,Bool.and_eq_true,decide_eq_true_eq] at hdt;((conv=>whnf);refine bm (fun k2=>?_) (fun k2=>?_))
                   ·(conv=>whnf);refine iL (fP w (i:=t) htl ?_) ?_
                    ·show _+Int.toNat z*1=_;omega
                    ((conv=>whnf);refine bm (fun k3=>?_) (fun k3=>?_))
                    ·((conv=>whnf);refine bm (fun k4=>?_) (fun k4=>?_))
                     ·((conv=>whnf);refine bm (fun k5=>?_) (fun k5=>?_))
                      ·(conv=>whnf);refine⟨w.length - (t+1),by omega,?_⟩;refine aL (e0:=kI m w (st.outside) j (st.faces+1) (z+1)) (h0:=(7,.cells true false 1 (flat aP.fl w))::(6,.cells true false 1 (flat aP.fl (dM st.of w (st.faces+1) (t+1))))::fG l m c1 c2 n (.slice (some ⟨6,0,none⟩) (2*m.length) (2*m.length)) (st.faces+1) (st.ok)) (n0:=8) ⟨t+1,z+1,by omega,by omega,rfl,rfl,rfl,rfl⟩ ?_ ?_ (by decide)
                       ·unfold kI jD;((repeat' refine iE rfl rfl ?_);exact iN)
                       ·unfold fG aX aB;have bM:=pD (of:=st.of) (w:=w) (c:=st.faces+1) (t:=t) (o:=0+(aN w t).toNat*1) (by omega) (by omega);((repeat'(first|refine iW rfl rfl (bG (aI aP _) bM) ?_|refine iF rfl rfl ?_|refine iC rfl rfl rfl ?_|refine iJ rfl rfl rfl rfl ?_));exact iN)
                      ·exfalso;simp [aA,aC,aH] at k5;omega
                     ·exfalso;have hfl:(flat aP.fl (dM st.of w (st.faces+1) t)).length=2*m.length:=(by rw [bD,sl,len];exact Nat.mul_one _);rw [hfl] at k4;have k4:(0+(aN w t).toNat*1+1).ble (2*m.length)=false:=k4;have:=Nat.ble_eq_true_of_le (show 0+(aN w t).toNat*1+1≤2*m.length by omega);rw [this] at k4;cases k4
                    ·exfalso;simp [aA,aC] at k3;omega
                   ·exfalso;simp [aA,aC] at k2;omega
                  ·have hgt:t=w.length:=(by simp [aA,aC] at k1;omega);subst hgt;((conv=>whnf);refine bm (fun k2=>?_) (fun k2=>?_))
                   ·(conv=>whnf);refine⟨2*m.length - (i+1),by omega,?_⟩;refine aL (e0:=jD m (st.outside) (j+1)) (h0:=(6,.cells true false 1 (flat aP.fl (dM st.of w (st.faces+1) w.length)))::fG l m c1 c2 n (.slice (some ⟨6,0,none⟩) (2*m.length) (2*m.length)) (st.faces+1) (st.ok)) (n0:=7) ⟨i+1,j+1,by omega,by omega,rfl,by rw [nxt,hstep];rfl,by rw [nxt,hstep];rfl,rfl⟩ ?_ ?_ (by decide)
                    ·unfold jD;((repeat' refine iE rfl rfl ?_);exact iN)
                    ·unfold fG aX aB;((repeat'(first|refine iF rfl rfl ?_|refine iC rfl rfl rfl ?_|refine iJ rfl rfl rfl rfl ?_));exact iN)
                   ·exfalso;simp [aA,aC,aH] at k2;omega
              ·exfalso;simp [aA,aC,aH] at g2;omega
             ·have g1:¬ 0<a:=(by simpa [aA,aC] using g1);rw [if_neg g1,if_neg g1] at hstep;((conv=>whnf);refine bm (fun g3=>?_) (fun g3=>?_))
              ·have g3:a<0:=(by simpa [aA,aC] using g3);rw [if_pos g3,if_neg (by omega)] at hstep;((conv=>whnf);refine bm (fun g2=>?_) (fun g2=>?_))
               ·((conv=>whnf);refine bm (fun g4=>?_) (fun g4=>?_))
                ·exfalso;have:a=0:=(by simpa [aA,aC] using g4);omega
                ·(conv=>whnf)
                 refine⟨fun q e h nx=>∃ (t:Nat) (z:Int),z=t∧t≤w.length∧q=w.length - t∧e=kI m w (st.outside+1) j (0) z ∧
                  h=(7,.cells true false 1 (flat aP.fl w))::(6,.cells true false 1 (flat aP.fl (dM st.of w (0) t)))::fG l m c1 c2 n (.slice (some ⟨6,0,none⟩) (2*m.length) (2*m.length)) (st.faces) (st.ok)∧nx=8,⟨w.length,?_⟩,?_⟩
                 ·refine aL (e0:=kI m w (st.outside+1) j (0) 0) (h0:=(7,.cells true false 1 (flat aP.fl w))::(6,.cells true false 1 (flat aP.fl st.of))::fG l m c1 c2 n (.slice (some ⟨6,0,none⟩) (2*m.length) (2*m.length)) (st.faces) (st.ok)) (n0:=8) ⟨0,0,rfl,Nat.zero_le _,rfl,rfl,rfl,rfl⟩ ?_ ?_ (by decide)
                  ·unfold kI jD;((repeat' refine iE rfl rfl ?_);exact iN)
                  ·unfold fG aX aB;((repeat'(first|refine iF rfl rfl ?_|refine iC rfl rfl rfl ?_|refine iJ rfl rfl rfl rfl ?_));exact iN)
                 ·rintro q e h nx ⟨t,z,hz,ht,rfl,rfl,rfl,rfl⟩;have sl:=eV st.of w (0) t;unfold kI jD fG aX aB;((conv=>whnf);refine bm (fun k1=>?_) (fun k1=>?_))
                  ·have htl:t<w.length:=(by simp [aA,aC] at k1;omega);have hdt:=pY hwi htl;simp only [kM,Bool.and_eq_true,decide_eq_true_eq] at hdt;((conv=>whnf);refine bm (fun k2=>?_) (fun k2=>?_))
                   ·(conv=>whnf);refine iL (fP w (i:=t) htl ?_) ?_
                    ·show _+Int.toNat z*1=_;omega
                    ((conv=>whnf);refine bm (fun k3=>?_) (fun k3=>?_))
                    ·((conv=>whnf);refine bm (fun k4=>?_) (fun k4=>?_))
                     ·((conv=>whnf);refine bm (fun k5=>?_) (fun k5=>?_))
                      ·(conv=>whnf);refine⟨w.length - (t+1),by omega,?_⟩;refine aL (e0:=kI m w (st.outside+1) j (0) (z+1)) (h0:=(7,.cells true false 1 (flat aP.fl w))::(6,.cells true false 1 (flat aP.fl (dM st.of w (0) (t+1))))::fG l m c1 c2 n (.slice (some ⟨6,0,none⟩) (2*m.length) (2*m.length)) (st.faces) (st.ok)) (n0:=8) ⟨t+1,z+1,by omega,by omega,rfl,rfl,rfl,rfl⟩ ?_ ?_ (by decide)
                       ·unfold kI jD;((repeat' refine iE rfl rfl ?_);exact iN)
                       ·unfold fG aX aB;have bM:=pD (of:=st.of) (w:=w) (c:=0) (t:=t) (o:=0+(aN w t).toNat*1) (by omega) (by omega);((repeat'(first|refine iW rfl rfl (bG (aI aP _) bM) ?_|refine iF rfl rfl ?_|refine iC rfl rfl rfl ?_|refine iJ rfl rfl rfl rfl ?_));exact iN)
                      ·exfalso;simp [aA,aC,aH] at k5;omega
                     ·exfalso;have hfl:(flat aP.fl (dM st.of w (0) t)).length=2*m.length:=(by rw [bD,sl,len];exact Nat.mul_one _);rw [hfl] at k4;have k4:(0+(aN w t).toNat*1+1).ble (2*m.length)=false:=k4;have:=Nat.ble_eq_true_of_le (show 0+(aN w t).toNat*1+1≤2*m.length by omega);rw [this] at k4;cases k4
                    ·exfalso;simp [aA,aC] at k3;omega
                   ·exfalso;simp [aA,aC] at k2;omega
                  ·have hgt:t=w.length:=(by simp [aA,aC] at k1;omega);subst hgt;((conv=>whnf);refine bm (fun k2=>?_) (fun k2=>?_))
                   ·(conv=>whnf);refine⟨2*m.length - (i+1),by omega,?_⟩;refine aL (e0:=jD m (st.outside+1) (j+1)) (h0:=(6,.cells true false 1 (flat aP.fl (dM st.of w (0) w.length)))::fG l m c1 c2 n (.slice (some ⟨6,0,none⟩) (2*m.length) (2*m.length)) (st.faces) (st.ok)) (n0:=7) ⟨i+1,j+1,by omega,by omega,rfl,by rw [nxt,hstep];rfl,by rw [nxt,hstep];rfl,rfl⟩ ?_ ?_ (by decide)
                    ·unfold jD;((repeat' refine iE rfl rfl ?_);exact iN)
                    ·unfold fG aX aB;((repeat'(first|refine iF rfl rfl ?_|refine iC rfl rfl rfl ?_|refine iJ rfl rfl rfl rfl ?_));exact iN)
                   ·exfalso;simp [aA,aC,aH] at k2;omega
               ·exfalso;simp [aA,aC,aH] at g2;omega
              ·have g3:¬ a<0:=(by simpa [aA,aC] using g3);rw [if_neg g3,if_pos (by omega)] at hstep;((conv=>whnf);refine bm (fun g4=>?_) (fun g4=>?_))
               ·(conv=>whnf)
                refine⟨fun q e h nx=>∃ (t:Nat) (z:Int),z=t∧t≤w.length∧q=w.length - t∧e=kI m w (st.outside) j (0) z ∧
                 h=(7,.cells true false 1 (flat aP.fl w))::(6,.cells true false 1 (flat aP.fl (dM st.of w (0) t)))::fG l m c1 c2 n (.slice (some ⟨6,0,none⟩) (2*m.length) (2*m.length)) (st.faces) (false)∧nx=8,⟨w.length,?_⟩,?_⟩
                ·refine aL (e0:=kI m w (st.outside) j (0) 0) (h0:=(7,.cells true false 1 (flat aP.fl w))::(6,.cells true false 1 (flat aP.fl st.of))::fG l m c1 c2 n (.slice (some ⟨6,0,none⟩) (2*m.length) (2*m.length)) (st.faces) (false)) (n0:=8) ⟨0,0,rfl,Nat.zero_le _,rfl,rfl,rfl,rfl⟩ ?_ ?_ (by decide)
                 ·unfold kI jD;((repeat' refine iE rfl rfl ?_);exact iN)
                 ·unfold fG aX aB;((repeat'(first|refine iF rfl rfl ?_|refine iC rfl rfl rfl ?_|refine iJ rfl rfl rfl rfl ?_));exact iN)
                ·rintro q e h nx ⟨t,z,hz,ht,rfl,rfl,rfl,rfl⟩;have sl:=eV st.of w (0) t;unfold kI jD fG aX aB;((conv=>whnf);refine bm (fun k1=>?_) (fun k1=>?_))
                 ·have htl:t<w.length:=(by simp [aA,aC] at k1;omega);have hdt:=pY hwi htl;simp only [kM,Bool.and_eq_true,decide_eq_true_eq] at hdt;((conv=>whnf);refine bm (fun k2=>?_) (fun k2=>?_))
                  ·(conv=>whnf);refine iL (fP w (i:=t) htl ?_) ?_
                   ·show _+Int.toNat z*1=_;omega
                   ((conv=>whnf);refine bm (fun k3=>?_) (fun k3=>?_))
                   ·((conv=>whnf);refine bm (fun k4=>?_) (fun k4=>?_))
                    ·((conv=>whnf);refine bm (fun k5=>?_) (fun k5=>?_))
                     ·(conv=>whnf);refine⟨w.length - (t+1),by omega,?_⟩;refine aL (e0:=kI m w (st.outside) j (0) (z+1)) (h0:=(7,.cells true false 1 (flat aP.fl w))::(6,.cells true false 1 (flat aP.fl (dM st.of w (0) (t+1))))::fG l m c1 c2 n (.slice (some ⟨6,0,none⟩) (2*m.length) (2*m.length)) (st.faces) (false)) (n0:=8) ⟨t+1,z+1,by omega,by omega,rfl,rfl,rfl,rfl⟩ ?_ ?_ (by decide)
                      ·unfold kI jD;((repeat' refine iE rfl rfl ?_);exact iN)
                      ·unfold fG aX aB;have bM:=pD (of:=st.of) (w:=w) (c:=0) (t:=t) (o:=0+(aN w t).toNat*1) (by omega) (by omega);((repeat'(first|refine iW rfl rfl (bG (aI aP _) bM) ?_|refine iF rfl rfl ?_|refine iC rfl rfl rfl ?_|refine iJ rfl rfl rfl rfl ?_));exact iN)
                     ·exfalso;simp [aA,aC,aH] at k5;omega
                    ·exfalso;have hfl:(flat aP.fl (dM st.of w (0) t)).length=2*m.length:=(by rw [bD,sl,len];exact Nat.mul_one _);rw [hfl] at k4;have k4:(0+(aN w t).toNat*1+1).ble (2*m.length)=false:=k4;have:=Nat.ble_eq_true_of_le (show 0+(aN w t).toNat*1+1≤2*m.length by omega);rw [this] at k4;cases k4
                   ·exfalso;simp [aA,aC] at k3;omega
                  ·exfalso;simp [aA,aC] at k2;omega
                 ·have hgt:t=w.length:=(by simp [aA,aC] at k1;omega);subst hgt;((conv=>whnf);refine bm (fun k2=>?_) (fun k2=>?_))
                  ·(conv=>whnf);refine⟨2*m.length - (i+1),by omega,?_⟩;refine aL (e0:=jD m (st.outside) (j+1)) (h0:=(6,.cells true false 1 (flat aP.fl (dM st.of w (0) w.length)))::fG l m c1 c2 n (.slice (some ⟨6,0,none⟩) (2*m.length) (2*m.length)) (st.faces) (false)) (n0:=7) ⟨i+1,j+1,by omega,by omega,rfl,by rw [nxt,hstep];rfl,by rw [nxt,hstep];rfl,rfl⟩ ?_ ?_ (by decide)
                   ·unfold jD;((repeat' refine iE rfl rfl ?_);exact iN)
                   ·unfold fG aX aB;((repeat'(first|refine iF rfl rfl ?_|refine iC rfl rfl rfl ?_|refine iJ rfl rfl rfl rfl ?_));exact iN)
                  ·exfalso;simp [aA,aC,aH] at k2;omega
               ·exfalso;have:¬ a=0:=(by simpa [aA,aC] using g4);omega
            ·exfalso;have h7:(mF l m&&J5 m w&&decide (w.length≤10000))=false:=h7;rw [hM,hwi,decide_eq_true (show w.length≤10000 by omega)] at h7;cases h7
           ·exfalso;have h6:(mF l m&&kM m j&&decide ((XD m).length=2*m.length))=false:=h6;rw [hM,hdj,decide_eq_true (aD3 m)] at h6;cases h6
         ·exfalso;simp [aA,aC] at h4;omega
        ·have hge:i=2*m.length:=(by simp [aA,aC] at h3;omega);have hfin:dZ l m=st:=(by rw [← hst,hge];rfl);rw [hfin]
         repeat' ((conv=>whnf);refine bm (fun g1=>?_) (fun g1=>?_))
         all_goals (conv=>whnf)
         all_goals refine⟨6,?_,rfl⟩
         all_goals (show Value.agg _=Value.agg _)
         all_goals rw [len]
         all_goals (simp [aA,aC] at *)
         all_goals simp [KV, *]
       ·exfalso;simp [aA,aC,aH] at h2;omega
    ·exfalso;simp [aA,aC,aH] at h2;omega
 ·exfalso;have h1:(decide (1≤m.length)&&decide (m.length≤1000))=false:=h1;rw [decide_eq_true h1m,decide_eq_true hm] at h1;cases h1
end Go.Aw
end
