/-
  Parts of the proof, put together. No condition.
-/
import Derived.Test.YtjahkcbdecgbhaaGreatQAw
set_option linter.unusedSimpArgs false
set_option linter.unusedVariables false
noncomputable section
namespace Go.Aw
set_option maxRecDepth 100000
theorem KT (l:List Int):∀ (i:Nat) (v:Int),i<l.length→dM (flat aO.fl l) (i*1) [iv v]=flat aO.fl (l.set i v):=by
 induction l with
 |nil=>intro i v h;cases h
 |cons a r ih =>
  intro i v h;cases i with
  |zero=>rfl
  |succ i =>
   have:=ih i v (by simpa using h);simp only [List.set_cons_succ,flat,← this];have e:(i+1)*1=i*1+1:=(by omega);rw [e];unfold dM;show List.take (i*1+1) (iv a::flat aO.fl r)++_++List.drop (i*1+1+1) (iv a::flat aO.fl r)=_;rfl
theorem pR {of w:List Int}{c:Int}{t o:Nat}(ho:o=(aN w t).toNat*1)(hi:(aN w t).toNat<of.length):dM (flat aO.fl (dN of w c t)) o [iv c]=flat aO.fl (dN of w c (t+1)):=by
 rw [ho,KT _ _ _ (by rw [eX];exact hi)];rfl
def fcS (l:List Pt)(m:List Ed)(n:Int):List Value→YS Int
 |[]=>some (oE l m&&decide (1≤m.length),(eC l m).of,[iv (eC l m).faces,.bool (KA (eC l m))])
 |_=>none
theorem aCL {l:List Pt}{m:List Ed}{n:Int}{r:List Value}{out:List Int}{rest:List Value}(h:fcS l m n r=some (true,out,rest)):r=[]∧oE l m=true∧1≤m.length∧out=(eC l m).of∧rest=[iv (eC l m).faces,.bool (KA (eC l m))]:=by
 unfold fcS at h;split at h
 ·injection h with h;injection h with h1 h2;injection h2 with h2 h3;simp only [Bool.and_eq_true,decide_eq_true_eq] at h1;exact⟨rfl,h1.1,h1.2,h2.symm,h3.symm⟩
 ·cases h
def X6 (m:List Ed):List Bool:=List.replicate (2*m.length) true
theorem aCu (m:List Ed):(X6 m).length=2*m.length:=List.length_replicate
def fM (l:List Pt)(m:List Ed)(c1 c2:Nat)(n:Int)(s:Value)(F:Int)(K:Bool):Heap:=(5,.cells true false 1 [s,iv F,.bool K])::(4,.cells true false 1 (flat fT.fl (X6 m)))::(3,.cells true false 1 [.slice none 0 0,iv 0,.bool false])::(2,aW l.length m.length c1 c2 n)::aC aP aR l m
def JN (m:List Ed)(j:Int):List (Nat × Value):=[(1,.pointer (some ⟨2,0,none⟩)),(2,.pointer (some ⟨3,0,none⟩)),(3,.slice (some ⟨4,0,none⟩) (X6 m).length (X6 m).length),(4,.pointer (some ⟨5,0,none⟩)),(5,iv j)]
def jF (m:List Ed)(O j:Int):List (Nat × Value):=[(1,.pointer (some ⟨2,0,none⟩)),(2,.pointer (some ⟨3,0,none⟩)),(3,.slice (some ⟨4,0,none⟩) (X6 m).length (X6 m).length),(4,.pointer (some ⟨5,0,none⟩)),(6,iv O),(7,iv j)]
def kS (m:List Ed)(w:List Int)(O j c i:Int):List (Nat × Value):=(8,.slice (some ⟨7,0,none⟩) w.length w.length)::(10,iv c)::(11,iv i)::jF m O j
def aBu:Nat × XF:=(158,mYX aP aR aO fcS)
theorem aI8:cJ Go.Proofs.Tryz.prog aBu.1 aBu.2:=Y8 aP aR aO (aK (xl:=[aG1,aAG,X90]) (.cons aJz (.cons aIH (.cons x90 .nil)))) fun l m n r out rest hs=>by
 obtain⟨rfl,hM,h1m,rfl,rfl⟩:=aCL hs;clear hs;refine⟨rfl,rfl,fun c1 c2=>?_⟩;have hm:m.length≤1000:=(by simp only [oE,Bool.and_eq_true,decide_eq_true_eq] at hM;exact hM.1.2);(conv=>whnf);refine⟨_,_,_,[],l,m,rfl,aD aP rfl,aD aR rfl,?_⟩;((conv=>whnf);refine bm (fun h1=>?_) (fun h1=>?_))
 ·(conv=>whnf)
  refine⟨fun q e h nx=>∃ (i:Nat) (j:Int),j=i∧i≤2*m.length∧q=2*m.length - i∧e=JN m j ∧
   ((i=0∧h=fM l m c1 c2 n (.slice none 0 0) 0 true∧nx=6)∨(0<i∧h=(6,.cells true false 1 (flat aO.fl (List.replicate i (-1))))::fM l m c1 c2 n (.slice (some ⟨6,0,none⟩) i i) 0 true∧nx=7)),⟨2*m.length,?_⟩,?_⟩
  ·refine aL (e0:=JN m 0) (h0:=fM l m c1 c2 n (.slice none 0 0) 0 true) (n0:=6) ⟨0,0,rfl,Nat.zero_le _,rfl,rfl,.inl ⟨rfl,rfl,rfl⟩⟩ ?_ ?_ (by decide)
   ·unfold JN;((repeat' refine iE rfl rfl ?_);exact iN)
   ·unfold fM aW aC;((repeat'(first|refine iF rfl rfl ?_|refine iC rfl rfl rfl ?_|refine iJ rfl rfl rfl rfl ?_));exact iN)
  ·rintro q e h nx ⟨i,j,hj,hi,rfl,rfl,⟨hi0,rfl,rfl⟩|⟨hip,rfl,rfl⟩⟩
   ·subst hi0;unfold JN fM aW aC;((conv=>whnf);refine bm (fun h2=>?_) (fun h2=>?_))
    ·((conv=>whnf);refine bm (fun h3=>?_) (fun h3=>?_))
     ·((conv=>whnf);refine bm (fun h4=>?_) (fun h4=>?_))
      ·(conv=>whnf);refine⟨2*m.length - 1,by omega,?_⟩;refine gC (e0:=JN m (j+1)) (h0:=(6,.cells true false 1 (flat aO.fl [-1]))::fM l m c1 c2 n (.slice (some ⟨6,0,none⟩) 1 1) 0 true) (n0:=7) 6 7 (by decide) (by decide) ⟨1,j+1,by omega,by omega,rfl,rfl,.inr ⟨Nat.one_pos,rfl,rfl⟩⟩ ?_ ?_ ?_
       ·unfold JN;((repeat' refine iE rfl rfl ?_);exact iN)
       ·unfold fM aW aC;((repeat'(first|refine iF rfl rfl ?_|refine iC rfl rfl rfl ?_|refine iJ rfl rfl rfl rfl ?_));exact iN)
       ·unfold fM aC;((repeat' refine iK rfl ?_);exact iN)
      ·exfalso;simp [aA,aB,aH] at h4;omega
     ·exfalso;simp [aA,aB] at h3;omega
    ·exfalso;simp [aA,aB,aH] at h2;omega
   ·unfold JN fM aW aC;((conv=>whnf);refine bm (fun h2=>?_) (fun h2=>?_))
    ·((conv=>whnf);refine bm (fun h3=>?_) (fun h3=>?_))
     ·have hlt:i<2*m.length:=(by simp [aA,aB] at h3;omega);have hll:(flat aO.fl (List.replicate i (-1))).length=i:=(by rw [bF,List.length_replicate];exact Nat.mul_one _);((conv=>whnf);refine bm (fun h4=>?_) (fun h4=>?_))
      ·exfalso;have:=Nat.le_of_ble_eq_true h4;omega
      ·((conv=>whnf);refine bm (fun h5=>?_) (fun h5=>?_))
       ·((conv=>whnf);refine bm (fun h6=>?_) (fun h6=>?_))
        ·(conv=>whnf);refine⟨2*m.length - (i+1),by omega,?_⟩
         refine gC (e0:=JN m (j+1)) (h0:=(6,.cells true false 1 (flat aO.fl (List.replicate i (-1)++[-1])))::fM l m c1 c2 n (.slice (some ⟨6,0,none⟩) (i+1) (i+1)) 0 true) (n0:=7) 6 8 (by decide) (by decide)
          ⟨i+1,j+1,by omega,by omega,rfl,rfl,.inr ⟨Nat.succ_pos _,by rw [List.replicate_succ'];rfl,rfl⟩⟩ ?_ ?_ ?_
         ·unfold JN;((repeat' refine iE rfl rfl ?_);exact iN)
         ·unfold fM aW aC;((repeat'(first|refine iW rfl rfl (bD (aI aO _) (fA aO (List.replicate i (-1)) (-1) (by rw [List.length_replicate]))) ?_|refine iF rfl rfl ?_|refine iC rfl rfl rfl ?_|refine iJ rfl rfl rfl rfl ?_));exact iN)
         ·unfold fM aC;((repeat' refine iK rfl ?_);exact iN)
        ·exfalso;simp [aA,aB,aH] at h6;omega
       ·exact oZ (s:=1) (by omega) (by omega) h5
     ·have hge:i=2*m.length:=(by simp [aA,aB] at h3;omega);subst hge;(conv=>whnf)
      refine⟨fun q e h nx=>∃ (i:Nat) (j:Int),j=i∧i≤2*m.length∧q=2*m.length - i∧e=jF m (jT l m i).outside j ∧
       h=(6,.cells true false 1 (flat aO.fl (jT l m i).of))::fM l m c1 c2 n (.slice (some ⟨6,0,none⟩) (2*m.length) (2*m.length)) (jT l m i).faces (jT l m i).ok∧nx=7,⟨2*m.length,?_⟩,?_⟩
      ·refine aL (e0:=jF m 0 0) (h0:=(6,.cells true false 1 (flat aO.fl (List.replicate (2*m.length) (-1))))::fM l m c1 c2 n (.slice (some ⟨6,0,none⟩) (2*m.length) (2*m.length)) 0 true) (n0:=7) ⟨0,0,rfl,Nat.zero_le _,rfl,rfl,rfl,rfl⟩ ?_ ?_ (by decide)
       ·unfold jF;((repeat' refine iE rfl rfl ?_);exact iN)
       ·unfold fM aW aC;((repeat'(first|refine iF rfl rfl ?_|refine iC rfl rfl rfl ?_|refine iJ rfl rfl rfl rfl ?_));exact iN)
      ·clear h2 h3 hj hi hip h1;rintro q e h nx ⟨i,j,hj,hi,rfl,rfl,rfl,rfl⟩;have low:=H9 l m i;have len:=uH l m i;have nxt:jT l m (i+1)=oY l m (jT l m i) i:=rfl;generalize hst:jT l m i=st at low len nxt;unfold jF fM aW aC;((conv=>whnf);refine bm (fun h2=>?_) (fun h2=>?_))
       ·((conv=>whnf);refine bm (fun h3=>?_) (fun h3=>?_))
        ·have hlt:i<2*m.length:=(by simp [aA,aB] at h3;omega);have hdj:o5 m j=true:=(by simp only [o5,Bool.and_eq_true,decide_eq_true_eq];omega);((conv=>whnf);refine bm (fun h4=>?_) (fun h4=>?_))
         ·(conv=>whnf);refine fY (fR st.of (i:=i) (by omega) ?_) ?_
          ·show _+Int.toNat j*1=_;omega
          ((conv=>whnf);refine bm (fun h5=>?_) (fun h5=>?_))
          ·have h5:0≤aN st.of i:=(by simpa [aA,aB] using h5);((conv=>whnf);refine bm (fun h6=>?_) (fun h6=>?_))
           ·(conv=>whnf);refine⟨2*m.length - (i+1),by omega,?_⟩;refine aL (e0:=jF m st.outside (j+1)) (h0:=(6,.cells true false 1 (flat aO.fl st.of))::fM l m c1 c2 n (.slice (some ⟨6,0,none⟩) (2*m.length) (2*m.length)) st.faces st.ok) (n0:=7) ⟨i+1,j+1,by omega,by omega,rfl,?_,?_,rfl⟩ ?_ ?_ (by decide)
            ·rw [nxt];unfold oY;rw [if_pos h5];rfl
            ·rw [nxt];unfold oY;rw [if_pos h5];rfl
            ·unfold jF;((repeat' refine iE rfl rfl ?_);exact iN)
            ·unfold fM aW aC;((repeat'(first|refine iF rfl rfl ?_|refine iC rfl rfl rfl ?_|refine iJ rfl rfl rfl rfl ?_));exact iN)
           ·exfalso;simp [aA,aB,aH] at h6;omega
          ·have h5:¬ 0≤aN st.of i:=(by simpa [aA,aB] using h5);(conv=>whnf);refine⟨_,_,_,[iv j],_,l,m,X6 m,rfl,aD aP rfl,aD aR rfl,aD fT rfl,?_⟩;((conv=>whnf);refine bm (fun h6=>?_) (fun h6=>?_))
           ·obtain⟨w,hw⟩:∃ w,w=kC l m (X6 m) j:=⟨_,rfl⟩;have hwl:=PK l m (X6 m) j;have hwp:=Q6 l m (X6 m) j;have hwi:=XY (l:=l) (k:=X6 m) hm hdj;rw [← hw] at hwl hwp hwi;have hj':kC l m (List.replicate (2*m.length) true) i=w:=(by rw [hw,hj];rfl);rw [← hw];(conv=>whnf);refine⟨_,_,_,[],_,l,m,w,rfl,aD aP rfl,aD aR rfl,aD aO rfl,?_⟩;((conv=>whnf);refine bm (fun h7=>?_) (fun h7=>?_))
            ·obtain⟨a,ha⟩:∃ a,a=mE l m w w.length:=⟨_,rfl⟩;rw [← ha];have hstep:oY l m st i=⟨dN st.of w (if 0<a then st.faces+1 else 0) w.length,if 0<a then st.faces+1 else st.faces,if a<0 then st.outside+1 else st.outside,if a=0 then false else st.ok⟩:=by
              unfold oY;rw [if_neg h5];simp only [hj',← ha]
             ((conv=>whnf);refine bm (fun g1=>?_) (fun g1=>?_))
             ·have g1:0<a:=(by simpa [aA,aB] using g1);rw [if_pos g1,if_pos g1,if_neg (by omega),if_neg (by omega)] at hstep;((conv=>whnf);refine bm (fun g2=>?_) (fun g2=>?_))
              ·((conv=>whnf);refine bm (fun g3=>?_) (fun g3=>?_))
               ·exfalso;have:a<0:=(by simpa [aA,aB] using g3);omega
               ·((conv=>whnf);refine bm (fun g4=>?_) (fun g4=>?_))
                ·exfalso;have:a=0:=(by simpa [aA,aB] using g4);omega
                ·(conv=>whnf)
                 refine⟨fun q e h nx=>∃ (t:Nat) (z:Int),z=t∧t≤w.length∧q=w.length - t∧e=kS m w (st.outside) j (st.faces+1) z ∧
                  h=(7,.cells true false 1 (flat aO.fl w))::(6,.cells true false 1 (flat aO.fl (dN st.of w (st.faces+1) t)))::fM l m c1 c2 n (.slice (some ⟨6,0,none⟩) (2*m.length) (2*m.length)) (st.faces+1) (st.ok)∧nx=8,⟨w.length,?_⟩,?_⟩
                 ·refine aL (e0:=kS m w (st.outside) j (st.faces+1) 0) (h0:=(7,.cells true false 1 (flat aO.fl w))::(6,.cells true false 1 (flat aO.fl st.of))::fM l m c1 c2 n (.slice (some ⟨6,0,none⟩) (2*m.length) (2*m.length)) (st.faces+1) (st.ok)) (n0:=8) ⟨0,0,rfl,Nat.zero_le _,rfl,rfl,rfl,rfl⟩ ?_ ?_ (by decide)
                  ·unfold kS jF;((repeat' refine iE rfl rfl ?_);exact iN)
                  ·unfold fM aW aC;((repeat'(first|refine iF rfl rfl ?_|refine iC rfl rfl rfl ?_|refine iJ rfl rfl rfl rfl ?_));exact iN)
                 ·rintro q e h nx ⟨t,z,hz,ht,rfl,rfl,rfl,rfl⟩;have sl:=eX st.of w (st.faces+1) t;unfold kS jF fM aW aC;((conv=>whnf);refine bm (fun k1=>?_) (fun k1=>?_))
                  ·have htl:t<w.length:=(by simp [aA,aB] at k1;omega);have hdt:=xV hwi htl;simp only [o5,Bool.and_eq_true,decide_eq_true_eq] at hdt;((conv=>whnf);refine bm (fun k2=>?_) (fun k2=>?_))
                   ·(conv=>whnf);refine fY (fR w (i:=t) htl ?_) ?_
                    ·show _+Int.toNat z*1=_;omega
                    ((conv=>whnf);refine bm (fun k3=>?_) (fun k3=>?_))
                    ·((conv=>whnf);refine bm (fun k4=>?_) (fun k4=>?_))
                     ·((conv=>whnf);refine bm (fun k5=>?_) (fun k5=>?_))
                      ·(conv=>whnf);refine⟨w.length - (t+1),by omega,?_⟩;refine aL (e0:=kS m w (st.outside) j (st.faces+1) (z+1)) (h0:=(7,.cells true false 1 (flat aO.fl w))::(6,.cells true false 1 (flat aO.fl (dN st.of w (st.faces+1) (t+1))))::fM l m c1 c2 n (.slice (some ⟨6,0,none⟩) (2*m.length) (2*m.length)) (st.faces+1) (st.ok)) (n0:=8) ⟨t+1,z+1,by omega,by omega,rfl,rfl,rfl,rfl⟩ ?_ ?_ (by decide)
                       ·unfold kS jF;((repeat' refine iE rfl rfl ?_);exact iN)
                       ·unfold fM aW aC;have bV:=pR (of:=st.of) (w:=w) (c:=st.faces+1) (t:=t) (o:=0+(aN w t).toNat*1) (by omega) (by omega);((repeat'(first|refine iW rfl rfl (bD (aI aO _) bV) ?_|refine iF rfl rfl ?_|refine iC rfl rfl rfl ?_|refine iJ rfl rfl rfl rfl ?_));exact iN)
                      ·exfalso;simp [aA,aB,aH] at k5;omega
                     ·exfalso;have hfl:(flat aO.fl (dN st.of w (st.faces+1) t)).length=2*m.length:=(by rw [bF,sl,len];exact Nat.mul_one _);rw [hfl] at k4;have k4:(0+(aN w t).toNat*1+1).ble (2*m.length)=false:=k4;have:=Nat.ble_eq_true_of_le (show 0+(aN w t).toNat*1+1≤2*m.length by omega);rw [this] at k4;cases k4
                    ·exfalso;simp [aA,aB] at k3;omega
                   ·exfalso;simp [aA,aB] at k2;omega
                  ·have hgt:t=w.length:=(by simp [aA,aB] at k1;omega);subst hgt;((conv=>whnf);refine bm (fun k2=>?_) (fun k2=>?_))
                   ·(conv=>whnf);refine⟨2*m.length - (i+1),by omega,?_⟩;refine aL (e0:=jF m (st.outside) (j+1)) (h0:=(6,.cells true false 1 (flat aO.fl (dN st.of w (st.faces+1) w.length)))::fM l m c1 c2 n (.slice (some ⟨6,0,none⟩) (2*m.length) (2*m.length)) (st.faces+1) (st.ok)) (n0:=7) ⟨i+1,j+1,by omega,by omega,rfl,by rw [nxt,hstep];rfl,by rw [nxt,hstep];rfl,rfl⟩ ?_ ?_ (by decide)
                    ·unfold jF;((repeat' refine iE rfl rfl ?_);exact iN)
                    ·unfold fM aW aC;((repeat'(first|refine iF rfl rfl ?_|refine iC rfl rfl rfl ?_|refine iJ rfl rfl rfl rfl ?_));exact iN)
                   ·exfalso;simp [aA,aB,aH] at k2;omega
              ·exfalso;simp [aA,aB,aH] at g2;omega
             ·have g1:¬ 0<a:=(by simpa [aA,aB] using g1);rw [if_neg g1,if_neg g1] at hstep;((conv=>whnf);refine bm (fun g3=>?_) (fun g3=>?_))
              ·have g3:a<0:=(by simpa [aA,aB] using g3);rw [if_pos g3,if_neg (by omega)] at hstep;((conv=>whnf);refine bm (fun g2=>?_) (fun g2=>?_))
               ·((conv=>whnf);refine bm (fun g4=>?_) (fun g4=>?_))
                ·exfalso;have:a=0:=(by simpa [aA,aB] using g4);omega
                ·(conv=>whnf)
                 refine⟨fun q e h nx=>∃ (t:Nat) (z:Int),z=t∧t≤w.length∧q=w.length - t∧e=kS m w (st.outside+1) j (0) z ∧
                  h=(7,.cells true false 1 (flat aO.fl w))::(6,.cells true false 1 (flat aO.fl (dN st.of w (0) t)))::fM l m c1 c2 n (.slice (some ⟨6,0,none⟩) (2*m.length) (2*m.length)) (st.faces) (st.ok)∧nx=8,⟨w.length,?_⟩,?_⟩
                 ·refine aL (e0:=kS m w (st.outside+1) j (0) 0) (h0:=(7,.cells true false 1 (flat aO.fl w))::(6,.cells true false 1 (flat aO.fl st.of))::fM l m c1 c2 n (.slice (some ⟨6,0,none⟩) (2*m.length) (2*m.length)) (st.faces) (st.ok)) (n0:=8) ⟨0,0,rfl,Nat.zero_le _,rfl,rfl,rfl,rfl⟩ ?_ ?_ (by decide)
                  ·unfold kS jF;((repeat' refine iE rfl rfl ?_);exact iN)
                  ·unfold fM aW aC;((repeat'(first|refine iF rfl rfl ?_|refine iC rfl rfl rfl ?_|refine iJ rfl rfl rfl rfl ?_));exact iN)
                 ·rintro q e h nx ⟨t,z,hz,ht,rfl,rfl,rfl,rfl⟩;have sl:=eX st.of w (0) t;unfold kS jF fM aW aC;((conv=>whnf);refine bm (fun k1=>?_) (fun k1=>?_))
                  ·have htl:t<w.length:=(by simp [aA,aB] at k1;omega);have hdt:=xV hwi htl;simp only [o5,Bool.and_eq_true,decide_eq_true_eq] at hdt;((conv=>whnf);refine bm (fun k2=>?_) (fun k2=>?_))
                   ·(conv=>whnf);refine fY (fR w (i:=t) htl ?_) ?_
                    ·show _+Int.toNat z*1=_;omega
                    ((conv=>whnf);refine bm (fun k3=>?_) (fun k3=>?_))
                    ·((conv=>whnf);refine bm (fun k4=>?_) (fun k4=>?_))
                     ·((conv=>whnf);refine bm (fun k5=>?_) (fun k5=>?_))
                      ·(conv=>whnf);refine⟨w.length - (t+1),by omega,?_⟩;refine aL (e0:=kS m w (st.outside+1) j (0) (z+1)) (h0:=(7,.cells true false 1 (flat aO.fl w))::(6,.cells true false 1 (flat aO.fl (dN st.of w (0) (t+1))))::fM l m c1 c2 n (.slice (some ⟨6,0,none⟩) (2*m.length) (2*m.length)) (st.faces) (st.ok)) (n0:=8) ⟨t+1,z+1,by omega,by omega,rfl,rfl,rfl,rfl⟩ ?_ ?_ (by decide)
                       ·unfold kS jF;((repeat' refine iE rfl rfl ?_);exact iN)
                       ·unfold fM aW aC;have bV:=pR (of:=st.of) (w:=w) (c:=0) (t:=t) (o:=0+(aN w t).toNat*1) (by omega) (by omega);((repeat'(first|refine iW rfl rfl (bD (aI aO _) bV) ?_|refine iF rfl rfl ?_|refine iC rfl rfl rfl ?_|refine iJ rfl rfl rfl rfl ?_));exact iN)
                      ·exfalso;simp [aA,aB,aH] at k5;omega
                     ·exfalso;have hfl:(flat aO.fl (dN st.of w (0) t)).length=2*m.length:=(by rw [bF,sl,len];exact Nat.mul_one _);rw [hfl] at k4;have k4:(0+(aN w t).toNat*1+1).ble (2*m.length)=false:=k4;have:=Nat.ble_eq_true_of_le (show 0+(aN w t).toNat*1+1≤2*m.length by omega);rw [this] at k4;cases k4
                    ·exfalso;simp [aA,aB] at k3;omega
                   ·exfalso;simp [aA,aB] at k2;omega
                  ·have hgt:t=w.length:=(by simp [aA,aB] at k1;omega);subst hgt;((conv=>whnf);refine bm (fun k2=>?_) (fun k2=>?_))
                   ·(conv=>whnf);refine⟨2*m.length - (i+1),by omega,?_⟩;refine aL (e0:=jF m (st.outside+1) (j+1)) (h0:=(6,.cells true false 1 (flat aO.fl (dN st.of w (0) w.length)))::fM l m c1 c2 n (.slice (some ⟨6,0,none⟩) (2*m.length) (2*m.length)) (st.faces) (st.ok)) (n0:=7) ⟨i+1,j+1,by omega,by omega,rfl,by rw [nxt,hstep];rfl,by rw [nxt,hstep];rfl,rfl⟩ ?_ ?_ (by decide)
                    ·unfold jF;((repeat' refine iE rfl rfl ?_);exact iN)
                    ·unfold fM aW aC;((repeat'(first|refine iF rfl rfl ?_|refine iC rfl rfl rfl ?_|refine iJ rfl rfl rfl rfl ?_));exact iN)
                   ·exfalso;simp [aA,aB,aH] at k2;omega
               ·exfalso;simp [aA,aB,aH] at g2;omega
              ·have g3:¬ a<0:=(by simpa [aA,aB] using g3);rw [if_neg g3,if_pos (by omega)] at hstep;((conv=>whnf);refine bm (fun g4=>?_) (fun g4=>?_))
               ·(conv=>whnf)
                refine⟨fun q e h nx=>∃ (t:Nat) (z:Int),z=t∧t≤w.length∧q=w.length - t∧e=kS m w (st.outside) j (0) z ∧
                 h=(7,.cells true false 1 (flat aO.fl w))::(6,.cells true false 1 (flat aO.fl (dN st.of w (0) t)))::fM l m c1 c2 n (.slice (some ⟨6,0,none⟩) (2*m.length) (2*m.length)) (st.faces) (false)∧nx=8,⟨w.length,?_⟩,?_⟩
                ·refine aL (e0:=kS m w (st.outside) j (0) 0) (h0:=(7,.cells true false 1 (flat aO.fl w))::(6,.cells true false 1 (flat aO.fl st.of))::fM l m c1 c2 n (.slice (some ⟨6,0,none⟩) (2*m.length) (2*m.length)) (st.faces) (false)) (n0:=8) ⟨0,0,rfl,Nat.zero_le _,rfl,rfl,rfl,rfl⟩ ?_ ?_ (by decide)
                 ·unfold kS jF;((repeat' refine iE rfl rfl ?_);exact iN)
                 ·unfold fM aW aC;((repeat'(first|refine iF rfl rfl ?_|refine iC rfl rfl rfl ?_|refine iJ rfl rfl rfl rfl ?_));exact iN)
                ·rintro q e h nx ⟨t,z,hz,ht,rfl,rfl,rfl,rfl⟩;have sl:=eX st.of w (0) t;unfold kS jF fM aW aC;((conv=>whnf);refine bm (fun k1=>?_) (fun k1=>?_))
                 ·have htl:t<w.length:=(by simp [aA,aB] at k1;omega);have hdt:=xV hwi htl;simp only [o5,Bool.and_eq_true,decide_eq_true_eq] at hdt;((conv=>whnf);refine bm (fun k2=>?_) (fun k2=>?_))
                  ·(conv=>whnf);refine fY (fR w (i:=t) htl ?_) ?_
                   ·show _+Int.toNat z*1=_;omega
                   ((conv=>whnf);refine bm (fun k3=>?_) (fun k3=>?_))
                   ·((conv=>whnf);refine bm (fun k4=>?_) (fun k4=>?_))
                    ·((conv=>whnf);refine bm (fun k5=>?_) (fun k5=>?_))
                     ·(conv=>whnf);refine⟨w.length - (t+1),by omega,?_⟩;refine aL (e0:=kS m w (st.outside) j (0) (z+1)) (h0:=(7,.cells true false 1 (flat aO.fl w))::(6,.cells true false 1 (flat aO.fl (dN st.of w (0) (t+1))))::fM l m c1 c2 n (.slice (some ⟨6,0,none⟩) (2*m.length) (2*m.length)) (st.faces) (false)) (n0:=8) ⟨t+1,z+1,by omega,by omega,rfl,rfl,rfl,rfl⟩ ?_ ?_ (by decide)
                      ·unfold kS jF;((repeat' refine iE rfl rfl ?_);exact iN)
                      ·unfold fM aW aC;have bV:=pR (of:=st.of) (w:=w) (c:=0) (t:=t) (o:=0+(aN w t).toNat*1) (by omega) (by omega);((repeat'(first|refine iW rfl rfl (bD (aI aO _) bV) ?_|refine iF rfl rfl ?_|refine iC rfl rfl rfl ?_|refine iJ rfl rfl rfl rfl ?_));exact iN)
                     ·exfalso;simp [aA,aB,aH] at k5;omega
                    ·exfalso;have hfl:(flat aO.fl (dN st.of w (0) t)).length=2*m.length:=(by rw [bF,sl,len];exact Nat.mul_one _);rw [hfl] at k4;have k4:(0+(aN w t).toNat*1+1).ble (2*m.length)=false:=k4;have:=Nat.ble_eq_true_of_le (show 0+(aN w t).toNat*1+1≤2*m.length by omega);rw [this] at k4;cases k4
                   ·exfalso;simp [aA,aB] at k3;omega
                  ·exfalso;simp [aA,aB] at k2;omega
                 ·have hgt:t=w.length:=(by simp [aA,aB] at k1;omega);subst hgt;((conv=>whnf);refine bm (fun k2=>?_) (fun k2=>?_))
                  ·(conv=>whnf);refine⟨2*m.length - (i+1),by omega,?_⟩;refine aL (e0:=jF m (st.outside) (j+1)) (h0:=(6,.cells true false 1 (flat aO.fl (dN st.of w (0) w.length)))::fM l m c1 c2 n (.slice (some ⟨6,0,none⟩) (2*m.length) (2*m.length)) (st.faces) (false)) (n0:=7) ⟨i+1,j+1,by omega,by omega,rfl,by rw [nxt,hstep];rfl,by rw [nxt,hstep];rfl,rfl⟩ ?_ ?_ (by decide)
                   ·unfold jF;((repeat' refine iE rfl rfl ?_);exact iN)
                   ·unfold fM aW aC;((repeat'(first|refine iF rfl rfl ?_|refine iC rfl rfl rfl ?_|refine iJ rfl rfl rfl rfl ?_));exact iN)
                  ·exfalso;simp [aA,aB,aH] at k2;omega
               ·exfalso;have:¬ a=0:=(by simpa [aA,aB] using g4);omega
            ·exfalso;have h7:(oE l m&&RE m w&&decide (w.length≤10000))=false:=h7;rw [hM,hwi,decide_eq_true (show w.length≤10000 by omega)] at h7;cases h7
           ·exfalso;have h6:(oE l m&&o5 m j&&decide ((X6 m).length=2*m.length))=false:=h6;rw [hM,hdj,decide_eq_true (aCu m)] at h6;cases h6
         ·exfalso;simp [aA,aB] at h4;omega
        ·have hge:i=2*m.length:=(by simp [aA,aB] at h3;omega);have hfin:eC l m=st:=(by rw [← hst,hge];rfl);rw [hfin]
         repeat' ((conv=>whnf);refine bm (fun g1=>?_) (fun g1=>?_))
         all_goals (conv=>whnf)
         all_goals refine⟨6,?_,rfl⟩
         all_goals (show Value.agg _=Value.agg _)
         all_goals rw [len]
         all_goals (simp [aA,aB] at *)
         all_goals simp [KA, *]
       ·exfalso;simp [aA,aB,aH] at h2;omega
    ·exfalso;simp [aA,aB,aH] at h2;omega
 ·exfalso;have h1:(decide (1≤m.length)&&decide (m.length≤1000))=false:=h1;rw [decide_eq_true h1m,decide_eq_true hm] at h1;cases h1
end Go.Aw
end
