/-
  Parts of a proof. No condition.
-/
import Derived.Test.YtjahkcbdecgbhaaGreatQAs
set_option linter.unusedSimpArgs false
set_option linter.unusedVariables false
noncomputable section
namespace Go.Aw
set_option maxRecDepth 100000
theorem LO (l:List Int):∀ (i:Nat) (v:Int),i<l.length→dJ (flat aO.fl l) (i*1) [iv v]=flat aO.fl (l.set i v):=by
 induction l with
 |nil=>intro i v h;cases h
 |cons a r ih =>
  intro i v h;cases i with
  |zero=>rfl
  |succ i =>
   have:=ih i v (by simpa using h);simp only [List.set_cons_succ,flat,← this];have e:(i+1)*1=i*1+1:=(by omega);rw [e];unfold dJ;show List.take (i*1+1) (iv a::flat aO.fl r)++_++List.drop (i*1+1+1) (iv a::flat aO.fl r)=_;rfl
theorem qG {of w:List Int}{c:Int}{t o:Nat}(ho:o=(aM w t).toNat*1)(hi:(aM w t).toNat<of.length):dJ (flat aO.fl (dQ of w c t)) o [iv c]=flat aO.fl (dQ of w c (t+1)):=by
 rw [ho,LO _ _ _ (by rw [eX];exact hi)];rfl
def fcS (l:List Pt)(m:List Ed)(n:Int):List Value→YS Int
 |[]=>some (kK l m&&decide (1≤m.length),(eN l m).of,[iv (eN l m).faces,.bool (K2 (eN l m))])
 |_=>none
theorem aCr {l:List Pt}{m:List Ed}{n:Int}{r:List Value}{out:List Int}{rest:List Value}(h:fcS l m n r=some (true,out,rest)):r=[]∧kK l m=true∧1≤m.length∧out=(eN l m).of∧rest=[iv (eN l m).faces,.bool (K2 (eN l m))]:=by
 unfold fcS at h;split at h
 ·injection h with h;injection h with h1 h2;injection h2 with h2 h3;simp only [Bool.and_eq_true,decide_eq_true_eq] at h1;exact⟨rfl,h1.1,h1.2,h2.symm,h3.symm⟩
 ·cases h
def YP (m:List Ed):List Bool:=List.replicate (2*m.length) true
theorem aCY (m:List Ed):(YP m).length=2*m.length:=List.length_replicate
def fI (l:List Pt)(m:List Ed)(c1 c2:Nat)(n:Int)(s:Value)(F:Int)(K:Bool):Heap:=(5,.cells true false 1 [s,iv F,.bool K])::(4,.cells true false 1 (flat fU.fl (YP m)))::(3,.cells true false 1 [.slice none 0 0,iv 0,.bool false])::(2,aX l.length m.length c1 c2 n)::aB aQ aU l m
def K0 (m:List Ed)(j:Int):List (Nat × Value):=[(1,.pointer (some ⟨2,0,none⟩)),(2,.pointer (some ⟨3,0,none⟩)),(3,.slice (some ⟨4,0,none⟩) (YP m).length (YP m).length),(4,.pointer (some ⟨5,0,none⟩)),(5,iv j)]
def jC (m:List Ed)(O j:Int):List (Nat × Value):=[(1,.pointer (some ⟨2,0,none⟩)),(2,.pointer (some ⟨3,0,none⟩)),(3,.slice (some ⟨4,0,none⟩) (YP m).length (YP m).length),(4,.pointer (some ⟨5,0,none⟩)),(6,iv O),(7,iv j)]
def kO (m:List Ed)(w:List Int)(O j c i:Int):List (Nat × Value):=(8,.slice (some ⟨7,0,none⟩) w.length w.length)::(10,iv c)::(11,iv i)::jC m O j
def Y1:Nat × XF:=(158,mYX aQ aU aO fcS)
theorem aIC:cO Go.Proofs.Tryz.prog Y1.1 Y1.2:=aAj aQ aU aO (aL (xl:=[aFF,aAm,X90]) (.cons aKo (.cons aIS (.cons x90 .nil)))) fun l m n r out rest hs=>by
 obtain⟨rfl,hM,h1m,rfl,rfl⟩:=aCr hs;clear hs;refine⟨rfl,rfl,fun c1 c2=>?_⟩;have hm:m.length≤1000:=(by simp only [kK,Bool.and_eq_true,decide_eq_true_eq] at hM;exact hM.1.2);(conv=>whnf);refine⟨_,_,_,[],l,m,rfl,aI aQ rfl,aI aU rfl,?_⟩;((conv=>whnf);refine bm (fun h1=>?_) (fun h1=>?_))
 ·(conv=>whnf)
  refine⟨fun q e h nx=>∃ (i:Nat) (j:Int),j=i∧i≤2*m.length∧q=2*m.length - i∧e=K0 m j ∧
   ((i=0∧h=fI l m c1 c2 n (.slice none 0 0) 0 true∧nx=6)∨(0<i∧h=(6,.cells true false 1 (flat aO.fl (List.replicate i (-1))))::fI l m c1 c2 n (.slice (some ⟨6,0,none⟩) i i) 0 true∧nx=7)),⟨2*m.length,?_⟩,?_⟩
  ·refine aK (e0:=K0 m 0) (h0:=fI l m c1 c2 n (.slice none 0 0) 0 true) (n0:=6) ⟨0,0,rfl,Nat.zero_le _,rfl,rfl,.inl ⟨rfl,rfl,rfl⟩⟩ ?_ ?_ (by decide)
   ·unfold K0;((repeat' refine iE rfl rfl ?_);exact iN)
   ·unfold fI aX aB;((repeat'(first|refine iF rfl rfl ?_|refine iC rfl rfl rfl ?_|refine iJ rfl rfl rfl rfl ?_));exact iN)
  ·rintro q e h nx ⟨i,j,hj,hi,rfl,rfl,⟨hi0,rfl,rfl⟩|⟨hip,rfl,rfl⟩⟩
   ·subst hi0;unfold K0 fI aX aB;((conv=>whnf);refine bm (fun h2=>?_) (fun h2=>?_))
    ·((conv=>whnf);refine bm (fun h3=>?_) (fun h3=>?_))
     ·((conv=>whnf);refine bm (fun h4=>?_) (fun h4=>?_))
      ·(conv=>whnf);refine⟨2*m.length - 1,by omega,?_⟩;refine iY (e0:=K0 m (j+1)) (h0:=(6,.cells true false 1 (flat aO.fl [-1]))::fI l m c1 c2 n (.slice (some ⟨6,0,none⟩) 1 1) 0 true) (n0:=7) 6 7 (by decide) (by decide) ⟨1,j+1,by omega,by omega,rfl,rfl,.inr ⟨Nat.one_pos,rfl,rfl⟩⟩ ?_ ?_ ?_
       ·unfold K0;((repeat' refine iE rfl rfl ?_);exact iN)
       ·unfold fI aX aB;((repeat'(first|refine iF rfl rfl ?_|refine iC rfl rfl rfl ?_|refine iJ rfl rfl rfl rfl ?_));exact iN)
       ·unfold fI aB;((repeat' refine iK rfl ?_);exact iN)
      ·exfalso;simp [aA,aC,aH] at h4;omega
     ·exfalso;simp [aA,aC] at h3;omega
    ·exfalso;simp [aA,aC,aH] at h2;omega
   ·unfold K0 fI aX aB;((conv=>whnf);refine bm (fun h2=>?_) (fun h2=>?_))
    ·((conv=>whnf);refine bm (fun h3=>?_) (fun h3=>?_))
     ·have hlt:i<2*m.length:=(by simp [aA,aC] at h3;omega);have hll:(flat aO.fl (List.replicate i (-1))).length=i:=(by rw [bE,List.length_replicate];exact Nat.mul_one _);((conv=>whnf);refine bm (fun h4=>?_) (fun h4=>?_))
      ·exfalso;have:=Nat.le_of_ble_eq_true h4;omega
      ·((conv=>whnf);refine bm (fun h5=>?_) (fun h5=>?_))
       ·((conv=>whnf);refine bm (fun h6=>?_) (fun h6=>?_))
        ·(conv=>whnf);refine⟨2*m.length - (i+1),by omega,?_⟩
         refine iY (e0:=K0 m (j+1)) (h0:=(6,.cells true false 1 (flat aO.fl (List.replicate i (-1)++[-1])))::fI l m c1 c2 n (.slice (some ⟨6,0,none⟩) (i+1) (i+1)) 0 true) (n0:=7) 6 8 (by decide) (by decide)
          ⟨i+1,j+1,by omega,by omega,rfl,rfl,.inr ⟨Nat.succ_pos _,by rw [List.replicate_succ'];rfl,rfl⟩⟩ ?_ ?_ ?_
         ·unfold K0;((repeat' refine iE rfl rfl ?_);exact iN)
         ·unfold fI aX aB;((repeat'(first|refine iW rfl rfl (aW (aF aO _) (c9 aO (List.replicate i (-1)) (-1) (by rw [List.length_replicate]))) ?_|refine iF rfl rfl ?_|refine iC rfl rfl rfl ?_|refine iJ rfl rfl rfl rfl ?_));exact iN)
         ·unfold fI aB;((repeat' refine iK rfl ?_);exact iN)
        ·exfalso;simp [aA,aC,aH] at h6;omega
       ·exact m7 (s:=1) (by omega) (by omega) h5
     ·have hge:i=2*m.length:=(by simp [aA,aC] at h3;omega);subst hge;(conv=>whnf)
      refine⟨fun q e h nx=>∃ (i:Nat) (j:Int),j=i∧i≤2*m.length∧q=2*m.length - i∧e=jC m (jR l m i).outside j ∧
       h=(6,.cells true false 1 (flat aO.fl (jR l m i).of))::fI l m c1 c2 n (.slice (some ⟨6,0,none⟩) (2*m.length) (2*m.length)) (jR l m i).faces (jR l m i).ok∧nx=7,⟨2*m.length,?_⟩,?_⟩
      ·refine aK (e0:=jC m 0 0) (h0:=(6,.cells true false 1 (flat aO.fl (List.replicate (2*m.length) (-1))))::fI l m c1 c2 n (.slice (some ⟨6,0,none⟩) (2*m.length) (2*m.length)) 0 true) (n0:=7) ⟨0,0,rfl,Nat.zero_le _,rfl,rfl,rfl,rfl⟩ ?_ ?_ (by decide)
       ·unfold jC;((repeat' refine iE rfl rfl ?_);exact iN)
       ·unfold fI aX aB;((repeat'(first|refine iF rfl rfl ?_|refine iC rfl rfl rfl ?_|refine iJ rfl rfl rfl rfl ?_));exact iN)
      ·clear h2 h3 hj hi hip h1;rintro q e h nx ⟨i,j,hj,hi,rfl,rfl,rfl,rfl⟩;have low:=H7 l m i;have len:=tS l m i;have nxt:jR l m (i+1)=oW l m (jR l m i) i:=rfl;generalize hst:jR l m i=st at low len nxt;unfold jC fI aX aB;((conv=>whnf);refine bm (fun h2=>?_) (fun h2=>?_))
       ·((conv=>whnf);refine bm (fun h3=>?_) (fun h3=>?_))
        ·have hlt:i<2*m.length:=(by simp [aA,aC] at h3;omega);have hdj:pF m j=true:=(by simp only [pF,Bool.and_eq_true,decide_eq_true_eq];omega);((conv=>whnf);refine bm (fun h4=>?_) (fun h4=>?_))
         ·(conv=>whnf);refine iB (fN st.of (i:=i) (by omega) ?_) ?_
          ·show _+Int.toNat j*1=_;omega
          ((conv=>whnf);refine bm (fun h5=>?_) (fun h5=>?_))
          ·have h5:0≤aM st.of i:=(by simpa [aA,aC] using h5);((conv=>whnf);refine bm (fun h6=>?_) (fun h6=>?_))
           ·(conv=>whnf);refine⟨2*m.length - (i+1),by omega,?_⟩;refine aK (e0:=jC m st.outside (j+1)) (h0:=(6,.cells true false 1 (flat aO.fl st.of))::fI l m c1 c2 n (.slice (some ⟨6,0,none⟩) (2*m.length) (2*m.length)) st.faces st.ok) (n0:=7) ⟨i+1,j+1,by omega,by omega,rfl,?_,?_,rfl⟩ ?_ ?_ (by decide)
            ·rw [nxt];unfold oW;rw [if_pos h5];rfl
            ·rw [nxt];unfold oW;rw [if_pos h5];rfl
            ·unfold jC;((repeat' refine iE rfl rfl ?_);exact iN)
            ·unfold fI aX aB;((repeat'(first|refine iF rfl rfl ?_|refine iC rfl rfl rfl ?_|refine iJ rfl rfl rfl rfl ?_));exact iN)
           ·exfalso;simp [aA,aC,aH] at h6;omega
          ·have h5:¬ 0≤aM st.of i:=(by simpa [aA,aC] using h5);(conv=>whnf);refine⟨_,_,_,[iv j],_,l,m,YP m,rfl,aI aQ rfl,aI aU rfl,aI fU rfl,?_⟩;((conv=>whnf);refine bm (fun h6=>?_) (fun h6=>?_))
           ·obtain⟨w,hw⟩:∃ w,w=kG l m (YP m) j:=⟨_,rfl⟩;have hwl:=QI l m (YP m) j;have hwp:=RY l m (YP m) j;have hwi:=WZ (l:=l) (k:=YP m) hm hdj;rw [← hw] at hwl hwp hwi;have hj':kG l m (List.replicate (2*m.length) true) i=w:=(by rw [hw,hj];rfl);rw [← hw];(conv=>whnf);refine⟨_,_,_,[],_,l,m,w,rfl,aI aQ rfl,aI aU rfl,aI aO rfl,?_⟩;((conv=>whnf);refine bm (fun h7=>?_) (fun h7=>?_))
            ·obtain⟨a,ha⟩:∃ a,a=mE l m w w.length:=⟨_,rfl⟩;rw [← ha];have hstep:oW l m st i=⟨dQ st.of w (if 0<a then st.faces+1 else 0) w.length,if 0<a then st.faces+1 else st.faces,if a<0 then st.outside+1 else st.outside,if a=0 then false else st.ok⟩:=by
              unfold oW;rw [if_neg h5];simp only [hj',← ha]
             ((conv=>whnf);refine bm (fun g1=>?_) (fun g1=>?_))
             ·have g1:0<a:=(by simpa [aA,aC] using g1);rw [if_pos g1,if_pos g1,if_neg (by omega),if_neg (by omega)] at hstep;((conv=>whnf);refine bm (fun g2=>?_) (fun g2=>?_))
              ·((conv=>whnf);refine bm (fun g3=>?_) (fun g3=>?_))
               ·exfalso;have:a<0:=(by simpa [aA,aC] using g3);omega
               ·((conv=>whnf);refine bm (fun g4=>?_) (fun g4=>?_))
                ·exfalso;have:a=0:=(by simpa [aA,aC] using g4);omega
                ·(conv=>whnf)
                 refine⟨fun q e h nx=>∃ (t:Nat) (z:Int),z=t∧t≤w.length∧q=w.length - t∧e=kO m w (st.outside) j (st.faces+1) z ∧
                  h=(7,.cells true false 1 (flat aO.fl w))::(6,.cells true false 1 (flat aO.fl (dQ st.of w (st.faces+1) t)))::fI l m c1 c2 n (.slice (some ⟨6,0,none⟩) (2*m.length) (2*m.length)) (st.faces+1) (st.ok)∧nx=8,⟨w.length,?_⟩,?_⟩
                 ·refine aK (e0:=kO m w (st.outside) j (st.faces+1) 0) (h0:=(7,.cells true false 1 (flat aO.fl w))::(6,.cells true false 1 (flat aO.fl st.of))::fI l m c1 c2 n (.slice (some ⟨6,0,none⟩) (2*m.length) (2*m.length)) (st.faces+1) (st.ok)) (n0:=8) ⟨0,0,rfl,Nat.zero_le _,rfl,rfl,rfl,rfl⟩ ?_ ?_ (by decide)
                  ·unfold kO jC;((repeat' refine iE rfl rfl ?_);exact iN)
                  ·unfold fI aX aB;((repeat'(first|refine iF rfl rfl ?_|refine iC rfl rfl rfl ?_|refine iJ rfl rfl rfl rfl ?_));exact iN)
                 ·rintro q e h nx ⟨t,z,hz,ht,rfl,rfl,rfl,rfl⟩;have sl:=eX st.of w (st.faces+1) t;unfold kO jC fI aX aB;((conv=>whnf);refine bm (fun k1=>?_) (fun k1=>?_))
                  ·have htl:t<w.length:=(by simp [aA,aC] at k1;omega);have hdt:=yD hwi htl;simp only [pF,Bool.and_eq_true,decide_eq_true_eq] at hdt;((conv=>whnf);refine bm (fun k2=>?_) (fun k2=>?_))
                   ·(conv=>whnf);refine iB (fN w (i:=t) htl ?_) ?_
                    ·show _+Int.toNat z*1=_;omega
                    ((conv=>whnf);refine bm (fun k3=>?_) (fun k3=>?_))
                    ·((conv=>whnf);refine bm (fun k4=>?_) (fun k4=>?_))
                     ·((conv=>whnf);refine bm (fun k5=>?_) (fun k5=>?_))
                      ·(conv=>whnf);refine⟨w.length - (t+1),by omega,?_⟩;refine aK (e0:=kO m w (st.outside) j (st.faces+1) (z+1)) (h0:=(7,.cells true false 1 (flat aO.fl w))::(6,.cells true false 1 (flat aO.fl (dQ st.of w (st.faces+1) (t+1))))::fI l m c1 c2 n (.slice (some ⟨6,0,none⟩) (2*m.length) (2*m.length)) (st.faces+1) (st.ok)) (n0:=8) ⟨t+1,z+1,by omega,by omega,rfl,rfl,rfl,rfl⟩ ?_ ?_ (by decide)
                       ·unfold kO jC;((repeat' refine iE rfl rfl ?_);exact iN)
                       ·unfold fI aX aB;have bO:=qG (of:=st.of) (w:=w) (c:=st.faces+1) (t:=t) (o:=0+(aM w t).toNat*1) (by omega) (by omega);((repeat'(first|refine iW rfl rfl (aW (aF aO _) bO) ?_|refine iF rfl rfl ?_|refine iC rfl rfl rfl ?_|refine iJ rfl rfl rfl rfl ?_));exact iN)
                      ·exfalso;simp [aA,aC,aH] at k5;omega
                     ·exfalso;have hfl:(flat aO.fl (dQ st.of w (st.faces+1) t)).length=2*m.length:=(by rw [bE,sl,len];exact Nat.mul_one _);rw [hfl] at k4;have k4:(0+(aM w t).toNat*1+1).ble (2*m.length)=false:=k4;have:=Nat.ble_eq_true_of_le (show 0+(aM w t).toNat*1+1≤2*m.length by omega);rw [this] at k4;cases k4
                    ·exfalso;simp [aA,aC] at k3;omega
                   ·exfalso;simp [aA,aC] at k2;omega
                  ·have hgt:t=w.length:=(by simp [aA,aC] at k1;omega);subst hgt;((conv=>whnf);refine bm (fun k2=>?_) (fun k2=>?_))
                   ·(conv=>whnf);refine⟨2*m.length - (i+1),by omega,?_⟩;refine aK (e0:=jC m (st.outside) (j+1)) (h0:=(6,.cells true false 1 (flat aO.fl (dQ st.of w (st.faces+1) w.length)))::fI l m c1 c2 n (.slice (some ⟨6,0,none⟩) (2*m.length) (2*m.length)) (st.faces+1) (st.ok)) (n0:=7) ⟨i+1,j+1,by omega,by omega,rfl,by rw [nxt,hstep];rfl,by rw [nxt,hstep];rfl,rfl⟩ ?_ ?_ (by decide)
                    ·unfold jC;((repeat' refine iE rfl rfl ?_);exact iN)
                    ·unfold fI aX aB;((repeat'(first|refine iF rfl rfl ?_|refine iC rfl rfl rfl ?_|refine iJ rfl rfl rfl rfl ?_));exact iN)
                   ·exfalso;simp [aA,aC,aH] at k2;omega
              ·exfalso;simp [aA,aC,aH] at g2;omega
             ·have g1:¬ 0<a:=(by simpa [aA,aC] using g1);rw [if_neg g1,if_neg g1] at hstep;((conv=>whnf);refine bm (fun g3=>?_) (fun g3=>?_))
              ·have g3:a<0:=(by simpa [aA,aC] using g3);rw [if_pos g3,if_neg (by omega)] at hstep;((conv=>whnf);refine bm (fun g2=>?_) (fun g2=>?_))
               ·((conv=>whnf);refine bm (fun g4=>?_) (fun g4=>?_))
                ·exfalso;have:a=0:=(by simpa [aA,aC] using g4);omega
                ·(conv=>whnf)
                 refine⟨fun q e h nx=>∃ (t:Nat) (z:Int),z=t∧t≤w.length∧q=w.length - t∧e=kO m w (st.outside+1) j (0) z ∧
                  h=(7,.cells true false 1 (flat aO.fl w))::(6,.cells true false 1 (flat aO.fl (dQ st.of w (0) t)))::fI l m c1 c2 n (.slice (some ⟨6,0,none⟩) (2*m.length) (2*m.length)) (st.faces) (st.ok)∧nx=8,⟨w.length,?_⟩,?_⟩
                 ·refine aK (e0:=kO m w (st.outside+1) j (0) 0) (h0:=(7,.cells true false 1 (flat aO.fl w))::(6,.cells true false 1 (flat aO.fl st.of))::fI l m c1 c2 n (.slice (some ⟨6,0,none⟩) (2*m.length) (2*m.length)) (st.faces) (st.ok)) (n0:=8) ⟨0,0,rfl,Nat.zero_le _,rfl,rfl,rfl,rfl⟩ ?_ ?_ (by decide)
                  ·unfold kO jC;((repeat' refine iE rfl rfl ?_);exact iN)
                  ·unfold fI aX aB;((repeat'(first|refine iF rfl rfl ?_|refine iC rfl rfl rfl ?_|refine iJ rfl rfl rfl rfl ?_));exact iN)
                 ·rintro q e h nx ⟨t,z,hz,ht,rfl,rfl,rfl,rfl⟩;have sl:=eX st.of w (0) t;unfold kO jC fI aX aB;((conv=>whnf);refine bm (fun k1=>?_) (fun k1=>?_))
                  ·have htl:t<w.length:=(by simp [aA,aC] at k1;omega);have hdt:=yD hwi htl;simp only [pF,Bool.and_eq_true,decide_eq_true_eq] at hdt;((conv=>whnf);refine bm (fun k2=>?_) (fun k2=>?_))
                   ·(conv=>whnf);refine iB (fN w (i:=t) htl ?_) ?_
                    ·show _+Int.toNat z*1=_;omega
                    ((conv=>whnf);refine bm (fun k3=>?_) (fun k3=>?_))
                    ·((conv=>whnf);refine bm (fun k4=>?_) (fun k4=>?_))
                     ·((conv=>whnf);refine bm (fun k5=>?_) (fun k5=>?_))
                      ·(conv=>whnf);refine⟨w.length - (t+1),by omega,?_⟩;refine aK (e0:=kO m w (st.outside+1) j (0) (z+1)) (h0:=(7,.cells true false 1 (flat aO.fl w))::(6,.cells true false 1 (flat aO.fl (dQ st.of w (0) (t+1))))::fI l m c1 c2 n (.slice (some ⟨6,0,none⟩) (2*m.length) (2*m.length)) (st.faces) (st.ok)) (n0:=8) ⟨t+1,z+1,by omega,by omega,rfl,rfl,rfl,rfl⟩ ?_ ?_ (by decide)
                       ·unfold kO jC;((repeat' refine iE rfl rfl ?_);exact iN)
                       ·unfold fI aX aB;have bO:=qG (of:=st.of) (w:=w) (c:=0) (t:=t) (o:=0+(aM w t).toNat*1) (by omega) (by omega);((repeat'(first|refine iW rfl rfl (aW (aF aO _) bO) ?_|refine iF rfl rfl ?_|refine iC rfl rfl rfl ?_|refine iJ rfl rfl rfl rfl ?_));exact iN)
                      ·exfalso;simp [aA,aC,aH] at k5;omega
                     ·exfalso;have hfl:(flat aO.fl (dQ st.of w (0) t)).length=2*m.length:=(by rw [bE,sl,len];exact Nat.mul_one _);rw [hfl] at k4;have k4:(0+(aM w t).toNat*1+1).ble (2*m.length)=false:=k4;have:=Nat.ble_eq_true_of_le (show 0+(aM w t).toNat*1+1≤2*m.length by omega);rw [this] at k4;cases k4
                    ·exfalso;simp [aA,aC] at k3;omega
                   ·exfalso;simp [aA,aC] at k2;omega
                  ·have hgt:t=w.length:=(by simp [aA,aC] at k1;omega);subst hgt;((conv=>whnf);refine bm (fun k2=>?_) (fun k2=>?_))
                   ·(conv=>whnf);refine⟨2*m.length - (i+1),by omega,?_⟩;refine aK (e0:=jC m (st.outside+1) (j+1)) (h0:=(6,.cells true false 1 (flat aO.fl (dQ st.of w (0) w.length)))::fI l m c1 c2 n (.slice (some ⟨6,0,none⟩) (2*m.length) (2*m.length)) (st.faces) (st.ok)) (n0:=7) ⟨i+1,j+1,by omega,by omega,rfl,by rw [nxt,hstep];rfl,by rw [nxt,hstep];rfl,rfl⟩ ?_ ?_ (by decide)
                    ·unfold jC;((repeat' refine iE rfl rfl ?_);exact iN)
                    ·unfold fI aX aB;((repeat'(first|refine iF rfl rfl ?_|refine iC rfl rfl rfl ?_|refine iJ rfl rfl rfl rfl ?_));exact iN)
                   ·exfalso;simp [aA,aC,aH] at k2;omega
               ·exfalso;simp [aA,aC,aH] at g2;omega
              ·have g3:¬ a<0:=(by simpa [aA,aC] using g3);rw [if_neg g3,if_pos (by omega)] at hstep;((conv=>whnf);refine bm (fun g4=>?_) (fun g4=>?_))
               ·(conv=>whnf)
                refine⟨fun q e h nx=>∃ (t:Nat) (z:Int),z=t∧t≤w.length∧q=w.length - t∧e=kO m w (st.outside) j (0) z ∧
                 h=(7,.cells true false 1 (flat aO.fl w))::(6,.cells true false 1 (flat aO.fl (dQ st.of w (0) t)))::fI l m c1 c2 n (.slice (some ⟨6,0,none⟩) (2*m.length) (2*m.length)) (st.faces) (false)∧nx=8,⟨w.length,?_⟩,?_⟩
                ·refine aK (e0:=kO m w (st.outside) j (0) 0) (h0:=(7,.cells true false 1 (flat aO.fl w))::(6,.cells true false 1 (flat aO.fl st.of))::fI l m c1 c2 n (.slice (some ⟨6,0,none⟩) (2*m.length) (2*m.length)) (st.faces) (false)) (n0:=8) ⟨0,0,rfl,Nat.zero_le _,rfl,rfl,rfl,rfl⟩ ?_ ?_ (by decide)
                 ·unfold kO jC;((repeat' refine iE rfl rfl ?_);exact iN)
                 ·unfold fI aX aB;((repeat'(first|refine iF rfl rfl ?_|refine iC rfl rfl rfl ?_|refine iJ rfl rfl rfl rfl ?_));exact iN)
                ·rintro q e h nx ⟨t,z,hz,ht,rfl,rfl,rfl,rfl⟩;have sl:=eX st.of w (0) t;unfold kO jC fI aX aB;((conv=>whnf);refine bm (fun k1=>?_) (fun k1=>?_))
                 ·have htl:t<w.length:=(by simp [aA,aC] at k1;omega);have hdt:=yD hwi htl;simp only [pF,Bool.and_eq_true,decide_eq_true_eq] at hdt;((conv=>whnf);refine bm (fun k2=>?_) (fun k2=>?_))
                  ·(conv=>whnf);refine iB (fN w (i:=t) htl ?_) ?_
                   ·show _+Int.toNat z*1=_;omega
                   ((conv=>whnf);refine bm (fun k3=>?_) (fun k3=>?_))
                   ·((conv=>whnf);refine bm (fun k4=>?_) (fun k4=>?_))
                    ·((conv=>whnf);refine bm (fun k5=>?_) (fun k5=>?_))
                     ·(conv=>whnf);refine⟨w.length - (t+1),by omega,?_⟩;refine aK (e0:=kO m w (st.outside) j (0) (z+1)) (h0:=(7,.cells true false 1 (flat aO.fl w))::(6,.cells true false 1 (flat aO.fl (dQ st.of w (0) (t+1))))::fI l m c1 c2 n (.slice (some ⟨6,0,none⟩) (2*m.length) (2*m.length)) (st.faces) (false)) (n0:=8) ⟨t+1,z+1,by omega,by omega,rfl,rfl,rfl,rfl⟩ ?_ ?_ (by decide)
                      ·unfold kO jC;((repeat' refine iE rfl rfl ?_);exact iN)
                      ·unfold fI aX aB;have bO:=qG (of:=st.of) (w:=w) (c:=0) (t:=t) (o:=0+(aM w t).toNat*1) (by omega) (by omega);((repeat'(first|refine iW rfl rfl (aW (aF aO _) bO) ?_|refine iF rfl rfl ?_|refine iC rfl rfl rfl ?_|refine iJ rfl rfl rfl rfl ?_));exact iN)
                     ·exfalso;simp [aA,aC,aH] at k5;omega
                    ·exfalso;have hfl:(flat aO.fl (dQ st.of w (0) t)).length=2*m.length:=(by rw [bE,sl,len];exact Nat.mul_one _);rw [hfl] at k4;have k4:(0+(aM w t).toNat*1+1).ble (2*m.length)=false:=k4;have:=Nat.ble_eq_true_of_le (show 0+(aM w t).toNat*1+1≤2*m.length by omega);rw [this] at k4;cases k4
                   ·exfalso;simp [aA,aC] at k3;omega
                  ·exfalso;simp [aA,aC] at k2;omega
                 ·have hgt:t=w.length:=(by simp [aA,aC] at k1;omega);subst hgt;((conv=>whnf);refine bm (fun k2=>?_) (fun k2=>?_))
                  ·(conv=>whnf);refine⟨2*m.length - (i+1),by omega,?_⟩;refine aK (e0:=jC m (st.outside) (j+1)) (h0:=(6,.cells true false 1 (flat aO.fl (dQ st.of w (0) w.length)))::fI l m c1 c2 n (.slice (some ⟨6,0,none⟩) (2*m.length) (2*m.length)) (st.faces) (false)) (n0:=7) ⟨i+1,j+1,by omega,by omega,rfl,by rw [nxt,hstep];rfl,by rw [nxt,hstep];rfl,rfl⟩ ?_ ?_ (by decide)
                   ·unfold jC;((repeat' refine iE rfl rfl ?_);exact iN)
                   ·unfold fI aX aB;((repeat'(first|refine iF rfl rfl ?_|refine iC rfl rfl rfl ?_|refine iJ rfl rfl rfl rfl ?_));exact iN)
                  ·exfalso;simp [aA,aC,aH] at k2;omega
               ·exfalso;have:¬ a=0:=(by simpa [aA,aC] using g4);omega
            ·exfalso;have h7:(kK l m&&QY m w&&decide (w.length≤10000))=false:=h7;rw [hM,hwi,decide_eq_true (show w.length≤10000 by omega)] at h7;cases h7
           ·exfalso;have h6:(kK l m&&pF m j&&decide ((YP m).length=2*m.length))=false:=h6;rw [hM,hdj,decide_eq_true (aCY m)] at h6;cases h6
         ·exfalso;simp [aA,aC] at h4;omega
        ·have hge:i=2*m.length:=(by simp [aA,aC] at h3;omega);have hfin:eN l m=st:=(by rw [← hst,hge];rfl);rw [hfin]
         repeat' ((conv=>whnf);refine bm (fun g1=>?_) (fun g1=>?_))
         all_goals (conv=>whnf)
         all_goals refine⟨6,?_,rfl⟩
         all_goals (show Value.agg _=Value.agg _)
         all_goals rw [len]
         all_goals (simp [aA,aC] at *)
         all_goals simp [K2, *]
       ·exfalso;simp [aA,aC,aH] at h2;omega
    ·exfalso;simp [aA,aC,aH] at h2;omega
 ·exfalso;have h1:(decide (1≤m.length)&&decide (m.length≤1000))=false:=h1;rw [decide_eq_true h1m,decide_eq_true hm] at h1;cases h1
theorem xS (l:List Bool):∀ (i:Nat) (v:Bool),i<l.length→dJ (flat fU.fl l) (i*1) [.bool v]=flat fU.fl (l.set i v):=by
 induction l with
 |nil=>intro i v h;cases h
 |cons a r ih =>
  intro i v h;cases i with
  |zero=>rfl
  |succ i =>
   have:=ih i v (by simpa using h);simp only [List.set_cons_succ,flat,← this];have e:(i+1)*1=i*1+1:=(by omega);rw [e];unfold dJ;show List.take (i*1+1) (.bool a::flat fU.fl r)++_++List.drop (i*1+1+1) (.bool a::flat fU.fl r)=_;rfl
def l8 (i:Nat):List Bool:=(List.range i).map fun (t:Nat)=>decide ((t:Int)=0)
theorem sC (i:Nat):(l8 i).length=i:=by simp [l8]
theorem aHC (i:Nat):l8 (i+1)=l8 i++[decide ((i:Int)=0)]:=by
 unfold l8;rw [List.range_succ,List.map_append];rfl
def uZ (s:List Bool)(e:Ed):List Bool:=if (cU s e.a.toNat || cU s e.b.toNat)=true then (s.set e.a.toNat true).set e.b.toNat true else s
def mM (m:List Ed)(s:List Bool):Nat→List Bool
 |0=>s
 |i+1=>uZ (mM m s i) (cC m i)
def dO (l:List Pt)(m:List Ed):Nat→List Bool
 |0=>l8 l.length
 |i+1=>mM m (dO l m i) m.length
def L4 (l:List Pt)(m:List Ed):Bool:=(dO l m l.length).all id
theorem aBh (s:List Bool)(e:Ed):(uZ s e).length=s.length:=by
 unfold uZ;split <;> simp
theorem s9 (m:List Ed)(s:List Bool):∀ i,(mM m s i).length=s.length
 |0=>rfl
 |i+1=>by unfold mM;rw [aBh];exact s9 m s i
theorem yF (l:List Pt)(m:List Ed):∀ i,(dO l m i).length=l.length
 |0=>sC _
 |i+1=>by unfold dO;rw [s9];exact yF l m i
theorem QB {s:List Bool}{a b o1 o2:Nat}(h1:o1=a*1)(h2:o2=b*1)(ha:a<s.length)(hb:b<s.length):dJ (dJ (flat fU.fl s) o1 [.bool true]) o2 [.bool true]=flat fU.fl ((s.set a true).set b true):=by
 rw [h1,h2,xS _ _ _ ha,xS _ _ _ (by rw [List.length_set];exact hb)]
theorem dI {x N:Nat}{p:Prop}(h:x.ble N=false)(hx:x≤N):p:=by
 rw [Nat.ble_eq_true_of_le hx] at h;cases h
def coS (l:List Pt)(m:List Ed)(n:Int):List Value→Option (Bool × Value)
 |[]=>some (kK l m&&decide (1≤l.length),.bool (L4 l m))
 |_=>none
theorem aCI {l:List Pt}{m:List Ed}{n:Int}{r:List Value}{v:Value}(h:coS l m n r=some (true,v)):r=[]∧kK l m=true∧1≤l.length∧v=.bool (L4 l m):=by
 unfold coS at h;split at h
 ·injection h with h;injection h with h1 h2;simp only [Bool.and_eq_true,decide_eq_true_eq] at h1;exact⟨rfl,h1.1,h1.2,h2.symm⟩
 ·cases h
def cH (l:List Pt)(m:List Ed)(c1 c2:Nat)(n:Int):Heap:=(2,aX l.length m.length c1 c2 n)::aB aQ aU l m
def bJ (l:List Pt)(m:List Ed)(c1 c2:Nat)(n:Int)(s:List Bool):Heap:=(3,.cells true false 1 (flat fU.fl s))::cH l m c1 c2 n
def HT (s:Value)(j:Int):List (Nat × Value):=[(1,.pointer (some ⟨2,0,none⟩)),(3,s),(4,iv j)]
def rN (N:Nat)(j:Int):List (Nat × Value):=[(1,.pointer (some ⟨2,0,none⟩)),(3,.slice (some ⟨3,0,none⟩) N N),(5,iv j)]
def vJ (N:Nat)(j k:Int):List (Nat × Value):=(6,iv k)::rN N j
def JG (N:Nat)(j:Int):List (Nat × Value):=[(3,.slice (some ⟨3,0,none⟩) N N),(8,iv j)]
def ZI:Nat × XF:=(157,mX aQ aU coS)
theorem aJD:cO Go.Proofs.Tryz.prog ZI.1 ZI.2:=sY aQ aU (aL (xl:=[]) .nil) fun l m n r v hs=>by
 obtain⟨rfl,hM,h1l,rfl⟩:=aCI hs;clear hs;refine⟨rfl,rfl,fun c1 c2=>?_⟩;have hm:m.length≤1000:=(by simp only [kK,Bool.and_eq_true,decide_eq_true_eq] at hM;exact hM.1.2);have hl:l.length≤1000:=(by simp only [kK,Bool.and_eq_true,decide_eq_true_eq] at hM;exact hM.2);(conv=>whnf)
 refine⟨fun q e h nx=>∃ (i:Nat) (j:Int),j=i∧i≤l.length∧q=l.length - i ∧
  ((i=0∧e=HT (.slice none 0 0) j∧h=cH l m c1 c2 n∧nx=3)∨(0<i∧e=HT (.slice (some ⟨3,0,none⟩) i i) j∧h=bJ l m c1 c2 n (l8 i)∧nx=4)),⟨l.length,?_⟩,?_⟩
 ·refine aK (e0:=HT (.slice none 0 0) 0) (h0:=cH l m c1 c2 n) (n0:=3) ⟨0,0,rfl,Nat.zero_le _,rfl,.inl ⟨rfl,rfl,rfl,rfl⟩⟩ ?_ ?_ (by decide)
  ·unfold HT;((repeat' refine iE rfl rfl ?_);exact iN)
  ·unfold cH aX aB;((repeat'(first|refine iF rfl rfl ?_|refine iC rfl rfl rfl ?_|refine iJ rfl rfl rfl rfl ?_));exact iN)
 ·rintro q e h nx ⟨i,j,hj,hi,rfl,⟨hi0,rfl,rfl,rfl⟩|⟨hip,rfl,rfl,rfl⟩⟩
  ·subst hi0;unfold HT cH aX aB;((conv=>whnf);refine bm (fun h2=>?_) (fun h2=>?_))
   ·((conv=>whnf);refine bm (fun h3=>?_) (fun h3=>?_))
    ·(conv=>whnf);refine⟨l.length - 1,by omega,?_⟩;refine iY (e0:=HT (.slice (some ⟨3,0,none⟩) 1 1) (j+1)) (h0:=bJ l m c1 c2 n [decide (j=0)]) (n0:=4) 3 4 (by decide) (by decide) ⟨1,j+1,by omega,by omega,rfl,.inr ⟨Nat.one_pos,rfl,by rw [hj];rfl,rfl⟩⟩ ?_ ?_ ?_
     ·unfold HT;((repeat' refine iE rfl rfl ?_);exact iN)
     ·unfold bJ cH aX aB;((repeat'(first|refine iF rfl rfl ?_|refine iC rfl rfl rfl ?_|refine iJ rfl rfl rfl rfl ?_));exact iN)
     ·unfold bJ cH aB;((repeat' refine iK rfl ?_);exact iN)
    ·exfalso;simp [aA,aC,aH] at h3;omega
   ·exfalso;simp [aA,aC] at h2;omega
  ·unfold HT bJ cH aX aB;((conv=>whnf);refine bm (fun h2=>?_) (fun h2=>?_))
   ·have hlt:i<l.length:=(by simp [aA,aC] at h2;omega);have hll:(flat fU.fl (l8 i)).length=i:=(by rw [bE,sC];exact Nat.mul_one _);((conv=>whnf);refine bm (fun h3=>?_) (fun h3=>?_))
    ·exfalso;have:=Nat.le_of_ble_eq_true h3;omega
    ·((conv=>whnf);refine bm (fun h4=>?_) (fun h4=>?_))
     ·((conv=>whnf);refine bm (fun h5=>?_) (fun h5=>?_))
      ·(conv=>whnf);refine⟨l.length - (i+1),by omega,?_⟩
       refine iY (e0:=HT (.slice (some ⟨3,0,none⟩) (i+1) (i+1)) (j+1)) (h0:=bJ l m c1 c2 n (l8 i++[decide (j=0)])) (n0:=4) 3 5 (by decide) (by decide)
        ⟨i+1,j+1,by omega,by omega,rfl,.inr ⟨Nat.succ_pos _,rfl,by rw [aHC,hj];rfl,rfl⟩⟩ ?_ ?_ ?_
       ·unfold HT;((repeat' refine iE rfl rfl ?_);exact iN)
       ·unfold bJ cH aX aB;((repeat'(first|refine iW rfl rfl (aW (aF fU _) (c9 fU (l8 i) (decide (j=0)) (sC i).symm)) ?_|refine iF rfl rfl ?_|refine iC rfl rfl rfl ?_|refine iJ rfl rfl rfl rfl ?_));exact iN)
       ·unfold bJ cH aB;((repeat' refine iK rfl ?_);exact iN)
      ·exfalso;simp [aA,aC,aH] at h5;omega
     ·exact m7 (s:=1) (by omega) (by omega) h4
   ·have hge:i=l.length:=(by simp [aA,aC] at h2;omega);subst hge;clear hj hi hip h2;(conv=>whnf);refine⟨fun q e h nx=>∃ (i:Nat) (j:Int),j=i∧i≤l.length∧q=l.length - i∧e=rN l.length j∧h=bJ l m c1 c2 n (dO l m i)∧nx=4,⟨l.length,?_⟩,?_⟩
    ·refine aK (e0:=rN l.length 0) (h0:=bJ l m c1 c2 n (l8 l.length)) (n0:=4) ⟨0,0,rfl,Nat.zero_le _,rfl,rfl,rfl,rfl⟩ ?_ ?_ (by decide)
     ·unfold rN;((repeat' refine iE rfl rfl ?_);exact iN)
     ·unfold bJ cH aX aB;((repeat'(first|refine iF rfl rfl ?_|refine iC rfl rfl rfl ?_|refine iJ rfl rfl rfl rfl ?_));exact iN)
    ·rintro q e h nx ⟨i,j,hj,hi,rfl,rfl,rfl,rfl⟩;have cl:=yF l m i;unfold rN bJ cH aX aB;((conv=>whnf);refine bm (fun h2=>?_) (fun h2=>?_))
     ·have hlt:i<l.length:=(by simp [aA,aC] at h2;omega);(conv=>whnf);refine⟨fun q e h nx=>∃ (t:Nat) (z:Int),z=t∧t≤m.length∧q=m.length - t∧e=vJ l.length j z∧h=bJ l m c1 c2 n (mM m (dO l m i) t)∧nx=4,⟨m.length,?_⟩,?_⟩
      ·refine aK (e0:=vJ l.length j 0) (h0:=bJ l m c1 c2 n (dO l m i)) (n0:=4) ⟨0,0,rfl,Nat.zero_le _,rfl,rfl,rfl,rfl⟩ ?_ ?_ (by decide)
       ·unfold vJ rN;((repeat' refine iE rfl rfl ?_);exact iN)
       ·unfold bJ cH aX aB;((repeat'(first|refine iF rfl rfl ?_|refine iC rfl rfl rfl ?_|refine iJ rfl rfl rfl rfl ?_));exact iN)
      ·rintro q e h nx ⟨t,z,hz,ht,rfl,rfl,rfl,rfl⟩;have rl:=s9 m (dO l m i) t;rw [cl] at rl;have nxt:mM m (dO l m i) (t+1)=uZ (mM m (dO l m i) t) (cC m t):=rfl;generalize hs0:mM m (dO l m i) t=s at rl nxt;unfold vJ rN bJ cH aX aB;((conv=>whnf);refine bm (fun h3=>?_) (fun h3=>?_))
       ·have htl:t<m.length:=(by simp [aA,aC] at h3;omega);have he:=nB hM htl;have hsl:(flat fU.fl s).length=l.length:=(by rw [bE,rl];exact Nat.mul_one _);((conv=>whnf);refine bm (fun h4=>?_) (fun h4=>?_))
        ·(conv=>whnf);refine oA (EX m (i:=t) htl ?_) ?_
         ·show _+Int.toNat z*5=_;omega
         generalize cC m t=ed at he nxt;((conv=>whnf);refine bm (fun h5=>?_) (fun h5=>?_))
         ·(conv=>whnf);refine iB (M9 s (i:=ed.a.toNat) (by omega) ?_) ?_
          ·show _+Int.toNat ed.a*1=_;omega
          have fin:∀ s',uZ s ed=s'→mM m (dO l m i) (t+1)=s':=fun s' h=>(by rw [nxt,h]);((conv=>whnf);refine bm (fun g1=>?_) (fun g1=>?_))
          ·have g1:cU s ed.a.toNat=false:=(by simpa [aA,aC] using g1);((conv=>whnf);refine bm (fun g2=>?_) (fun g2=>?_))
           ·(conv=>whnf);refine iB (M9 s (i:=ed.b.toNat) (by omega) ?_) ?_
            ·show _+Int.toNat ed.b*1=_;omega
            ((conv=>whnf);refine bm (fun g3=>?_) (fun g3=>?_))
            ·have g3:cU s ed.b.toNat=true:=g3;have hrel:uZ s ed=(s.set ed.a.toNat true).set ed.b.toNat true:=(by unfold uZ;rw [g1,g3];rfl);((conv=>whnf);refine bm (fun k1=>?_) (fun k1=>?_))
             ·((conv=>whnf);refine bm (fun k2=>?_) (fun k2=>?_))
              ·((conv=>whnf);refine bm (fun k3=>?_) (fun k3=>?_))
               ·((conv=>whnf);refine bm (fun k4=>?_) (fun k4=>?_))
                ·((conv=>whnf);refine bm (fun k5=>?_) (fun k5=>?_))
                 ·(conv=>whnf);refine⟨m.length - (t+1),by omega,?_⟩;refine aK (e0:=vJ l.length j (z+1)) (h0:=bJ l m c1 c2 n ((s.set ed.a.toNat true).set ed.b.toNat true)) (n0:=4) ⟨t+1,z+1,by omega,by omega,rfl,rfl,by rw [fin _ hrel];rfl,rfl⟩ ?_ ?_ (by decide)
                  ·unfold vJ rN;((repeat' refine iE rfl rfl ?_);exact iN)
                  ·unfold bJ cH aX aB;have bO:=QB (s:=s) (a:=ed.a.toNat) (b:=ed.b.toNat) (o1:=0+ed.a.toNat*1) (o2:=0+ed.b.toNat*1) (by omega) (by omega) (by omega) (by omega);((repeat'(first|refine iW rfl rfl (aW (aF fU _) bO) ?_|refine iF rfl rfl ?_|refine iC rfl rfl rfl ?_|refine iJ rfl rfl rfl rfl ?_));exact iN)
                 ·exfalso;simp [aA,aC,aH] at k5;omega
                ·have hpl:(dJ (flat fU.fl s) (0+ed.a.toNat*1) [.bool true]).length=l.length:=(by rw [dH (by rw [hsl];show 0+ed.a.toNat*1+1≤l.length;omega)];exact hsl);have k4:(0+ed.b.toNat*1+1).ble (dJ (flat fU.fl s) (0+ed.a.toNat*1) [.bool true]).length=false:=k4;rw [hpl] at k4;exact dI k4 (by omega)
               ·exfalso;simp [aA,aC] at k3;omega
              ·rw [hsl] at k2;exact dI k2 (by show 0+ed.a.toNat*1+1≤l.length;omega)
             ·exfalso;simp [aA,aC] at k1;omega
            ·have g3:cU s ed.b.toNat=false:=g3;have hrel:uZ s ed=s:=(by unfold uZ;rw [g1,g3];rfl);((conv=>whnf);refine bm (fun k5=>?_) (fun k5=>?_))
             ·(conv=>whnf);refine⟨m.length - (t+1),by omega,?_⟩;refine aK (e0:=vJ l.length j (z+1)) (h0:=bJ l m c1 c2 n s) (n0:=4) ⟨t+1,z+1,by omega,by omega,rfl,rfl,by rw [fin _ hrel];rfl,rfl⟩ ?_ ?_ (by decide)
              ·unfold vJ rN;((repeat' refine iE rfl rfl ?_);exact iN)
              ·unfold bJ cH aX aB;((repeat'(first|refine iF rfl rfl ?_|refine iC rfl rfl rfl ?_|refine iJ rfl rfl rfl rfl ?_));exact iN)
             ·exfalso;simp [aA,aC,aH] at k5;omega
           ·exfalso;simp [aA,aC] at g2;omega
          ·have g1:cU s ed.a.toNat=true:=(by simpa [aA,aC] using g1);have hrel:uZ s ed=(s.set ed.a.toNat true).set ed.b.toNat true:=(by unfold uZ;rw [g1];rfl);((conv=>whnf);refine bm (fun k1=>?_) (fun k1=>?_))
           ·((conv=>whnf);refine bm (fun k2=>?_) (fun k2=>?_))
            ·((conv=>whnf);refine bm (fun k3=>?_) (fun k3=>?_))
             ·((conv=>whnf);refine bm (fun k4=>?_) (fun k4=>?_))
              ·((conv=>whnf);refine bm (fun k5=>?_) (fun k5=>?_))
               ·(conv=>whnf);refine⟨m.length - (t+1),by omega,?_⟩;refine aK (e0:=vJ l.length j (z+1)) (h0:=bJ l m c1 c2 n ((s.set ed.a.toNat true).set ed.b.toNat true)) (n0:=4) ⟨t+1,z+1,by omega,by omega,rfl,rfl,by rw [fin _ hrel];rfl,rfl⟩ ?_ ?_ (by decide)
                ·unfold vJ rN;((repeat' refine iE rfl rfl ?_);exact iN)
                ·unfold bJ cH aX aB;have bO:=QB (s:=s) (a:=ed.a.toNat) (b:=ed.b.toNat) (o1:=0+ed.a.toNat*1) (o2:=0+ed.b.toNat*1) (by omega) (by omega) (by omega) (by omega);((repeat'(first|refine iW rfl rfl (aW (aF fU _) bO) ?_|refine iF rfl rfl ?_|refine iC rfl rfl rfl ?_|refine iJ rfl rfl rfl rfl ?_));exact iN)
               ·exfalso;simp [aA,aC,aH] at k5;omega
              ·have hpl:(dJ (flat fU.fl s) (0+ed.a.toNat*1) [.bool true]).length=l.length:=(by rw [dH (by rw [hsl];show 0+ed.a.toNat*1+1≤l.length;omega)];exact hsl);have k4:(0+ed.b.toNat*1+1).ble (dJ (flat fU.fl s) (0+ed.a.toNat*1) [.bool true]).length=false:=k4;rw [hpl] at k4;exact dI k4 (by omega)
             ·exfalso;simp [aA,aC] at k3;omega
            ·rw [hsl] at k2;exact dI k2 (by show 0+ed.a.toNat*1+1≤l.length;omega)
           ·exfalso;simp [aA,aC] at k1;omega
         ·exfalso;simp [aA,aC] at h5;omega
        ·exfalso;simp [aA,aC] at h4;omega
       ·have hge:t=m.length:=(by simp [aA,aC] at h3;omega);have hcn:dO l m (i+1)=s:=by
         show mM m (dO l m i) m.length=s;rw [← hge];exact hs0
        ((conv=>whnf);refine bm (fun h4=>?_) (fun h4=>?_))
        ·(conv=>whnf);refine⟨l.length - (i+1),by omega,?_⟩;refine aK (e0:=rN l.length (j+1)) (h0:=bJ l m c1 c2 n s) (n0:=4) ⟨i+1,j+1,by omega,by omega,rfl,rfl,by rw [hcn];rfl,rfl⟩ ?_ ?_ (by decide)
         ·unfold rN;((repeat' refine iE rfl rfl ?_);exact iN)
         ·unfold bJ cH aX aB;((repeat'(first|refine iF rfl rfl ?_|refine iC rfl rfl rfl ?_|refine iJ rfl rfl rfl rfl ?_));exact iN)
        ·exfalso;simp [aA,aC,aH] at h4;omega
     ·have hge:i=l.length:=(by simp [aA,aC] at h2;omega);have hcon:L4 l m=(dO l m i).all id:=(by rw [hge];rfl);generalize dO l m i=s at cl hcon;rw [hcon];clear hcon;(conv=>whnf);refine⟨fun q e h nx=>∃ (t:Nat) (z:Int),z=t∧t≤l.length∧q=l.length - t∧s.all id=(s.drop t).all id∧e=JG l.length z∧h=bJ l m c1 c2 n s∧nx=4,⟨l.length,?_⟩,?_⟩
      ·refine aK (e0:=JG l.length 0) (h0:=bJ l m c1 c2 n s) (n0:=4) ⟨0,0,rfl,Nat.zero_le _,rfl,rfl,rfl,rfl,rfl⟩ ?_ ?_ (by decide)
       ·unfold JG;((repeat' refine iE rfl rfl ?_);exact iN)
       ·unfold bJ cH aX aB;((repeat'(first|refine iF rfl rfl ?_|refine iC rfl rfl rfl ?_|refine iJ rfl rfl rfl rfl ?_));exact iN)
      ·rintro q e h nx ⟨t,z,hz,ht,rfl,hall,rfl,rfl,rfl⟩;unfold JG bJ cH aX aB;((conv=>whnf);refine bm (fun h3=>?_) (fun h3=>?_))
       ·have htl:t<l.length:=(by simp [aA,aC] at h3;omega);have hd:s.drop t=cU s t::s.drop (t+1):=(by rw [qL (by omega)];exact List.drop_eq_getElem_cons (by omega));rw [hd,List.all_cons] at hall;((conv=>whnf);refine bm (fun h4=>?_) (fun h4=>?_))
        ·(conv=>whnf);refine iB (M9 s (i:=t) (by omega) ?_) ?_
         ·show _+Int.toNat z*1=_;omega
         ((conv=>whnf);refine bm (fun h5=>?_) (fun h5=>?_))
         ·have h5:cU s t=false:=(by simpa [aA,aC] using h5);(conv=>whnf);rw [hall,h5];rfl
         ·have h5:cU s t=true:=(by simpa [aA,aC] using h5);((conv=>whnf);refine bm (fun h6=>?_) (fun h6=>?_))
          ·(conv=>whnf);refine⟨l.length - (t+1),by omega,?_⟩;refine aK (e0:=JG l.length (z+1)) (h0:=bJ l m c1 c2 n s) (n0:=4) ⟨t+1,z+1,by omega,by omega,rfl,by rw [hall,h5];rfl,rfl,rfl,rfl⟩ ?_ ?_ (by decide)
           ·unfold JG;((repeat' refine iE rfl rfl ?_);exact iN)
           ·unfold bJ cH aX aB;((repeat'(first|refine iF rfl rfl ?_|refine iC rfl rfl rfl ?_|refine iJ rfl rfl rfl rfl ?_));exact iN)
          ·exfalso;simp [aA,aC,aH] at h6;omega
        ·exfalso;simp [aA,aC] at h4;omega
       ·have hgt:t=l.length:=(by simp [aA,aC] at h3;omega);(conv=>whnf);rw [hall,hgt,List.drop_eq_nil_of_le (by omega)];rfl
end Go.Aw
end
