/-
  Parts of a proof. No condition.
-/
import Derived.Test.YtjahkcbdecgbhaaGreatQAs
set_option linter.unusedSimpArgs false
set_option linter.unusedVariables false
noncomputable section
namespace Go.Aw
set_option maxRecDepth 100000
theorem EG (l:List Int):∀ (i:Nat) (v:Int),i<l.length→c8 (flat aN.fl l) (i*1) [iv v]=flat aN.fl (l.set i v):=by
 induction l with
 |nil=>intro i v h;cases h
 |cons a r ih =>
  intro i v h;cases i with
  |zero=>rfl
  |succ i =>
   have:=ih i v (by simpa using h);simp only [List.set_cons_succ,flat,← this];have e:(i+1)*1=i*1+1:=(by omega);rw [e];unfold c8;show List.take (i*1+1) (iv a::flat aN.fl r)++_++List.drop (i*1+1+1) (iv a::flat aN.fl r)=_;rfl
theorem qN {of w:List Int}{c:Int}{t o:Nat}(ho:o=(aK w t).toNat*1)(hi:(aK w t).toNat<of.length):c8 (flat aN.fl (dN of w c t)) o [iv c]=flat aN.fl (dN of w c (t+1)):=by
 rw [ho,EG _ _ _ (by rw [fE];exact hi)];rfl
def fcS (l:List Pt)(m:List Ed)(n:Int):List Value→YS Int
 |[]=>some (oG l m&&decide (1≤m.length),(eR l m).of,[iv (eR l m).faces,.bool (MM (eR l m))])
 |_=>none
theorem aDw {l:List Pt}{m:List Ed}{n:Int}{r:List Value}{out:List Int}{rest:List Value}(h:fcS l m n r=some (true,out,rest)):r=[]∧oG l m=true∧1≤m.length∧out=(eR l m).of∧rest=[iv (eR l m).faces,.bool (MM (eR l m))]:=by
 unfold fcS at h;split at h
 ·injection h with h;injection h with h1 h2;injection h2 with h2 h3;simp only [Bool.and_eq_true,decide_eq_true_eq] at h1;exact⟨rfl,h1.1,h1.2,h2.symm,h3.symm⟩
 ·cases h
def tru (m:List Ed):List Bool:=List.replicate (2*m.length) true
theorem aEu (m:List Ed):(tru m).length=2*m.length:=List.length_replicate
def fY (l:List Pt)(m:List Ed)(c1 c2:Nat)(n:Int)(s:Value)(F:Int)(K:Bool):Heap:=(5,.cells true false 1 [s,iv F,.bool K])::(4,.cells true false 1 (flat eH.fl (tru m)))::(3,.cells true false 1 [.slice none 0 0,iv 0,.bool false])::(2,aY l.length m.length c1 c2 n)::aD aP aS l m
def MJ (m:List Ed)(j:Int):List (Nat × Value):=[(1,.pointer (some ⟨2,0,none⟩)),(2,.pointer (some ⟨3,0,none⟩)),(3,.slice (some ⟨4,0,none⟩) (tru m).length (tru m).length),(4,.pointer (some ⟨5,0,none⟩)),(5,iv j)]
def jN (m:List Ed)(O j:Int):List (Nat × Value):=[(1,.pointer (some ⟨2,0,none⟩)),(2,.pointer (some ⟨3,0,none⟩)),(3,.slice (some ⟨4,0,none⟩) (tru m).length (tru m).length),(4,.pointer (some ⟨5,0,none⟩)),(6,iv O),(7,iv j)]
def lF (m:List Ed)(w:List Int)(O j c i:Int):List (Nat × Value):=(8,.slice (some ⟨7,0,none⟩) w.length w.length)::(10,iv c)::(11,iv i)::jN m O j
def aB9:Nat × XF:=(158,mYX aP aS aN fcS)
theorem aKF:cH Go.Proofs.Tryz.prog aB9.1 aB9.2:=SY aP aS aN (aL (xl:=[aDI,VT,X90]) (.cons aK0 (.cons aG6 (.cons x90 .nil)))) fun l m n r out rest hs=>by
 obtain⟨rfl,hM,h1m,rfl,rfl⟩:=aDw hs;clear hs;refine⟨rfl,rfl,fun c1 c2=>?_⟩;have hm:m.length≤1000:=(by simp only [oG,Bool.and_eq_true,decide_eq_true_eq] at hM;exact hM.1.2);(conv=>whnf);refine⟨_,_,_,[],l,m,rfl,aC aP rfl,aC aS rfl,?_⟩;((conv=>whnf);refine bm (fun h1=>?_) (fun h1=>?_))
 ·(conv=>whnf)
  refine⟨fun q e h nx=>∃ (i:Nat) (j:Int),j=i∧i≤2*m.length∧q=2*m.length - i∧e=MJ m j ∧
   ((i=0∧h=fY l m c1 c2 n (.slice none 0 0) 0 true∧nx=6)∨(0<i∧h=(6,.cells true false 1 (flat aN.fl (List.replicate i (-1))))::fY l m c1 c2 n (.slice (some ⟨6,0,none⟩) i i) 0 true∧nx=7)),⟨2*m.length,?_⟩,?_⟩
  ·refine aM (e0:=MJ m 0) (h0:=fY l m c1 c2 n (.slice none 0 0) 0 true) (n0:=6) ⟨0,0,rfl,Nat.zero_le _,rfl,rfl,.inl ⟨rfl,rfl,rfl⟩⟩ ?_ ?_ (by decide)
   ·unfold MJ;((repeat' refine iE rfl rfl ?_);exact iN)
   ·unfold fY aY aD;((repeat'(first|refine iF rfl rfl ?_|refine iC rfl rfl rfl ?_|refine iJ rfl rfl rfl rfl ?_));exact iN)
  ·rintro q e h nx ⟨i,j,hj,hi,rfl,rfl,⟨hi0,rfl,rfl⟩|⟨hip,rfl,rfl⟩⟩
   ·subst hi0;unfold MJ fY aY aD;((conv=>whnf);refine bm (fun h2=>?_) (fun h2=>?_))
    ·((conv=>whnf);refine bm (fun h3=>?_) (fun h3=>?_))
     ·((conv=>whnf);refine bm (fun h4=>?_) (fun h4=>?_))
      ·(conv=>whnf);refine⟨2*m.length - 1,by omega,?_⟩;refine gM (e0:=MJ m (j+1)) (h0:=(6,.cells true false 1 (flat aN.fl [-1]))::fY l m c1 c2 n (.slice (some ⟨6,0,none⟩) 1 1) 0 true) (n0:=7) 6 7 (by decide) (by decide) ⟨1,j+1,by omega,by omega,rfl,rfl,.inr ⟨Nat.one_pos,rfl,rfl⟩⟩ ?_ ?_ ?_
       ·unfold MJ;((repeat' refine iE rfl rfl ?_);exact iN)
       ·unfold fY aY aD;((repeat'(first|refine iF rfl rfl ?_|refine iC rfl rfl rfl ?_|refine iJ rfl rfl rfl rfl ?_));exact iN)
       ·unfold fY aD;((repeat' refine iK rfl ?_);exact iN)
      ·exfalso;simp [aA,aB,aI] at h4;omega
     ·exfalso;simp [aA,aB] at h3;omega
    ·exfalso;simp [aA,aB,aI] at h2;omega
   ·unfold MJ fY aY aD;((conv=>whnf);refine bm (fun h2=>?_) (fun h2=>?_))
    ·((conv=>whnf);refine bm (fun h3=>?_) (fun h3=>?_))
     ·have hlt:i<2*m.length:=(by simp [aA,aB] at h3;omega);have hll:(flat aN.fl (List.replicate i (-1))).length=i:=(by rw [bD,List.length_replicate];exact Nat.mul_one _);((conv=>whnf);refine bm (fun h4=>?_) (fun h4=>?_))
      ·exfalso;have:=Nat.le_of_ble_eq_true h4;omega
      ·((conv=>whnf);refine bm (fun h5=>?_) (fun h5=>?_))
       ·((conv=>whnf);refine bm (fun h6=>?_) (fun h6=>?_))
        ·(conv=>whnf);refine⟨2*m.length - (i+1),by omega,?_⟩
         refine gM (e0:=MJ m (j+1)) (h0:=(6,.cells true false 1 (flat aN.fl (List.replicate i (-1)++[-1])))::fY l m c1 c2 n (.slice (some ⟨6,0,none⟩) (i+1) (i+1)) 0 true) (n0:=7) 6 8 (by decide) (by decide)
          ⟨i+1,j+1,by omega,by omega,rfl,rfl,.inr ⟨Nat.succ_pos _,by rw [List.replicate_succ'];rfl,rfl⟩⟩ ?_ ?_ ?_
         ·unfold MJ;((repeat' refine iE rfl rfl ?_);exact iN)
         ·unfold fY aY aD;((repeat'(first|refine iW rfl rfl (aZ (aG aN _) (eL aN (List.replicate i (-1)) (-1) (by rw [List.length_replicate]))) ?_|refine iF rfl rfl ?_|refine iC rfl rfl rfl ?_|refine iJ rfl rfl rfl rfl ?_));exact iN)
         ·unfold fY aD;((repeat' refine iK rfl ?_);exact iN)
        ·exfalso;simp [aA,aB,aI] at h6;omega
       ·exact nW (s:=1) (by omega) (by omega) h5
     ·have hge:i=2*m.length:=(by simp [aA,aB] at h3;omega);subst hge;(conv=>whnf)
      refine⟨fun q e h nx=>∃ (i:Nat) (j:Int),j=i∧i≤2*m.length∧q=2*m.length - i∧e=jN m (j6 l m i).outside j ∧
       h=(6,.cells true false 1 (flat aN.fl (j6 l m i).of))::fY l m c1 c2 n (.slice (some ⟨6,0,none⟩) (2*m.length) (2*m.length)) (j6 l m i).faces (j6 l m i).ok∧nx=7,⟨2*m.length,?_⟩,?_⟩
      ·refine aM (e0:=jN m 0 0) (h0:=(6,.cells true false 1 (flat aN.fl (List.replicate (2*m.length) (-1))))::fY l m c1 c2 n (.slice (some ⟨6,0,none⟩) (2*m.length) (2*m.length)) 0 true) (n0:=7) ⟨0,0,rfl,Nat.zero_le _,rfl,rfl,rfl,rfl⟩ ?_ ?_ (by decide)
       ·unfold jN;((repeat' refine iE rfl rfl ?_);exact iN)
       ·unfold fY aY aD;((repeat'(first|refine iF rfl rfl ?_|refine iC rfl rfl rfl ?_|refine iJ rfl rfl rfl rfl ?_));exact iN)
      ·clear h2 h3 hj hi hip h1;rintro q e h nx ⟨i,j,hj,hi,rfl,rfl,rfl,rfl⟩;have low:=J0 l m i;have len:=vA l m i;have nxt:j6 l m (i+1)=pG l m (j6 l m i) i:=rfl;generalize hst:j6 l m i=st at low len nxt;unfold jN fY aY aD;((conv=>whnf);refine bm (fun h2=>?_) (fun h2=>?_))
       ·((conv=>whnf);refine bm (fun h3=>?_) (fun h3=>?_))
        ·have hlt:i<2*m.length:=(by simp [aA,aB] at h3;omega);have hdj:mE m j=true:=(by simp only [mE,Bool.and_eq_true,decide_eq_true_eq];omega);((conv=>whnf);refine bm (fun h4=>?_) (fun h4=>?_))
         ·(conv=>whnf);refine gI (eK st.of (i:=i) (by omega) ?_) ?_
          ·show _+Int.toNat j*1=_;omega
          ((conv=>whnf);refine bm (fun h5=>?_) (fun h5=>?_))
          ·have h5:0≤aK st.of i:=(by simpa [aA,aB] using h5);((conv=>whnf);refine bm (fun h6=>?_) (fun h6=>?_))
           ·(conv=>whnf);refine⟨2*m.length - (i+1),by omega,?_⟩;refine aM (e0:=jN m st.outside (j+1)) (h0:=(6,.cells true false 1 (flat aN.fl st.of))::fY l m c1 c2 n (.slice (some ⟨6,0,none⟩) (2*m.length) (2*m.length)) st.faces st.ok) (n0:=7) ⟨i+1,j+1,by omega,by omega,rfl,?_,?_,rfl⟩ ?_ ?_ (by decide)
            ·rw [nxt];unfold pG;rw [if_pos h5];rfl
            ·rw [nxt];unfold pG;rw [if_pos h5];rfl
            ·unfold jN;((repeat' refine iE rfl rfl ?_);exact iN)
            ·unfold fY aY aD;((repeat'(first|refine iF rfl rfl ?_|refine iC rfl rfl rfl ?_|refine iJ rfl rfl rfl rfl ?_));exact iN)
           ·exfalso;simp [aA,aB,aI] at h6;omega
          ·have h5:¬ 0≤aK st.of i:=(by simpa [aA,aB] using h5);(conv=>whnf);refine⟨_,_,_,[iv j],_,l,m,tru m,rfl,aC aP rfl,aC aS rfl,aC eH rfl,?_⟩;((conv=>whnf);refine bm (fun h6=>?_) (fun h6=>?_))
           ·obtain⟨w,hw⟩:∃ w,w=jU l m (tru m) j:=⟨_,rfl⟩;have hwl:=Q8 l m (tru m) j;have hwp:=SE l m (tru m) j;have hwi:=ZO (l:=l) (k:=tru m) hm hdj;rw [← hw] at hwl hwp hwi;have hj':jU l m (List.replicate (2*m.length) true) i=w:=(by rw [hw,hj];rfl);rw [← hw];(conv=>whnf);refine⟨_,_,_,[],_,l,m,w,rfl,aC aP rfl,aC aS rfl,aC aN rfl,?_⟩;((conv=>whnf);refine bm (fun h7=>?_) (fun h7=>?_))
            ·obtain⟨a,ha⟩:∃ a,a=mR l m w w.length:=⟨_,rfl⟩;rw [← ha];have hstep:pG l m st i=⟨dN st.of w (if 0<a then st.faces+1 else 0) w.length,if 0<a then st.faces+1 else st.faces,if a<0 then st.outside+1 else st.outside,if a=0 then false else st.ok⟩:=by
              unfold pG;rw [if_neg h5];simp only [hj',← ha]
             ((conv=>whnf);refine bm (fun g1=>?_) (fun g1=>?_))
             ·have g1:0<a:=(by simpa [aA,aB] using g1);rw [if_pos g1,if_pos g1,if_neg (by omega),if_neg (by omega)] at hstep;((conv=>whnf);refine bm (fun g2=>?_) (fun g2=>?_))
              ·((conv=>whnf);refine bm (fun g3=>?_) (fun g3=>?_))
               ·exfalso;have:a<0:=(by simpa [aA,aB] using g3);omega
               ·((conv=>whnf);refine bm (fun g4=>?_) (fun g4=>?_))
                ·exfalso;have:a=0:=(by simpa [aA,aB] using g4);omega
                ·(conv=>whnf)
                 refine⟨fun q e h nx=>∃ (t:Nat) (z:Int),z=t∧t≤w.length∧q=w.length - t∧e=lF m w (st.outside) j (st.faces+1) z ∧
                  h=(7,.cells true false 1 (flat aN.fl w))::(6,.cells true false 1 (flat aN.fl (dN st.of w (st.faces+1) t)))::fY l m c1 c2 n (.slice (some ⟨6,0,none⟩) (2*m.length) (2*m.length)) (st.faces+1) (st.ok)∧nx=8,⟨w.length,?_⟩,?_⟩
                 ·refine aM (e0:=lF m w (st.outside) j (st.faces+1) 0) (h0:=(7,.cells true false 1 (flat aN.fl w))::(6,.cells true false 1 (flat aN.fl st.of))::fY l m c1 c2 n (.slice (some ⟨6,0,none⟩) (2*m.length) (2*m.length)) (st.faces+1) (st.ok)) (n0:=8) ⟨0,0,rfl,Nat.zero_le _,rfl,rfl,rfl,rfl⟩ ?_ ?_ (by decide)
                  ·unfold lF jN;((repeat' refine iE rfl rfl ?_);exact iN)
                  ·unfold fY aY aD;((repeat'(first|refine iF rfl rfl ?_|refine iC rfl rfl rfl ?_|refine iJ rfl rfl rfl rfl ?_));exact iN)
                 ·rintro q e h nx ⟨t,z,hz,ht,rfl,rfl,rfl,rfl⟩;have sl:=fE st.of w (st.faces+1) t;unfold lF jN fY aY aD;((conv=>whnf);refine bm (fun k1=>?_) (fun k1=>?_))
                  ·have htl:t<w.length:=(by simp [aA,aB] at k1;omega);have hdt:=rE hwi htl;simp only [mE,Bool.and_eq_true,decide_eq_true_eq] at hdt;((conv=>whnf);refine bm (fun k2=>?_) (fun k2=>?_))
                   ·(conv=>whnf);refine gI (eK w (i:=t) htl ?_) ?_
                    ·show _+Int.toNat z*1=_;omega
                    ((conv=>whnf);refine bm (fun k3=>?_) (fun k3=>?_))
                    ·((conv=>whnf);refine bm (fun k4=>?_) (fun k4=>?_))
                     ·((conv=>whnf);refine bm (fun k5=>?_) (fun k5=>?_))
                      ·(conv=>whnf);refine⟨w.length - (t+1),by omega,?_⟩;refine aM (e0:=lF m w (st.outside) j (st.faces+1) (z+1)) (h0:=(7,.cells true false 1 (flat aN.fl w))::(6,.cells true false 1 (flat aN.fl (dN st.of w (st.faces+1) (t+1))))::fY l m c1 c2 n (.slice (some ⟨6,0,none⟩) (2*m.length) (2*m.length)) (st.faces+1) (st.ok)) (n0:=8) ⟨t+1,z+1,by omega,by omega,rfl,rfl,rfl,rfl⟩ ?_ ?_ (by decide)
                       ·unfold lF jN;((repeat' refine iE rfl rfl ?_);exact iN)
                       ·unfold fY aY aD;have bQ:=qN (of:=st.of) (w:=w) (c:=st.faces+1) (t:=t) (o:=0+(aK w t).toNat*1) (by omega) (by omega);((repeat'(first|refine iW rfl rfl (aZ (aG aN _) bQ) ?_|refine iF rfl rfl ?_|refine iC rfl rfl rfl ?_|refine iJ rfl rfl rfl rfl ?_));exact iN)
                      ·exfalso;simp [aA,aB,aI] at k5;omega
                     ·exfalso;have hfl:(flat aN.fl (dN st.of w (st.faces+1) t)).length=2*m.length:=(by rw [bD,sl,len];exact Nat.mul_one _);rw [hfl] at k4;have k4:(0+(aK w t).toNat*1+1).ble (2*m.length)=false:=k4;have:=Nat.ble_eq_true_of_le (show 0+(aK w t).toNat*1+1≤2*m.length by omega);rw [this] at k4;cases k4
                    ·exfalso;simp [aA,aB] at k3;omega
                   ·exfalso;simp [aA,aB] at k2;omega
                  ·have hgt:t=w.length:=(by simp [aA,aB] at k1;omega);subst hgt;((conv=>whnf);refine bm (fun k2=>?_) (fun k2=>?_))
                   ·(conv=>whnf);refine⟨2*m.length - (i+1),by omega,?_⟩;refine aM (e0:=jN m (st.outside) (j+1)) (h0:=(6,.cells true false 1 (flat aN.fl (dN st.of w (st.faces+1) w.length)))::fY l m c1 c2 n (.slice (some ⟨6,0,none⟩) (2*m.length) (2*m.length)) (st.faces+1) (st.ok)) (n0:=7) ⟨i+1,j+1,by omega,by omega,rfl,by rw [nxt,hstep];rfl,by rw [nxt,hstep];rfl,rfl⟩ ?_ ?_ (by decide)
                    ·unfold jN;((repeat' refine iE rfl rfl ?_);exact iN)
                    ·unfold fY aY aD;((repeat'(first|refine iF rfl rfl ?_|refine iC rfl rfl rfl ?_|refine iJ rfl rfl rfl rfl ?_));exact iN)
                   ·exfalso;simp [aA,aB,aI] at k2;omega
              ·exfalso;simp [aA,aB,aI] at g2;omega
             ·have g1:¬ 0<a:=(by simpa [aA,aB] using g1);rw [if_neg g1,if_neg g1] at hstep;((conv=>whnf);refine bm (fun g3=>?_) (fun g3=>?_))
              ·have g3:a<0:=(by simpa [aA,aB] using g3);rw [if_pos g3,if_neg (by omega)] at hstep;((conv=>whnf);refine bm (fun g2=>?_) (fun g2=>?_))
               ·((conv=>whnf);refine bm (fun g4=>?_) (fun g4=>?_))
                ·exfalso;have:a=0:=(by simpa [aA,aB] using g4);omega
                ·(conv=>whnf)
                 refine⟨fun q e h nx=>∃ (t:Nat) (z:Int),z=t∧t≤w.length∧q=w.length - t∧e=lF m w (st.outside+1) j (0) z ∧
                  h=(7,.cells true false 1 (flat aN.fl w))::(6,.cells true false 1 (flat aN.fl (dN st.of w (0) t)))::fY l m c1 c2 n (.slice (some ⟨6,0,none⟩) (2*m.length) (2*m.length)) (st.faces) (st.ok)∧nx=8,⟨w.length,?_⟩,?_⟩
                 ·refine aM (e0:=lF m w (st.outside+1) j (0) 0) (h0:=(7,.cells true false 1 (flat aN.fl w))::(6,.cells true false 1 (flat aN.fl st.of))::fY l m c1 c2 n (.slice (some ⟨6,0,none⟩) (2*m.length) (2*m.length)) (st.faces) (st.ok)) (n0:=8) ⟨0,0,rfl,Nat.zero_le _,rfl,rfl,rfl,rfl⟩ ?_ ?_ (by decide)
                  ·unfold lF jN;((repeat' refine iE rfl rfl ?_);exact iN)
                  ·unfold fY aY aD;((repeat'(first|refine iF rfl rfl ?_|refine iC rfl rfl rfl ?_|refine iJ rfl rfl rfl rfl ?_));exact iN)
                 ·rintro q e h nx ⟨t,z,hz,ht,rfl,rfl,rfl,rfl⟩;have sl:=fE st.of w (0) t;unfold lF jN fY aY aD;((conv=>whnf);refine bm (fun k1=>?_) (fun k1=>?_))
                  ·have htl:t<w.length:=(by simp [aA,aB] at k1;omega);have hdt:=rE hwi htl;simp only [mE,Bool.and_eq_true,decide_eq_true_eq] at hdt;((conv=>whnf);refine bm (fun k2=>?_) (fun k2=>?_))
                   ·(conv=>whnf);refine gI (eK w (i:=t) htl ?_) ?_
                    ·show _+Int.toNat z*1=_;omega
                    ((conv=>whnf);refine bm (fun k3=>?_) (fun k3=>?_))
                    ·((conv=>whnf);refine bm (fun k4=>?_) (fun k4=>?_))
                     ·((conv=>whnf);refine bm (fun k5=>?_) (fun k5=>?_))
                      ·(conv=>whnf);refine⟨w.length - (t+1),by omega,?_⟩;refine aM (e0:=lF m w (st.outside+1) j (0) (z+1)) (h0:=(7,.cells true false 1 (flat aN.fl w))::(6,.cells true false 1 (flat aN.fl (dN st.of w (0) (t+1))))::fY l m c1 c2 n (.slice (some ⟨6,0,none⟩) (2*m.length) (2*m.length)) (st.faces) (st.ok)) (n0:=8) ⟨t+1,z+1,by omega,by omega,rfl,rfl,rfl,rfl⟩ ?_ ?_ (by decide)
                       ·unfold lF jN;((repeat' refine iE rfl rfl ?_);exact iN)
                       ·unfold fY aY aD;have bQ:=qN (of:=st.of) (w:=w) (c:=0) (t:=t) (o:=0+(aK w t).toNat*1) (by omega) (by omega);((repeat'(first|refine iW rfl rfl (aZ (aG aN _) bQ) ?_|refine iF rfl rfl ?_|refine iC rfl rfl rfl ?_|refine iJ rfl rfl rfl rfl ?_));exact iN)
                      ·exfalso;simp [aA,aB,aI] at k5;omega
                     ·exfalso;have hfl:(flat aN.fl (dN st.of w (0) t)).length=2*m.length:=(by rw [bD,sl,len];exact Nat.mul_one _);rw [hfl] at k4;have k4:(0+(aK w t).toNat*1+1).ble (2*m.length)=false:=k4;have:=Nat.ble_eq_true_of_le (show 0+(aK w t).toNat*1+1≤2*m.length by omega);rw [this] at k4;cases k4
                    ·exfalso;simp [aA,aB] at k3;omega
                   ·exfalso;simp [aA,aB] at k2;omega
                  ·have hgt:t=w.length:=(by simp [aA,aB] at k1;omega);subst hgt;((conv=>whnf);refine bm (fun k2=>?_) (fun k2=>?_))
                   ·(conv=>whnf);refine⟨2*m.length - (i+1),by omega,?_⟩;refine aM (e0:=jN m (st.outside+1) (j+1)) (h0:=(6,.cells true false 1 (flat aN.fl (dN st.of w (0) w.length)))::fY l m c1 c2 n (.slice (some ⟨6,0,none⟩) (2*m.length) (2*m.length)) (st.faces) (st.ok)) (n0:=7) ⟨i+1,j+1,by omega,by omega,rfl,by rw [nxt,hstep];rfl,by rw [nxt,hstep];rfl,rfl⟩ ?_ ?_ (by decide)
                    ·unfold jN;((repeat' refine iE rfl rfl ?_);exact iN)
                    ·unfold fY aY aD;((repeat'(first|refine iF rfl rfl ?_|refine iC rfl rfl rfl ?_|refine iJ rfl rfl rfl rfl ?_));exact iN)
                   ·exfalso;simp [aA,aB,aI] at k2;omega
               ·exfalso;simp [aA,aB,aI] at g2;omega
              ·have g3:¬ a<0:=(by simpa [aA,aB] using g3);rw [if_neg g3,if_pos (by omega)] at hstep;((conv=>whnf);refine bm (fun g4=>?_) (fun g4=>?_))
               ·(conv=>whnf)
                refine⟨fun q e h nx=>∃ (t:Nat) (z:Int),z=t∧t≤w.length∧q=w.length - t∧e=lF m w (st.outside) j (0) z ∧
                 h=(7,.cells true false 1 (flat aN.fl w))::(6,.cells true false 1 (flat aN.fl (dN st.of w (0) t)))::fY l m c1 c2 n (.slice (some ⟨6,0,none⟩) (2*m.length) (2*m.length)) (st.faces) (false)∧nx=8,⟨w.length,?_⟩,?_⟩
                ·refine aM (e0:=lF m w (st.outside) j (0) 0) (h0:=(7,.cells true false 1 (flat aN.fl w))::(6,.cells true false 1 (flat aN.fl st.of))::fY l m c1 c2 n (.slice (some ⟨6,0,none⟩) (2*m.length) (2*m.length)) (st.faces) (false)) (n0:=8) ⟨0,0,rfl,Nat.zero_le _,rfl,rfl,rfl,rfl⟩ ?_ ?_ (by decide)
                 ·unfold lF jN;((repeat' refine iE rfl rfl ?_);exact iN)
                 ·unfold fY aY aD;((repeat'(first|refine iF rfl rfl ?_|refine iC rfl rfl rfl ?_|refine iJ rfl rfl rfl rfl ?_));exact iN)
                ·rintro q e h nx ⟨t,z,hz,ht,rfl,rfl,rfl,rfl⟩;have sl:=fE st.of w (0) t;unfold lF jN fY aY aD;((conv=>whnf);refine bm (fun k1=>?_) (fun k1=>?_))
                 ·have htl:t<w.length:=(by simp [aA,aB] at k1;omega);have hdt:=rE hwi htl;simp only [mE,Bool.and_eq_true,decide_eq_true_eq] at hdt;((conv=>whnf);refine bm (fun k2=>?_) (fun k2=>?_))
                  ·(conv=>whnf);refine gI (eK w (i:=t) htl ?_) ?_
                   ·show _+Int.toNat z*1=_;omega
                   ((conv=>whnf);refine bm (fun k3=>?_) (fun k3=>?_))
                   ·((conv=>whnf);refine bm (fun k4=>?_) (fun k4=>?_))
                    ·((conv=>whnf);refine bm (fun k5=>?_) (fun k5=>?_))
                     ·(conv=>whnf);refine⟨w.length - (t+1),by omega,?_⟩;refine aM (e0:=lF m w (st.outside) j (0) (z+1)) (h0:=(7,.cells true false 1 (flat aN.fl w))::(6,.cells true false 1 (flat aN.fl (dN st.of w (0) (t+1))))::fY l m c1 c2 n (.slice (some ⟨6,0,none⟩) (2*m.length) (2*m.length)) (st.faces) (false)) (n0:=8) ⟨t+1,z+1,by omega,by omega,rfl,rfl,rfl,rfl⟩ ?_ ?_ (by decide)
                      ·unfold lF jN;((repeat' refine iE rfl rfl ?_);exact iN)
                      ·unfold fY aY aD;have bQ:=qN (of:=st.of) (w:=w) (c:=0) (t:=t) (o:=0+(aK w t).toNat*1) (by omega) (by omega);((repeat'(first|refine iW rfl rfl (aZ (aG aN _) bQ) ?_|refine iF rfl rfl ?_|refine iC rfl rfl rfl ?_|refine iJ rfl rfl rfl rfl ?_));exact iN)
                     ·exfalso;simp [aA,aB,aI] at k5;omega
                    ·exfalso;have hfl:(flat aN.fl (dN st.of w (0) t)).length=2*m.length:=(by rw [bD,sl,len];exact Nat.mul_one _);rw [hfl] at k4;have k4:(0+(aK w t).toNat*1+1).ble (2*m.length)=false:=k4;have:=Nat.ble_eq_true_of_le (show 0+(aK w t).toNat*1+1≤2*m.length by omega);rw [this] at k4;cases k4
                   ·exfalso;simp [aA,aB] at k3;omega
                  ·exfalso;simp [aA,aB] at k2;omega
                 ·have hgt:t=w.length:=(by simp [aA,aB] at k1;omega);subst hgt;((conv=>whnf);refine bm (fun k2=>?_) (fun k2=>?_))
                  ·(conv=>whnf);refine⟨2*m.length - (i+1),by omega,?_⟩;refine aM (e0:=jN m (st.outside) (j+1)) (h0:=(6,.cells true false 1 (flat aN.fl (dN st.of w (0) w.length)))::fY l m c1 c2 n (.slice (some ⟨6,0,none⟩) (2*m.length) (2*m.length)) (st.faces) (false)) (n0:=7) ⟨i+1,j+1,by omega,by omega,rfl,by rw [nxt,hstep];rfl,by rw [nxt,hstep];rfl,rfl⟩ ?_ ?_ (by decide)
                   ·unfold jN;((repeat' refine iE rfl rfl ?_);exact iN)
                   ·unfold fY aY aD;((repeat'(first|refine iF rfl rfl ?_|refine iC rfl rfl rfl ?_|refine iJ rfl rfl rfl rfl ?_));exact iN)
                  ·exfalso;simp [aA,aB,aI] at k2;omega
               ·exfalso;have:¬ a=0:=(by simpa [aA,aB] using g4);omega
            ·exfalso;have h7:(oG l m&&SD m w&&decide (w.length≤10000))=false:=h7;rw [hM,hwi,decide_eq_true (show w.length≤10000 by omega)] at h7;cases h7
           ·exfalso;have h6:(oG l m&&mE m j&&decide ((tru m).length=2*m.length))=false:=h6;rw [hM,hdj,decide_eq_true (aEu m)] at h6;cases h6
         ·exfalso;simp [aA,aB] at h4;omega
        ·have hge:i=2*m.length:=(by simp [aA,aB] at h3;omega);have hfin:eR l m=st:=(by rw [← hst,hge];rfl);rw [hfin]
         repeat' ((conv=>whnf);refine bm (fun g1=>?_) (fun g1=>?_))
         all_goals (conv=>whnf)
         all_goals refine⟨6,?_,rfl⟩
         all_goals (show Value.agg _=Value.agg _)
         all_goals rw [len]
         all_goals (simp [aA,aB] at *)
         all_goals simp [MM, *]
       ·exfalso;simp [aA,aB,aI] at h2;omega
    ·exfalso;simp [aA,aB,aI] at h2;omega
 ·exfalso;have h1:(decide (1≤m.length)&&decide (m.length≤1000))=false:=h1;rw [decide_eq_true h1m,decide_eq_true hm] at h1;cases h1
theorem uN (l:List Bool):∀ (i:Nat) (v:Bool),i<l.length→c8 (flat eH.fl l) (i*1) [.bool v]=flat eH.fl (l.set i v):=by
 induction l with
 |nil=>intro i v h;cases h
 |cons a r ih =>
  intro i v h;cases i with
  |zero=>rfl
  |succ i =>
   have:=ih i v (by simpa using h);simp only [List.set_cons_succ,flat,← this];have e:(i+1)*1=i*1+1:=(by omega);rw [e];unfold c8;show List.take (i*1+1) (.bool a::flat eH.fl r)++_++List.drop (i*1+1+1) (.bool a::flat eH.fl r)=_;rfl
def mP (i:Nat):List Bool:=(List.range i).map fun (t:Nat)=>decide ((t:Int)=0)
theorem tR (i:Nat):(mP i).length=i:=by simp [mP]
theorem aIs (i:Nat):mP (i+1)=mP i++[decide ((i:Int)=0)]:=by
 unfold mP;rw [List.range_succ,List.map_append];rfl
def vU (s:List Bool)(e:Ed):List Bool:=if (cG s e.a.toNat || cG s e.b.toNat)=true then (s.set e.a.toNat true).set e.b.toNat true else s
def nB (m:List Ed)(s:List Bool):Nat→List Bool
 |0=>s
 |i+1=>vU (nB m s i) (cO m i)
def dQ (l:List Pt)(m:List Ed):Nat→List Bool
 |0=>mP l.length
 |i+1=>nB m (dQ l m i) m.length
def KV (l:List Pt)(m:List Ed):Bool:=(dQ l m l.length).all id
theorem aBF (s:List Bool)(e:Ed):(vU s e).length=s.length:=by
 unfold vU;split <;> simp
theorem uP (m:List Ed)(s:List Bool):∀ i,(nB m s i).length=s.length
 |0=>rfl
 |i+1=>by unfold nB;rw [aBF];exact uP m s i
theorem yX (l:List Pt)(m:List Ed):∀ i,(dQ l m i).length=l.length
 |0=>tR _
 |i+1=>by unfold dQ;rw [uP];exact yX l m i
theorem RP {s:List Bool}{a b o1 o2:Nat}(h1:o1=a*1)(h2:o2=b*1)(ha:a<s.length)(hb:b<s.length):c8 (c8 (flat eH.fl s) o1 [.bool true]) o2 [.bool true]=flat eH.fl ((s.set a true).set b true):=by
 rw [h1,h2,uN _ _ _ ha,uN _ _ _ (by rw [List.length_set];exact hb)]
theorem eV {x N:Nat}{p:Prop}(h:x.ble N=false)(hx:x≤N):p:=by
 rw [Nat.ble_eq_true_of_le hx] at h;cases h
def coS (l:List Pt)(m:List Ed)(n:Int):List Value→Option (Bool × Value)
 |[]=>some (oG l m&&decide (1≤l.length),.bool (KV l m))
 |_=>none
theorem aEZ {l:List Pt}{m:List Ed}{n:Int}{r:List Value}{v:Value}(h:coS l m n r=some (true,v)):r=[]∧oG l m=true∧1≤l.length∧v=.bool (KV l m):=by
 unfold coS at h;split at h
 ·injection h with h;injection h with h1 h2;simp only [Bool.and_eq_true,decide_eq_true_eq] at h1;exact⟨rfl,h1.1,h1.2,h2.symm⟩
 ·cases h
def cM (l:List Pt)(m:List Ed)(c1 c2:Nat)(n:Int):Heap:=(2,aY l.length m.length c1 c2 n)::aD aP aS l m
def bM (l:List Pt)(m:List Ed)(c1 c2:Nat)(n:Int)(s:List Bool):Heap:=(3,.cells true false 1 (flat eH.fl s))::cM l m c1 c2 n
def IX (s:Value)(j:Int):List (Nat × Value):=[(1,.pointer (some ⟨2,0,none⟩)),(3,s),(4,iv j)]
def r5 (N:Nat)(j:Int):List (Nat × Value):=[(1,.pointer (some ⟨2,0,none⟩)),(3,.slice (some ⟨3,0,none⟩) N N),(5,iv j)]
def wW (N:Nat)(j k:Int):List (Nat × Value):=(6,iv k)::r5 N j
def J2 (N:Nat)(j:Int):List (Nat × Value):=[(3,.slice (some ⟨3,0,none⟩) N N),(8,iv j)]
def aC6:Nat × XF:=(157,mX aP aS coS)
theorem aK4:cH Go.Proofs.Tryz.prog aC6.1 aC6.2:=rY aP aS (aL (xl:=[]) .nil) fun l m n r v hs=>by
 obtain⟨rfl,hM,h1l,rfl⟩:=aEZ hs;clear hs;refine⟨rfl,rfl,fun c1 c2=>?_⟩;have hm:m.length≤1000:=(by simp only [oG,Bool.and_eq_true,decide_eq_true_eq] at hM;exact hM.1.2);have hl:l.length≤1000:=(by simp only [oG,Bool.and_eq_true,decide_eq_true_eq] at hM;exact hM.2);(conv=>whnf)
 refine⟨fun q e h nx=>∃ (i:Nat) (j:Int),j=i∧i≤l.length∧q=l.length - i ∧
  ((i=0∧e=IX (.slice none 0 0) j∧h=cM l m c1 c2 n∧nx=3)∨(0<i∧e=IX (.slice (some ⟨3,0,none⟩) i i) j∧h=bM l m c1 c2 n (mP i)∧nx=4)),⟨l.length,?_⟩,?_⟩
 ·refine aM (e0:=IX (.slice none 0 0) 0) (h0:=cM l m c1 c2 n) (n0:=3) ⟨0,0,rfl,Nat.zero_le _,rfl,.inl ⟨rfl,rfl,rfl,rfl⟩⟩ ?_ ?_ (by decide)
  ·unfold IX;((repeat' refine iE rfl rfl ?_);exact iN)
  ·unfold cM aY aD;((repeat'(first|refine iF rfl rfl ?_|refine iC rfl rfl rfl ?_|refine iJ rfl rfl rfl rfl ?_));exact iN)
 ·rintro q e h nx ⟨i,j,hj,hi,rfl,⟨hi0,rfl,rfl,rfl⟩|⟨hip,rfl,rfl,rfl⟩⟩
  ·subst hi0;unfold IX cM aY aD;((conv=>whnf);refine bm (fun h2=>?_) (fun h2=>?_))
   ·((conv=>whnf);refine bm (fun h3=>?_) (fun h3=>?_))
    ·(conv=>whnf);refine⟨l.length - 1,by omega,?_⟩;refine gM (e0:=IX (.slice (some ⟨3,0,none⟩) 1 1) (j+1)) (h0:=bM l m c1 c2 n [decide (j=0)]) (n0:=4) 3 4 (by decide) (by decide) ⟨1,j+1,by omega,by omega,rfl,.inr ⟨Nat.one_pos,rfl,by rw [hj];rfl,rfl⟩⟩ ?_ ?_ ?_
     ·unfold IX;((repeat' refine iE rfl rfl ?_);exact iN)
     ·unfold bM cM aY aD;((repeat'(first|refine iF rfl rfl ?_|refine iC rfl rfl rfl ?_|refine iJ rfl rfl rfl rfl ?_));exact iN)
     ·unfold bM cM aD;((repeat' refine iK rfl ?_);exact iN)
    ·exfalso;simp [aA,aB,aI] at h3;omega
   ·exfalso;simp [aA,aB] at h2;omega
  ·unfold IX bM cM aY aD;((conv=>whnf);refine bm (fun h2=>?_) (fun h2=>?_))
   ·have hlt:i<l.length:=(by simp [aA,aB] at h2;omega);have hll:(flat eH.fl (mP i)).length=i:=(by rw [bD,tR];exact Nat.mul_one _);((conv=>whnf);refine bm (fun h3=>?_) (fun h3=>?_))
    ·exfalso;have:=Nat.le_of_ble_eq_true h3;omega
    ·((conv=>whnf);refine bm (fun h4=>?_) (fun h4=>?_))
     ·((conv=>whnf);refine bm (fun h5=>?_) (fun h5=>?_))
      ·(conv=>whnf);refine⟨l.length - (i+1),by omega,?_⟩
       refine gM (e0:=IX (.slice (some ⟨3,0,none⟩) (i+1) (i+1)) (j+1)) (h0:=bM l m c1 c2 n (mP i++[decide (j=0)])) (n0:=4) 3 5 (by decide) (by decide)
        ⟨i+1,j+1,by omega,by omega,rfl,.inr ⟨Nat.succ_pos _,rfl,by rw [aIs,hj];rfl,rfl⟩⟩ ?_ ?_ ?_
       ·unfold IX;((repeat' refine iE rfl rfl ?_);exact iN)
       ·unfold bM cM aY aD;((repeat'(first|refine iW rfl rfl (aZ (aG eH _) (eL eH (mP i) (decide (j=0)) (tR i).symm)) ?_|refine iF rfl rfl ?_|refine iC rfl rfl rfl ?_|refine iJ rfl rfl rfl rfl ?_));exact iN)
       ·unfold bM cM aD;((repeat' refine iK rfl ?_);exact iN)
      ·exfalso;simp [aA,aB,aI] at h5;omega
     ·exact nW (s:=1) (by omega) (by omega) h4
   ·have hge:i=l.length:=(by simp [aA,aB] at h2;omega);subst hge;clear hj hi hip h2;(conv=>whnf);refine⟨fun q e h nx=>∃ (i:Nat) (j:Int),j=i∧i≤l.length∧q=l.length - i∧e=r5 l.length j∧h=bM l m c1 c2 n (dQ l m i)∧nx=4,⟨l.length,?_⟩,?_⟩
    ·refine aM (e0:=r5 l.length 0) (h0:=bM l m c1 c2 n (mP l.length)) (n0:=4) ⟨0,0,rfl,Nat.zero_le _,rfl,rfl,rfl,rfl⟩ ?_ ?_ (by decide)
     ·unfold r5;((repeat' refine iE rfl rfl ?_);exact iN)
     ·unfold bM cM aY aD;((repeat'(first|refine iF rfl rfl ?_|refine iC rfl rfl rfl ?_|refine iJ rfl rfl rfl rfl ?_));exact iN)
    ·rintro q e h nx ⟨i,j,hj,hi,rfl,rfl,rfl,rfl⟩;have cl:=yX l m i;unfold r5 bM cM aY aD;((conv=>whnf);refine bm (fun h2=>?_) (fun h2=>?_))
     ·have hlt:i<l.length:=(by simp [aA,aB] at h2;omega);(conv=>whnf);refine⟨fun q e h nx=>∃ (t:Nat) (z:Int),z=t∧t≤m.length∧q=m.length - t∧e=wW l.length j z∧h=bM l m c1 c2 n (nB m (dQ l m i) t)∧nx=4,⟨m.length,?_⟩,?_⟩
      ·refine aM (e0:=wW l.length j 0) (h0:=bM l m c1 c2 n (dQ l m i)) (n0:=4) ⟨0,0,rfl,Nat.zero_le _,rfl,rfl,rfl,rfl⟩ ?_ ?_ (by decide)
       ·unfold wW r5;((repeat' refine iE rfl rfl ?_);exact iN)
       ·unfold bM cM aY aD;((repeat'(first|refine iF rfl rfl ?_|refine iC rfl rfl rfl ?_|refine iJ rfl rfl rfl rfl ?_));exact iN)
      ·rintro q e h nx ⟨t,z,hz,ht,rfl,rfl,rfl,rfl⟩;have rl:=uP m (dQ l m i) t;rw [cl] at rl;have nxt:nB m (dQ l m i) (t+1)=vU (nB m (dQ l m i) t) (cO m t):=rfl;generalize hs0:nB m (dQ l m i) t=s at rl nxt;unfold wW r5 bM cM aY aD;((conv=>whnf);refine bm (fun h3=>?_) (fun h3=>?_))
       ·have htl:t<m.length:=(by simp [aA,aB] at h3;omega);have he:=pJ hM htl;have hsl:(flat eH.fl s).length=l.length:=(by rw [bD,rl];exact Nat.mul_one _);((conv=>whnf);refine bm (fun h4=>?_) (fun h4=>?_))
        ·(conv=>whnf);refine nV (BS m (i:=t) htl ?_) ?_
         ·show _+Int.toNat z*5=_;omega
         generalize cO m t=ed at he nxt;((conv=>whnf);refine bm (fun h5=>?_) (fun h5=>?_))
         ·(conv=>whnf);refine gI (H8 s (i:=ed.a.toNat) (by omega) ?_) ?_
          ·show _+Int.toNat ed.a*1=_;omega
          have fin:∀ s',vU s ed=s'→nB m (dQ l m i) (t+1)=s':=fun s' h=>(by rw [nxt,h]);((conv=>whnf);refine bm (fun g1=>?_) (fun g1=>?_))
          ·have g1:cG s ed.a.toNat=false:=(by simpa [aA,aB] using g1);((conv=>whnf);refine bm (fun g2=>?_) (fun g2=>?_))
           ·(conv=>whnf);refine gI (H8 s (i:=ed.b.toNat) (by omega) ?_) ?_
            ·show _+Int.toNat ed.b*1=_;omega
            ((conv=>whnf);refine bm (fun g3=>?_) (fun g3=>?_))
            ·have g3:cG s ed.b.toNat=true:=g3;have hrel:vU s ed=(s.set ed.a.toNat true).set ed.b.toNat true:=(by unfold vU;rw [g1,g3];rfl);((conv=>whnf);refine bm (fun k1=>?_) (fun k1=>?_))
             ·((conv=>whnf);refine bm (fun k2=>?_) (fun k2=>?_))
              ·((conv=>whnf);refine bm (fun k3=>?_) (fun k3=>?_))
               ·((conv=>whnf);refine bm (fun k4=>?_) (fun k4=>?_))
                ·((conv=>whnf);refine bm (fun k5=>?_) (fun k5=>?_))
                 ·(conv=>whnf);refine⟨m.length - (t+1),by omega,?_⟩;refine aM (e0:=wW l.length j (z+1)) (h0:=bM l m c1 c2 n ((s.set ed.a.toNat true).set ed.b.toNat true)) (n0:=4) ⟨t+1,z+1,by omega,by omega,rfl,rfl,by rw [fin _ hrel];rfl,rfl⟩ ?_ ?_ (by decide)
                  ·unfold wW r5;((repeat' refine iE rfl rfl ?_);exact iN)
                  ·unfold bM cM aY aD;have bQ:=RP (s:=s) (a:=ed.a.toNat) (b:=ed.b.toNat) (o1:=0+ed.a.toNat*1) (o2:=0+ed.b.toNat*1) (by omega) (by omega) (by omega) (by omega);((repeat'(first|refine iW rfl rfl (aZ (aG eH _) bQ) ?_|refine iF rfl rfl ?_|refine iC rfl rfl rfl ?_|refine iJ rfl rfl rfl rfl ?_));exact iN)
                 ·exfalso;simp [aA,aB,aI] at k5;omega
                ·have hpl:(c8 (flat eH.fl s) (0+ed.a.toNat*1) [.bool true]).length=l.length:=(by rw [dL (by rw [hsl];show 0+ed.a.toNat*1+1≤l.length;omega)];exact hsl);have k4:(0+ed.b.toNat*1+1).ble (c8 (flat eH.fl s) (0+ed.a.toNat*1) [.bool true]).length=false:=k4;rw [hpl] at k4;exact eV k4 (by omega)
               ·exfalso;simp [aA,aB] at k3;omega
              ·rw [hsl] at k2;exact eV k2 (by show 0+ed.a.toNat*1+1≤l.length;omega)
             ·exfalso;simp [aA,aB] at k1;omega
            ·have g3:cG s ed.b.toNat=false:=g3;have hrel:vU s ed=s:=(by unfold vU;rw [g1,g3];rfl);((conv=>whnf);refine bm (fun k5=>?_) (fun k5=>?_))
             ·(conv=>whnf);refine⟨m.length - (t+1),by omega,?_⟩;refine aM (e0:=wW l.length j (z+1)) (h0:=bM l m c1 c2 n s) (n0:=4) ⟨t+1,z+1,by omega,by omega,rfl,rfl,by rw [fin _ hrel];rfl,rfl⟩ ?_ ?_ (by decide)
              ·unfold wW r5;((repeat' refine iE rfl rfl ?_);exact iN)
              ·unfold bM cM aY aD;((repeat'(first|refine iF rfl rfl ?_|refine iC rfl rfl rfl ?_|refine iJ rfl rfl rfl rfl ?_));exact iN)
             ·exfalso;simp [aA,aB,aI] at k5;omega
           ·exfalso;simp [aA,aB] at g2;omega
          ·have g1:cG s ed.a.toNat=true:=(by simpa [aA,aB] using g1);have hrel:vU s ed=(s.set ed.a.toNat true).set ed.b.toNat true:=(by unfold vU;rw [g1];rfl);((conv=>whnf);refine bm (fun k1=>?_) (fun k1=>?_))
           ·((conv=>whnf);refine bm (fun k2=>?_) (fun k2=>?_))
            ·((conv=>whnf);refine bm (fun k3=>?_) (fun k3=>?_))
             ·((conv=>whnf);refine bm (fun k4=>?_) (fun k4=>?_))
              ·((conv=>whnf);refine bm (fun k5=>?_) (fun k5=>?_))
               ·(conv=>whnf);refine⟨m.length - (t+1),by omega,?_⟩;refine aM (e0:=wW l.length j (z+1)) (h0:=bM l m c1 c2 n ((s.set ed.a.toNat true).set ed.b.toNat true)) (n0:=4) ⟨t+1,z+1,by omega,by omega,rfl,rfl,by rw [fin _ hrel];rfl,rfl⟩ ?_ ?_ (by decide)
                ·unfold wW r5;((repeat' refine iE rfl rfl ?_);exact iN)
                ·unfold bM cM aY aD;have bQ:=RP (s:=s) (a:=ed.a.toNat) (b:=ed.b.toNat) (o1:=0+ed.a.toNat*1) (o2:=0+ed.b.toNat*1) (by omega) (by omega) (by omega) (by omega);((repeat'(first|refine iW rfl rfl (aZ (aG eH _) bQ) ?_|refine iF rfl rfl ?_|refine iC rfl rfl rfl ?_|refine iJ rfl rfl rfl rfl ?_));exact iN)
               ·exfalso;simp [aA,aB,aI] at k5;omega
              ·have hpl:(c8 (flat eH.fl s) (0+ed.a.toNat*1) [.bool true]).length=l.length:=(by rw [dL (by rw [hsl];show 0+ed.a.toNat*1+1≤l.length;omega)];exact hsl);have k4:(0+ed.b.toNat*1+1).ble (c8 (flat eH.fl s) (0+ed.a.toNat*1) [.bool true]).length=false:=k4;rw [hpl] at k4;exact eV k4 (by omega)
             ·exfalso;simp [aA,aB] at k3;omega
            ·rw [hsl] at k2;exact eV k2 (by show 0+ed.a.toNat*1+1≤l.length;omega)
           ·exfalso;simp [aA,aB] at k1;omega
         ·exfalso;simp [aA,aB] at h5;omega
        ·exfalso;simp [aA,aB] at h4;omega
       ·have hge:t=m.length:=(by simp [aA,aB] at h3;omega);have hcn:dQ l m (i+1)=s:=by
         show nB m (dQ l m i) m.length=s;rw [← hge];exact hs0
        ((conv=>whnf);refine bm (fun h4=>?_) (fun h4=>?_))
        ·(conv=>whnf);refine⟨l.length - (i+1),by omega,?_⟩;refine aM (e0:=r5 l.length (j+1)) (h0:=bM l m c1 c2 n s) (n0:=4) ⟨i+1,j+1,by omega,by omega,rfl,rfl,by rw [hcn];rfl,rfl⟩ ?_ ?_ (by decide)
         ·unfold r5;((repeat' refine iE rfl rfl ?_);exact iN)
         ·unfold bM cM aY aD;((repeat'(first|refine iF rfl rfl ?_|refine iC rfl rfl rfl ?_|refine iJ rfl rfl rfl rfl ?_));exact iN)
        ·exfalso;simp [aA,aB,aI] at h4;omega
     ·have hge:i=l.length:=(by simp [aA,aB] at h2;omega);have hcon:KV l m=(dQ l m i).all id:=(by rw [hge];rfl);generalize dQ l m i=s at cl hcon;rw [hcon];clear hcon;(conv=>whnf);refine⟨fun q e h nx=>∃ (t:Nat) (z:Int),z=t∧t≤l.length∧q=l.length - t∧s.all id=(s.drop t).all id∧e=J2 l.length z∧h=bM l m c1 c2 n s∧nx=4,⟨l.length,?_⟩,?_⟩
      ·refine aM (e0:=J2 l.length 0) (h0:=bM l m c1 c2 n s) (n0:=4) ⟨0,0,rfl,Nat.zero_le _,rfl,rfl,rfl,rfl,rfl⟩ ?_ ?_ (by decide)
       ·unfold J2;((repeat' refine iE rfl rfl ?_);exact iN)
       ·unfold bM cM aY aD;((repeat'(first|refine iF rfl rfl ?_|refine iC rfl rfl rfl ?_|refine iJ rfl rfl rfl rfl ?_));exact iN)
      ·rintro q e h nx ⟨t,z,hz,ht,rfl,hall,rfl,rfl,rfl⟩;unfold J2 bM cM aY aD;((conv=>whnf);refine bm (fun h3=>?_) (fun h3=>?_))
       ·have htl:t<l.length:=(by simp [aA,aB] at h3;omega);have hd:s.drop t=cG s t::s.drop (t+1):=(by rw [qX (by omega)];exact List.drop_eq_getElem_cons (by omega));rw [hd,List.all_cons] at hall;((conv=>whnf);refine bm (fun h4=>?_) (fun h4=>?_))
        ·(conv=>whnf);refine gI (H8 s (i:=t) (by omega) ?_) ?_
         ·show _+Int.toNat z*1=_;omega
         ((conv=>whnf);refine bm (fun h5=>?_) (fun h5=>?_))
         ·have h5:cG s t=false:=(by simpa [aA,aB] using h5);(conv=>whnf);rw [hall,h5];rfl
         ·have h5:cG s t=true:=(by simpa [aA,aB] using h5);((conv=>whnf);refine bm (fun h6=>?_) (fun h6=>?_))
          ·(conv=>whnf);refine⟨l.length - (t+1),by omega,?_⟩;refine aM (e0:=J2 l.length (z+1)) (h0:=bM l m c1 c2 n s) (n0:=4) ⟨t+1,z+1,by omega,by omega,rfl,by rw [hall,h5];rfl,rfl,rfl,rfl⟩ ?_ ?_ (by decide)
           ·unfold J2;((repeat' refine iE rfl rfl ?_);exact iN)
           ·unfold bM cM aY aD;((repeat'(first|refine iF rfl rfl ?_|refine iC rfl rfl rfl ?_|refine iJ rfl rfl rfl rfl ?_));exact iN)
          ·exfalso;simp [aA,aB,aI] at h6;omega
        ·exfalso;simp [aA,aB] at h4;omega
       ·have hgt:t=l.length:=(by simp [aA,aB] at h3;omega);(conv=>whnf);rw [hall,hgt,List.drop_eq_nil_of_le (by omega)];rfl
end Go.Aw
end
