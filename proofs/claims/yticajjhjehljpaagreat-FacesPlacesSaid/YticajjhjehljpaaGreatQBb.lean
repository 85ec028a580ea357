/-
  FacesPlaces No condition.
-/
import Derived.Test.YticajjhjehljpaaGreatQAh
import Derived.Test.YticajjhjehljpaaGreatQAk
import Derived.Test.YticajjhjehljpaaGreatQAx
import Derived.Test.YticajjhjehljpaaGreatQAy
import Derived.Test.YticajjhjehljpaaGreatQAz
import Derived.Test.YticajjhjehljpaaGreatQBa
set_option linter.unusedSimpArgs false
set_option linter.unusedVariables false
noncomputable section
namespace Go.Aw
set_option maxRecDepth 100000
set_option maxHeartbeats 2000000
theorem NH (P:Pt)(s:Sg):OnR P s=F3 P s:=by
 unfold OnR F3;cases h:dL s with
 |false=>rw [Bool.and_false,Bool.false_and,Bool.false_and]
 |true=>rw [JC P s h]
def s52 (l:List Pt)(m:List Ed)(n:Int):List Value→Option (Bool × List Int × Option Int)
 |[.agg ⟨[.int .i64 x,.int .i64 y]⟩]=>some (kS l m&&decide (m.length≤1000),D6 l m (x,y),none)
 |_=>none
def e52 (v:Value)(j:Int):List (Nat × Value):=[(2,pV 2),(3,pV 3),(5,v),(6,iv j)]
def QT (l:List Pt)(m:List Ed)(c1 c2:Nat)(n:Int)(P:Pt):Heap:=(3,.cells true false 1 [iv P.1,iv P.2])::(2,cR l.length m.length c1 c2 n)::aL bC bL l m
def aGc:Nat × XF:=(52,mRX s52)
theorem aOh:cO Go.Proofs.Tryz.prog aGc.1 aGc.2:=V7 (aH (xl:=[aHN,X21]) (.cons aNS (.cons x21 .nil))) fun l m n r out e hs=>by
 have:∃ P:Pt,r=[.agg #[iv P.1,iv P.2]]∧kS l m=true∧m.length≤1000∧out=D6 l m P∧e=none:=by
  unfold s52 at hs;split at hs
  ·injection hs with hs;injection hs with h1 h2;injection h2 with h2 h3;simp only [Bool.and_eq_true,decide_eq_true_eq] at h1;exact⟨(_,_),rfl,h1.1,h1.2,h2.symm,h3.symm⟩
  ·cases hs
 obtain⟨P,rfl,hok,hm,rfl,rfl⟩:=this;clear hs;obtain⟨p1,p2⟩:=P;refine⟨rfl,fun c1 c2=>?_⟩;unfold D6;(conv=>whnf)
 refine⟨fun q e h nx=>∃ (i:Nat) (j:Int),j=i∧i≤m.length∧q=m.length - i ∧
  ((bS (nQ l (p1,p2)) m i=[]∧e=e52 (.slice none 0 0) j∧h=QT l m c1 c2 n (p1,p2)∧nx=4) ∨
   (0<(bS (nQ l (p1,p2)) m i).length∧e=e52 (.slice (some ⟨4,0,none⟩) (bS (nQ l (p1,p2)) m i).length (bS (nQ l (p1,p2)) m i).length) j∧h=(4,.cells true false 1 (flat aT.fl (bS (nQ l (p1,p2)) m i)))::QT l m c1 c2 n (p1,p2)∧nx=5)),⟨m.length,?_⟩,?_⟩
 ·refine aJ (e0:=e52 (.slice none 0 0) 0) (h0:=QT l m c1 c2 n (p1,p2)) (n0:=4) ⟨0,0,rfl,Nat.zero_le _,rfl,.inl ⟨rfl,rfl,rfl,rfl⟩⟩ ?_ ?_ (by decide)
  ·unfold e52;((repeat' refine iE rfl rfl ?_);exact iN)
  unfold QT cR aL;((repeat'(first|refine iF rfl rfl ?_|refine iC rfl rfl rfl ?_|refine iJ rfl rfl rfl rfl ?_));exact iN)
 rintro q e h nx ⟨i,j,hj,hi,rfl,hx⟩;rcases hx with ⟨hnil,rfl,rfl,rfl⟩|⟨hpos,rfl,rfl,rfl⟩
 ·unfold e52 QT cR aL;((conv=>whnf);apply bm<;>intro m1);rotate_left
  ·have hil:i=m.length:=(by simp [aA,aC] at m1;omega);(conv=>whnf);rw [hil] at hnil;rw [hnil];rfl
  have hil:i<m.length:=(by simp [aA,aC] at m1;omega);(conv=>whnf);refine⟨l,m,aG bC rfl,aG bL rfl,?_⟩;refine aI (show (kS l m&&(decide (0≤j)&&decide (j<m.length)))=true from ?_) ?_
  ·rw [hok,decide_eq_true (show 0≤j by omega),decide_eq_true (show j<m.length by omega)];rfl
  have hjn:j.toNat=i:=(by omega);have hpr:nQ l (p1,p2) (bO m i)=F3 (p1,p2) (aS l m j.toNat):=(by rw [hjn];rfl);(conv=>whnf);cases hp:nQ l (p1,p2) (bO m i) with
  |true =>
   rw [hp] at hpr;have hf:bS (nQ l (p1,p2)) m (i+1)=[j]:=(by rw [v5 hp,hnil,hj];rfl);rw [NH,← hpr]
   repeat' (((conv=>whnf);apply bm<;>intro g))
   all_goals (conv=>whnf)
   all_goals first
    |(refine⟨m.length - (i+1),by omega,?_⟩
      refine j5 (e0:=e52 (.slice (some ⟨4,0,none⟩) 1 1) (j+1)) (h0:=(4,.cells true false 1 (flat aT.fl [j]))::QT l m c1 c2 n (p1,p2)) (n0:=5) 4 5 (by decide) (by decide) ⟨i+1,j+1,by omega,by omega,rfl,.inr ⟨by rw [hf];exact Nat.one_pos,by rw [hf];rfl,by rw [hf];rfl,rfl⟩⟩ ?_ ?_ ?_
      ·unfold e52;((repeat' refine iE rfl rfl ?_);exact iN)
      ·unfold QT cR aL;((repeat'(first|refine iF rfl rfl ?_|refine iC rfl rfl rfl ?_|refine iJ rfl rfl rfl rfl ?_));exact iN)
      unfold QT;((repeat' refine iK rfl ?_);exact iN))
    |(exfalso;clear hf;simp [aA,aC,aF] at *;first|omega|(simp_all;done)|(simp_all;omega))
  |false =>
   rw [hp] at hpr;have hf:bS (nQ l (p1,p2)) m (i+1)=[]:=(rC hp).trans hnil;rw [NH,← hpr]
   repeat' (((conv=>whnf);apply bm<;>intro g))
   all_goals (conv=>whnf)
   all_goals first
    |(refine⟨m.length - (i+1),by omega,?_⟩
      refine aJ (e0:=e52 (.slice none 0 0) (j+1)) (h0:=QT l m c1 c2 n (p1,p2)) (n0:=4) ⟨i+1,j+1,by omega,by omega,rfl,.inl ⟨hf,rfl,rfl,rfl⟩⟩ ?_ ?_ (by decide)
      ·unfold e52;((repeat' refine iE rfl rfl ?_);exact iN)
      unfold QT cR aL;((repeat'(first|refine iF rfl rfl ?_|refine iC rfl rfl rfl ?_|refine iJ rfl rfl rfl rfl ?_));exact iN))
    |(exfalso;clear hf;simp [aA,aC,aF] at *;first|omega|(simp_all;done)|(simp_all;omega))
 unfold e52 QT cR aL;have hlen:(flat aT.fl (bS (nQ l (p1,p2)) m i)).length=(bS (nQ l (p1,p2)) m i).length:=(by rw [bE];show _*1=_;omega);have hle:=mZ (nQ l (p1,p2)) m i;((conv=>whnf);apply bm<;>intro m1);rotate_left
 ·have hil:i=m.length:=(by simp [aA,aC] at m1;omega);(conv=>whnf);rw [show bS (nQ l (p1,p2)) m m.length=bS (nQ l (p1,p2)) m i by rw [← hil]];have:=mF aT (l:=bS (nQ l (p1,p2)) m i) (e:=none) (h:=(4,.cells true false 1 (flat aT.fl (bS (nQ l (p1,p2)) m i)))::QT l m c1 c2 n (p1,p2)) (q:=4) (nx:=5) hpos rfl;exact this
 have hil:i<m.length:=(by simp [aA,aC] at m1;omega);(conv=>whnf);refine⟨l,m,aG bC rfl,aG bL rfl,?_⟩;refine aI (show (kS l m&&(decide (0≤j)&&decide (j<m.length)))=true from ?_) ?_
 ·rw [hok,decide_eq_true (show 0≤j by omega),decide_eq_true (show j<m.length by omega)];rfl
 have hjn:j.toNat=i:=(by omega);have hpr:nQ l (p1,p2) (bO m i)=F3 (p1,p2) (aS l m j.toNat):=(by rw [hjn];rfl);(conv=>whnf);cases hp:nQ l (p1,p2) (bO m i) with
 |true =>
  rw [hp] at hpr;have hf:bS (nQ l (p1,p2)) m (i+1)=bS (nQ l (p1,p2)) m i++[j]:=(by rw [v5 hp,hj]);rw [NH,← hpr];generalize bS (nQ l (p1,p2)) m i=L at *
  repeat' (((conv=>whnf);apply bm<;>intro g))
  all_goals (conv=>whnf)
  all_goals first
   |(refine⟨m.length - (i+1),by omega,?_⟩
     refine j5 (e0:=e52 (.slice (some ⟨4,0,none⟩) (L.length+1) (L.length+1)) (j+1)) (h0:=(4,.cells true false 1 (flat aT.fl (L++[j])))::QT l m c1 c2 n (p1,p2)) (n0:=5) 4 6 (by decide) (by decide) ⟨i+1,j+1,by omega,by omega,rfl,.inr ⟨by rw [hf,List.length_append];exact Nat.succ_pos _,by rw [hf,List.length_append];rfl,by rw [hf];rfl,rfl⟩⟩ ?_ ?_ ?_
     ·unfold e52;((repeat' refine iE rfl rfl ?_);exact iN)
     ·unfold QT cR aL;((repeat'(first|refine iW rfl rfl (bB (aD aT _) (fU aT L j rfl)) ?_|refine iF rfl rfl ?_|refine iC rfl rfl rfl ?_|refine iJ rfl rfl rfl rfl ?_));exact iN)
     unfold QT;((repeat' refine iK rfl ?_);exact iN))
   |exact nN (s:=1) (by omega) (by omega) (by assumption)
   |(exfalso;rename_i g;have:=Nat.le_of_ble_eq_true g;omega)
   |(exfalso;clear hf;simp [aA,aC,aF] at *;first|omega|(simp_all;done)|(simp_all;omega))
 |false =>
  rw [hp] at hpr;have hf:bS (nQ l (p1,p2)) m (i+1)=bS (nQ l (p1,p2)) m i:=rC hp;rw [NH,← hpr];generalize bS (nQ l (p1,p2)) m i=L at *
  repeat' (((conv=>whnf);apply bm<;>intro g))
  all_goals (conv=>whnf)
  all_goals first
   |(refine⟨m.length - (i+1),by omega,?_⟩
     refine aJ (e0:=e52 (.slice (some ⟨4,0,none⟩) L.length L.length) (j+1)) (h0:=(4,.cells true false 1 (flat aT.fl L))::QT l m c1 c2 n (p1,p2)) (n0:=5) ⟨i+1,j+1,by omega,by omega,rfl,.inr ⟨by rw [hf];exact hpos,by rw [hf];rfl,by rw [hf];rfl,rfl⟩⟩ ?_ ?_ (by decide)
     ·unfold e52;((repeat' refine iE rfl rfl ?_);exact iN)
     unfold QT cR aL;((repeat'(first|refine iF rfl rfl ?_|refine iC rfl rfl rfl ?_|refine iJ rfl rfl rfl rfl ?_));exact iN))
   |(exfalso;clear hf;simp [aA,aC,aF] at *;first|omega|(simp_all;done)|(simp_all;omega))
set_option maxHeartbeats 4000000
def ER (a b Q:Pt):Bool :=
 if 2*b.2<2*a.2 then (decide (2*b.2≤Q.2)&&(decide (Q.2<2*a.2)&&decide (0<aP (2*b.1,2*b.2) (2*a.1,2*a.2) Q)))
 else (decide (2*a.2≤Q.2)&&(decide (Q.2<2*b.2)&&decide (0<aP (2*a.1,2*a.2) (2*b.1,2*b.2) Q)))
def aAV (l:List Pt)(m:List Ed)(Q:Pt)(d:Int):Bool:=ER (fA l (bR m d).toNat) (fA l (gH m d).toNat) Q
def E0 (l:List Pt)(m:List Ed)(Q:Pt)(W:List Int):Nat→Int
 |0=>0
 |k+1=>if aAV l m Q (aK W k)=true then E0 l m Q W k+1 else E0 l m Q W k
theorem TG (l:List Pt)(m:List Ed)(Q:Pt)(W:List Int):∀ k,0≤E0 l m Q W k∧E0 l m Q W k≤k
 |0=>⟨Int.le_refl _,Int.le_refl _⟩
 |k+1=>by
  have:=TG l m Q W k;unfold E0;split <;> omega
def R7 (l:List Pt)(m:List Ed)(Q:Pt)(f:Int):Int:=E0 l m Q (B9 l m f) (B9 l m f).length
def UX (l:List Pt)(m:List Ed)(Q:Pt):Nat→Int→Int
 |0,_=>0
 |k+1,f=>if R7 l m Q f % 2=1 then f else UX l m Q k (f+1)
def aBi (l:List Pt)(m:List Ed)(n:Int)(Q:Pt):Int:=UX l m Q n.toNat 1
def s53 (l:List Pt)(m:List Ed)(n:Int):List Value→Option (Bool × Value)
 |[.int .i64 x,.int .i64 y]=>some (a8 l m n&&(wide (x,y)),iv (aBi l m n (x,y)))
 |_=>none
def e53 (f:Int):List (Nat × Value):=[(3,pV 2),(7,pV 3),(8,iv f)]
def h53 (l:List Pt)(m:List Ed)(c1 c2:Nat)(n x y:Int):Heap:=(3,.cells true false 1 [iv x,iv y])::(2,cR l.length m.length c1 c2 n)::aL bC bL l m
def S5 (N:Nat)(f c j:Int):List (Nat × Value):=[(3,pV 2),(7,pV 3),(8,iv f),(9,.slice (some ⟨4,0,none⟩) N N),(10,iv c),(11,iv j)]
def RS (l:List Pt)(m:List Ed)(c1 c2:Nat)(n x y:Int)(W:List Int):Heap:=(4,.cells true false 1 (flat aT.fl W))::h53 l m c1 c2 n x y
def aLe:Nat × XF:=(53,mX bC bL s53)
theorem aQf:cO Go.Proofs.Tryz.prog aLe.1 aLe.2:=mV bC bL (aH (xl:=[aKO,X87,aD7,aFe]) (.cons aQ2 (.cons x87 (.cons aKQ (.cons aKe .nil))))) fun l m n r v hs=>by
 have:∃ x y,r=[iv x,iv y]∧a8 l m n=true∧wide (x,y)=true∧v=iv (aBi l m n (x,y)):=by
  unfold s53 at hs;split at hs
  ·injection hs with hs;injection hs with h1 h2;simp only [Bool.and_eq_true] at h1;exact⟨_,_,rfl,h1.1,h1.2,h2.symm⟩
  ·cases hs
 obtain⟨x,y,rfl,ho,hw,rfl⟩:=this;clear hs;simp only [wide,Bool.and_eq_true,decide_eq_true_eq] at hw;obtain⟨hM,h3,h1l,h400,m400,_,_⟩:=cZ (aZ ho);obtain⟨hn1,hn2,_⟩:1≤n∧n≤100∧True:=by
  obtain⟨_,_,_,_,_,a,b⟩:=cZ (aZ ho);exact⟨a,b,trivial⟩
 have hrg:=fun i (hi:i<l.length)=>mD (aZ ho) hi;refine⟨rfl,rfl,fun c1 c2=>?_⟩;(conv=>whnf);refine⟨fun q e h nx=>∃ f:Int,1≤f∧f≤n+1∧q=(n+1 - f).toNat∧aBi l m n (x,y)=UX l m (x,y) (n+1 - f).toNat f∧e=e53 f∧h=h53 l m c1 c2 n x y∧nx=4,⟨n.toNat,?_⟩,?_⟩
 ·refine aJ (e0:=e53 1) (h0:=h53 l m c1 c2 n x y) (n0:=4) ⟨1,Int.le_refl _,by omega,by omega,?_,rfl,rfl,rfl⟩ ?_ ?_ (by decide)
  ·rw [show n+1 - 1=n by omega];rfl
  ·unfold e53;((repeat' refine iE rfl rfl ?_);exact iN)
  unfold h53 cR aL;((repeat'(first|refine iF rfl rfl ?_|refine iC rfl rfl rfl ?_|refine iJ rfl rfl rfl rfl ?_));exact iN)
 rintro q e h nx ⟨f,f1,f2,rfl,hacc,rfl,rfl,rfl⟩;unfold e53 h53 cR aL;((conv=>whnf);apply bm<;>intro m1);rotate_left
 ·have m1:f=n+1:=by have m1:¬ f≤n:=by simpa [aA,aC] using m1
                    omega
  (conv=>whnf);rw [hacc,m1,show n+1 - (n+1)=0 by omega];rfl
 have m1:f≤n:=(by simpa [aA,aC] using m1);have hb:u6 n f=true:=(by simp only [u6,Bool.and_eq_true,decide_eq_true_eq];omega);obtain⟨w1,w2,w3,_⟩:=aJ3 ho hb;(conv=>whnf);refine⟨_,_,_,[iv f],l,m,rfl,aG bC rfl,aG bL rfl,?_⟩;rw [show wkR l m n [iv f]=some (a8 l m n&&u6 n f,B9 l m f,[]) from rfl];refine aI (show (a8 l m n&&u6 n f)=true by rw [ho,hb];rfl) ?_;have hcF:R7 l m (x,y) f=E0 l m (x,y) (B9 l m f) (B9 l m f).length:=rfl;generalize B9 l m f=W at *;(conv=>whnf);refine⟨fun q e h nx=>∃ (i:Nat) (j c:Int),j=i∧i≤W.length∧q=W.length - i∧c=E0 l m (x,y) W i∧e=S5 W.length f c j∧h=RS l m c1 c2 n x y W∧nx=5,⟨W.length,?_⟩,?_⟩
 ·refine aJ (e0:=S5 W.length f 0 0) (h0:=RS l m c1 c2 n x y W) (n0:=5) ⟨0,0,0,rfl,Nat.zero_le _,rfl,rfl,rfl,rfl,rfl⟩ ?_ ?_ (by decide)
  ·unfold S5;((repeat' refine iE rfl rfl ?_);exact iN)
  unfold RS h53 cR aL;((repeat'(first|refine iF rfl rfl ?_|refine iC rfl rfl rfl ?_|refine iJ rfl rfl rfl rfl ?_));exact iN)
 rintro q e h nx ⟨i,j,c,hj,hi,rfl,hc,rfl,rfl,rfl⟩;have hlow:=TG l m (x,y) W i;rw [← hc] at hlow;unfold S5 RS h53 cR aL;((conv=>whnf);apply bm<;>intro k1);rotate_left
 ·have hil:i=W.length:=(by simp [aA,aC] at k1;omega);subst hil;obtain⟨k,hk⟩:∃ k,(n+1 - f).toNat=k+1:=⟨(n - f).toNat,by omega⟩;have hk2:(n+1 - (f+1)).toNat=k:=(by omega);have hcc:R7 l m (x,y) f=c:=(by rw [hcF,hc]);have hq:c.tmod 2=c % 2:=Int.tmod_eq_emod_of_nonneg hlow.1;rw [hk,UX,hcc] at hacc
  repeat' ((conv=>whnf);apply bm<;>intro g)
  all_goals first
   |(have g2:c % 2=1:=by (rw [← hq];simp [aA,aC] at *;assumption)
     (conv=>whnf);rw [hacc,if_pos g2])
   |(have g2:¬ c % 2=1:=by (rw [← hq];simp [aA,aC] at *;assumption)
     (conv=>whnf);refine⟨k,by omega,?_⟩;refine aJ (e0:=e53 (f+1)) (h0:=h53 l m c1 c2 n x y) (n0:=4) ⟨f+1,by omega,by omega,hk2.symm,(by rw [hacc,if_neg g2,hk2]),rfl,rfl,rfl⟩ ?_ ?_ (by decide)
     ·unfold e53;((repeat' refine iE rfl rfl ?_);exact iN)
     unfold h53 cR aL;((repeat'(first|refine iF rfl rfl ?_|refine iC rfl rfl rfl ?_|refine iJ rfl rfl rfl rfl ?_));exact iN))
   |(exfalso;clear hacc hcF w1 hrg hc;simp [aA,aC,aF] at *;first|omega|(simp_all;done)|(simp_all;omega))
 have hil:i<W.length:=(by simp [aA,aC] at k1;omega);have hdI:nB m (aK W i)=true:=by
  rw [cX hil];exact List.all_eq_true.1 w1 _ (List.getElem_mem hil)
 have hfr:=rE hM hdI;have hto:=CR hM hdI;have hra:=hrg (bR m (aK W i)).toNat (by omega);have hrb:=hrg (gH m (aK W i)).toNat (by omega);have hcs:E0 l m (x,y) W (i+1)=if aAV l m (x,y) (aK W i)=true then c+1 else c:=by rw [E0,← hc]
 unfold aAV at hcs;rcases Int.lt_or_le (2*(fA l (gH m (aK W i)).toNat).2) (2*(fA l (bR m (aK W i)).toNat).2) with hsw|hsw
 all_goals cases hh:ER (fA l (bR m (aK W i)).toNat) (fA l (gH m (aK W i)).toNat) (x,y)
 all_goals rw [hh] at hcs
 all_goals repeat' first
  |(((conv=>whnf);apply bm<;>intro g))
  |((conv=>whnf)
    refine iU (iA W (i:=i) hil ?_) ?_
    ·show _+Int.toNat j*1=_;omega)
  |((conv=>whnf)
    refine⟨l,m,aG bC rfl,aG bL rfl,?_⟩;refine aI (show nB m (aK W i)=true from hdI) ?_)
  |((conv=>whnf)
    refine n8 (jA l (i:=(bR m (aK W i)).toNat) (by omega) ?_) ?_
    ·show _+Int.toNat (bR m (aK W i))*2=_;omega)
  |((conv=>whnf)
    refine n8 (jA l (i:=(gH m (aK W i)).toNat) (by omega) ?_) ?_
    ·show _+Int.toNat (gH m (aK W i))*2=_;omega)
 all_goals first
  |((conv=>whnf)
    refine⟨W.length - (i+1),by omega,?_⟩;refine aJ (e0:=S5 W.length f (c+1) (j+1)) (h0:=RS l m c1 c2 n x y W) (n0:=5) ⟨i+1,j+1,c+1,by omega,by omega,rfl,(by rw [hcs,if_pos rfl]),rfl,rfl,rfl⟩ ?_ ?_ (by decide)
    ·unfold S5;((repeat' refine iE rfl rfl ?_);exact iN)
    unfold RS h53 cR aL;((repeat'(first|refine iF rfl rfl ?_|refine iC rfl rfl rfl ?_|refine iJ rfl rfl rfl rfl ?_));exact iN))
  |((conv=>whnf)
    refine⟨W.length - (i+1),by omega,?_⟩;refine aJ (e0:=S5 W.length f c (j+1)) (h0:=RS l m c1 c2 n x y W) (n0:=5) ⟨i+1,j+1,c,by omega,by omega,rfl,(by rw [hcs,if_neg Bool.false_ne_true]),rfl,rfl,rfl⟩ ?_ ?_ (by decide)
    ·unfold S5;((repeat' refine iE rfl rfl ?_);exact iN)
    unfold RS h53 cR aL;((repeat'(first|refine iF rfl rfl ?_|refine iC rfl rfl rfl ?_|refine iJ rfl rfl rfl rfl ?_));exact iN))
  |(exfalso;clear hcs hacc hcF w1 hrg hc
    unfold ER at hh;first|rw [if_pos hsw] at hh|rw [if_neg (Int.not_lt.2 hsw)] at hh
    simp [aA,aC,aF,wide] at *;first|omega|(simp_all;done)|(simp_all;omega))
theorem YH {f g:Nat→Int}:∀ {n:Nat},(∀ i,i<n→∃ k:Int,f i=g i+2*k)→∃ k:Int,sN f n=sN g n+2*k
 |0,_=>⟨0,rfl⟩
 |n+1,h=>by
  obtain⟨k,hk⟩:=YH (n:=n) fun i hi=>h i (by omega);obtain⟨j,hj⟩:=h n (by omega);exact⟨k+j,by rw [sN,sN,hk,hj];omega⟩
section
variable {l:List Pt}{m:List Ed}{n:Int}{P:Pt}
theorem aMg (ho:a8 l m n=true)(hP:aM P=true)(hL:D6 l m P=[]):EV l m P:=fun i hi=>by
 have hs:=(lS (aZ ho) hi).1;have:nQ l P (bO m i)=false:=by
  cases h:nQ l P (bO m i) with
  |false=>rfl
  |true =>
   have:(i:Int)∈D6 l m P:=(AH _ _ _ _).2 ⟨by omega,by omega,by rw [Int.toNat_natCast];exact h⟩;rw [hL] at this;cases this
 have h2:F3 P (aS l m i)=false:=this;unfold F3 at h2;rw [hP,hs,Bool.true_and,Bool.true_and,JC P _ hs] at h2;exact h2
theorem aJn {S:List Int}:∀ {q:Nat},q<S.length→AT l m P (aK S q).toNat<0→(∀ r,r<q→¬ AT l m P (aK S r).toNat<0)→atS l m P S=(bO m (aK S q).toNat).r:=by
 induction S with
 |nil=>intro q h;cases h
 |cons y t ih =>
  intro q h1 h2 h3;cases q with
  |zero=>exact if_pos h2
  |succ q =>
   have:¬ aP (aS l m y.toNat).1 (aS l m y.toNat).2 P<0:=h3 0 (by omega);rw [atS,if_neg this];exact ih (q:=q) (by simpa using h1) h2 fun r hr=>h3 (r+1) (by omega)
theorem aJ2 {S:List Int}(h:∀ r,r<S.length→¬ AT l m P (aK S r).toNat<0):atS l m P S=0:=by
 induction S with
 |nil=>rfl
 |cons y t ih =>
  have:¬ aP (aS l m y.toNat).1 (aS l m y.toNat).2 P<0:=h 0 (by simp);rw [atS,if_neg this];exact ih fun r hr=>h (r+1) (by simpa using hr)
theorem aKp (ho:a8 l m n=true)(hoff:EV l m P)(f:Int):wnd l m P (cF l m f)=(if L7 l m P=f then 1 else 0) - (if f=0 then 1 else 0):=by
 have h:=aCZ ho hoff (x:=P.1) (.inl rfl) f;rcases QS l m P.1 P with ⟨q,h1,h2,h3⟩|h0
 ·have e:L7 l m P=tQ l m (2*cE l m P.1 q+1):=by
   refine (aJn (S:=iB l m P.1) h1 h2 h3).trans ?_;exact (ZN ho (BB ho h1).1).2
  rw [h.1 q h1 h2 h3,e]
 have e:L7 l m P=0:=aJ2 h0;rw [h.2 h0,e];by_cases g:f=0
 ·rw [if_pos g,if_pos g.symm];rfl
 rw [if_neg g,if_neg fun e=>g e.symm];rfl
theorem aDR (ho:a8 l m n=true):0≤L7 l m P∧L7 l m P≤n:=by
 rcases QS l m P.1 P with ⟨q,h1,h2,h3⟩|h0
 ·have hE:=BB ho h1;have e:L7 l m P=tQ l m (2*cE l m P.1 q+1):=by
   refine (aJn (S:=iB l m P.1) h1 h2 h3).trans ?_;exact (ZN ho hE.1).2
  rw [e];exact JU ho (by omega)
 have e:L7 l m P=0:=aJ2 h0;rw [e];have:=(cZ (aZ ho)).2.2.2.2.2.1;omega
theorem aDo (a b P:Pt):aP (2*a.1,2*a.2) (2*b.1,2*b.2) (2*P.1,2*P.2)=4*aP a b P:=by unfold aP;simp only;grind
theorem aCX (a b P:Pt):aP b a P = -aP a b P:=by unfold aP;grind
def aBg (l:List Pt)(m:List Ed)(P:Pt)(d:Nat):Int:=if aAV l m (2*P.1,2*P.2) (d:Int)=true then 1 else 0
theorem aLv (a b P:Pt):wn (1,0) 1 P (a,b)=(if ER a b (2*P.1,2*P.2)=true then 1 else 0)∨wn (1,0) 1 P (a,b) = -(if ER a b (2*P.1,2*P.2)=true then 1 else 0):=by
 have hr:=aDP (p:=fun i=>if i=0 then a else b) (a:=fun _=>0) (b:=fun _=>1) (P:=P) (k:=0);unfold sJ at hr;simp only [if_true,Nat.one_ne_zero,if_false] at hr;rw [hr];unfold ER;by_cases g:2*b.2<2*a.2
 ·rw [if_pos g];right;rw [aDo,aCX a b P,if_neg (by omega)];simp only [Bool.and_eq_true,decide_eq_true_eq];by_cases g2:P.2<a.2∧b.2≤P.2
  ·rw [if_pos g2];by_cases g3:aP a b P<0
   ·rw [if_pos g3,if_pos ⟨by omega,by omega,by omega⟩]
   rw [if_neg g3,if_neg (fun h=>by omega)];rfl
  rw [if_neg g2,if_neg (fun h=>by omega)];rfl
 rw [if_neg g];left;rw [aDo];simp only [Bool.and_eq_true,decide_eq_true_eq];by_cases g2:a.2≤P.2∧P.2<b.2
 ·rw [if_pos g2];by_cases g3:0<aP a b P
  ·rw [if_pos g3,if_pos ⟨by omega,by omega,by omega⟩]
  rw [if_neg g3,if_neg (fun h=>by omega)]
 rw [if_neg g2,if_neg (by omega),if_neg (fun h=>by omega)]
theorem aKa (a b Q:Pt):ER b a Q=ER a b Q:=by
 unfold ER;by_cases g:2*b.2<2*a.2
 ·rw [if_neg (by omega),if_pos g]
 by_cases g2:2*a.2<2*b.2
 ·rw [if_pos g2,if_neg g]
 rw [if_neg g2,if_neg g];have e:2*a.2=2*b.2:=(by omega);have h:∀ t s:Bool,(decide (2*b.2≤Q.2)&&(decide (Q.2<2*a.2)&&t))=false:=fun t s=>by
  by_cases g3:2*b.2≤Q.2
  ·rw [decide_eq_false (show ¬ Q.2<2*a.2 by omega),Bool.false_and,Bool.and_false]
  rw [decide_eq_false g3,Bool.false_and]
 have h2:∀ t s:Bool,(decide (2*a.2≤Q.2)&&(decide (Q.2<2*b.2)&&t))=false:=fun t s=>by
  by_cases g3:2*a.2≤Q.2
  ·rw [decide_eq_false (show ¬ Q.2<2*b.2 by omega),Bool.false_and,Bool.and_false]
  rw [decide_eq_false g3,Bool.false_and]
 rw [h _ true,h2 _ true]
theorem aHY (i:Nat):aBg l m P (2*i)=(if ER (pN l (aN m i)) (pN l (bN m i)) (2*P.1,2*P.2)=true then 1 else 0)∧aBg l m P (2*i+1)=(if ER (pN l (aN m i)) (pN l (bN m i)) (2*P.1,2*P.2)=true then 1 else 0):=by
 have f0:bR m ((2*i:Nat):Int)=(bO m i).a:=by
  unfold bR;rw [if_pos (by omega),show (((2*i:Nat):Int) / 2).toNat=i by omega]
 have t0:gH m ((2*i:Nat):Int)=(bO m i).b:=by
  unfold gH bR;rw [if_neg (by omega),show ((((2*i:Nat):Int)+1 - 2*(((2*i:Nat):Int) % 2)) / 2).toNat=i by omega]
 have f1:bR m ((2*i+1:Nat):Int)=(bO m i).b:=by
  unfold bR;rw [if_neg (by omega),show (((2*i+1:Nat):Int) / 2).toNat=i by omega]
 have t1:gH m ((2*i+1:Nat):Int)=(bO m i).a:=by
  unfold gH bR;rw [if_pos (by omega),show ((((2*i+1:Nat):Int)+1 - 2*(((2*i+1:Nat):Int) % 2)) / 2).toNat=i by omega]
 unfold aBg aAV;rw [f0,t0,f1,t1,aKa (fA l (bO m i).a.toNat) (fA l (bO m i).b.toNat)];exact⟨rfl,rfl⟩
theorem YL (l:List Pt)(m:List Ed)(Q:Pt)(W:List Int):∀ k,E0 l m Q W k=sN (fun j=>if aAV l m Q (aK W j)=true then 1 else 0) k
 |0=>rfl
 |k+1=>by
  rw [E0,sN,YL l m Q W k];split <;> omega
theorem aGu (ho:a8 l m n=true){f:Int}(h0:0≤f)(h1:f≤n):∃ k:Int,R7 l m (2*P.1,2*P.2) f=wnd l m P (cF l m f)+2*k:=by
 have hb:u6 n f=true:=(by simp [u6,h0,h1]);have hin:=(aJ3 ho hb).1;have hW:∀ x∈B9 l m f,0≤x∧x<2*m.length:=fun x hx=>by
  have:=List.all_eq_true.1 hin x hx;simp only [nB,Bool.and_eq_true,decide_eq_true_eq] at this;omega
 have e1:R7 l m (2*P.1,2*P.2) f=sN (fun d=>if tQ l m d=f then aBg l m P d else 0) (2*m.length):=by
  unfold R7;rw [YL,← SE (L:=B9 l m f) (P:=fun d=>tQ l m d=f) (aBg l m P) (aE9 ho h0 h1) fun x=>?_]
  ·refine bH fun j hj=>?_;have:=hW (aK (B9 l m f) j) (by rw [cX hj];exact List.getElem_mem hj);unfold aBg;rw [Int.toNat_of_nonneg this.1]
  constructor
  ·intro hx;have:=hW x hx;obtain⟨d,rfl⟩:∃ d:Nat,x=d:=⟨x.toNat,by omega⟩;exact⟨d,rfl,by omega,(aEO ho h0 h1 (by omega)).1 hx⟩
  rintro ⟨d,rfl,hd,e⟩;exact (aEO ho h0 h1 hd).2 e
 rw [e1,HJ];unfold wnd;refine YH fun i hi=>?_;obtain⟨e2,e3⟩:=aHY (l:=l) (m:=m) (P:=P) i;rw [e2,e3];have hw:=aLv (pN l (aN m i)) (pN l (bN m i)) P;unfold cF sJ;generalize (if ER (pN l (aN m i)) (pN l (bN m i)) (2*P.1,2*P.2)=true then (1:Int) else 0)=h at *;generalize wn (1,0) 1 P (pN l (aN m i),pN l (bN m i))=w at *;rcases hw with rfl|rfl
 ·by_cases g1:tQ l m (2*i)=f <;> by_cases g2:tQ l m (2*i+1)=f <;> simp only [g1,g2,if_true,if_false]
  ·exact⟨w,by omega⟩
  ·exact⟨0,by omega⟩
  ·exact⟨w,by omega⟩
  exact⟨0,by omega⟩
 by_cases g1:tQ l m (2*i)=f <;> by_cases g2:tQ l m (2*i+1)=f <;> simp only [g1,g2,if_true,if_false]
 ·exact⟨h,by omega⟩
 ·exact⟨h,by omega⟩
 ·exact⟨0,by omega⟩
 exact⟨0,by omega⟩
theorem aIM {Q:Pt}{F:Int}(hF:∀ f:Int,1≤f→f≤n→(R7 l m Q f % 2=1↔F=f)):∀ (k:Nat) (f:Int),1≤f→f+k≤n+1→UX l m Q k f=if f≤F∧F<f+k then F else 0
 |0,f,h1,h2=>by rw [UX,if_neg (by omega)]
 |k+1,f,h1,h2=>by
  rw [UX];by_cases g:R7 l m Q f % 2=1
  ·have e:=(hF f h1 (by omega)).1 g;rw [if_pos g,if_pos (by omega),e]
  have e:¬ F=f:=fun e=>g ((hF f h1 (by omega)).2 e);rw [if_neg g,aIM hF k (f+1) (by omega) (by omega)];by_cases g2:f+1≤F∧F<f+1+k
  ·rw [if_pos g2,if_pos (by omega)]
  rw [if_neg g2,if_neg (by omega)]
theorem aKE (ho:a8 l m n=true)(hoff:EV l m P):aBi l m n (2*P.1,2*P.2)=L7 l m P:=by
 have hn:1≤n:=(cZ (aZ ho)).2.2.2.2.2.1;have hr:=aDR (P:=P) ho;unfold aBi;rw [aIM (n:=n) (F:=L7 l m P) (fun f h1 h2=>?_) n.toNat 1 (Int.le_refl _) (by omega)]
 ·by_cases g:1≤L7 l m P
  ·rw [if_pos (by omega)]
  rw [if_neg (by omega)];omega
 obtain⟨k,hk⟩:=aGu (P:=P) ho (f:=f) (by omega) h2;rw [aKp ho hoff f,if_neg (show ¬ f=0 by omega)] at hk;by_cases g:L7 l m P=f
 ·rw [if_pos g] at hk;exact⟨fun _=>g,fun _=>by omega⟩
 rw [if_neg g] at hk;exact⟨fun h=>by omega,fun h=>absurd h g⟩
end
def aKA:Nat × XF:=(17,mX bC bL atP)
theorem aQF:cO Go.Proofs.Tryz.prog aKA.1 aKA.2:=mV bC bL (aH (xl:=[aDl,X18,aGc,aLe]) (.cons aM9 (.cons x18 (.cons aOh (.cons aQf .nil))))) fun l m n r v hs=>by
 obtain⟨P,rfl,hlm,rfl⟩:=aAk hs;clear hs;refine⟨rfl,rfl,fun c1 c2=>?_⟩;obtain⟨p1,p2⟩:=P;(conv=>whnf);refine⟨l,m,aG bC rfl,aG bL rfl,?_⟩;refine aI (smB hlm) ?_;cases ho:a8 l m n with
 |false =>
  rw [Bool.false_and];(conv=>whnf);rfl
 |true =>
  rw [Bool.true_and];have hM:=(cZ (aZ ho)).1;cases hb:aM (p1,p2) with
  |false =>
   (conv=>whnf);rw [hb];(conv=>whnf);rfl
  |true =>
   (conv=>whnf);rw [hb];(conv=>whnf);refine⟨_,_,_,[.agg #[iv p1,iv p2]],l,m,rfl,aG bC rfl,aG bL rfl,?_⟩;rw [show s52 l m n [.agg #[iv p1,iv p2]]=some (kS l m&&decide (m.length≤1000),D6 l m (p1,p2),none) from rfl];refine aI (show (kS l m&&decide (m.length≤1000))=true by rw [hM,decide_eq_true hlm.2];rfl) ?_;have hL2:MZ l m (p1,p2) true=match D6 l m (p1,p2) with|[]=>(L7 l m (p1,p2),0)|_::_=>(0,21):=rfl
   rw [hL2];have hia:D6 l m (p1,p2)=[]→aBi l m n (2*p1,2*p2)=L7 l m (p1,p2):=fun hL=>aKE ho (aMg ho hb hL);cases hL:D6 l m (p1,p2) with
   |nil =>
    rw [← hia hL];simp only [aM,Bool.and_eq_true,decide_eq_true_eq] at hb;have hwd:wide (2*p1,2*p2)=true:=by simp only [wide,Bool.and_eq_true,decide_eq_true_eq];omega
    repeat' first
     |(((conv=>whnf);apply bm<;>intro g))
     |((conv=>whnf)
       refine⟨l,m,aG bC rfl,aG bL rfl,?_⟩;refine aI (show (a8 l m n&&wide (2*p1,2*p2))=true by rw [ho,hwd];rfl) ?_)
    all_goals first
     |((conv=>whnf);rfl)
     |(exfalso;simp [aA,aC,aF] at *;first|omega|(simp_all;done))
   |cons x t =>
    ((conv=>whnf);apply bm<;>intro g)
    ·(conv=>whnf);rfl
    exfalso;simp [aA,aC] at g
def aKj:Nat × XF:=(19,mRX aHA)
theorem aQa:cO Go.Proofs.Tryz.prog aKj.1 aKj.2:=V7 (aH (xl:=[aDl,X18,aGc]) (.cons aM9 (.cons x18 (.cons aOh .nil)))) fun l m n r out e hs=>by
 obtain⟨P,rfl,hlm,rfl,rfl⟩:=SX hs;clear hs;refine⟨rfl,fun c1 c2=>?_⟩;obtain⟨p1,p2⟩:=P;(conv=>whnf);refine⟨l,m,aG bC rfl,aG bL rfl,?_⟩;refine aI (smB hlm) ?_;cases ho:a8 l m n with
 |false =>
  rw [Bool.false_and];(conv=>whnf);rfl
 |true =>
  rw [Bool.true_and];have hM:=(cZ (aZ ho)).1;cases hb:aM (p1,p2) with
  |false =>
   (conv=>whnf);rw [hb];(conv=>whnf);rfl
  |true =>
   rw [if_pos rfl,if_pos rfl];(conv=>whnf);rw [hb];(conv=>whnf);refine⟨_,_,_,[.agg #[iv p1,iv p2]],l,m,rfl,aG bC rfl,aG bL rfl,?_⟩;rw [show s52 l m n [.agg #[iv p1,iv p2]]=some (kS l m&&decide (m.length≤1000),D6 l m (p1,p2),none) from rfl];refine aI (show (kS l m&&decide (m.length≤1000))=true by rw [hM,decide_eq_true hlm.2];rfl) ?_;cases hL:D6 l m (p1,p2) with
   |nil =>
    (conv=>whnf);rfl
   |cons x t =>
    (conv=>whnf);exact mF aT (l:=x::t) (e:=some 0) (nx:=0) (Nat.succ_pos _) rfl
def r5 (a b:Int)(o t:Bool)(j:Int):List (Nat × Value):=[(1,iv a),(2,iv b),(3,pV 2),(9,.int .u8 0),(10,.bool o),(11,.bool t),(12,iv j)]
def rQ (l:List Pt)(m:List Ed)(c1 c2:Nat)(n:Int):Heap:=(2,cR l.length m.length c1 c2 n)::aL bC bL l m
theorem aBa {n a b:Int}(h:¬ (u6 n a=true∧u6 n b=true∧¬ a=0∧¬ b=0∧¬ a=b)):Q6 n a b=false:=by
 cases hx:Q6 n a b with
 |false=>rfl
 |true =>
  unfold Q6 at hx;simp only [Bool.and_eq_true,Bool.not_eq_true',decide_eq_false_iff_not] at hx;exact absurd ⟨hx.1.1,hx.1.2,hx.2.1,hx.2.2.1,hx.2.2.2⟩ h
theorem aCS {n a b:Int}(h:u6 n a=true∧u6 n b=true∧¬ a=0∧¬ b=0∧¬ a=b):Q6 n a b=true:=by
 unfold Q6;rw [h.1,h.2.1,decide_eq_false h.2.2.1,decide_eq_false h.2.2.2.1,decide_eq_false h.2.2.2.2];rfl
def aK5:Nat × XF:=(21,mX bC bL abP)
theorem aQV:cO Go.Proofs.Tryz.prog aK5.1 aK5.2:=mV bC bL (aH (xl:=[aDl,X85]) (.cons aM9 (.cons x85 .nil))) fun l m n r v hs=>by
 obtain⟨a,b,rfl,hlm,rfl⟩:=YN hs;clear hs;refine⟨rfl,rfl,fun c1 c2=>?_⟩;(conv=>whnf);refine⟨l,m,aG bC rfl,aG bL rfl,?_⟩;refine aI (smB hlm) ?_;cases ho:a8 l m n with
 |false =>
  rw [Bool.false_and];(conv=>whnf);rfl
 |true =>
  rw [Bool.true_and];have heg:=fun i (hi:i<m.length)=>qV (aZ ho) hi;by_cases h0:u6 n a=true∧u6 n b=true∧¬ a=0∧¬ b=0∧¬ a=b
  ·rw [aCS h0];obtain⟨hba,hbb,ha0,hb0,hab⟩:=h0
   repeat' first
    |(((conv=>whnf);apply bm<;>intro g))
    |((conv=>whnf)
      refine Exists.intro l (Exists.intro m (And.intro (aG bC rfl) (And.intro (aG bL rfl) ?_))))
   all_goals first
    |(exfalso;clear heg;simp [aA,aC] at *;first|omega|(simp_all;done))
    |skip
   (conv=>whnf);refine⟨fun q e h nx=>∃ (i:Nat) (j:Int) (o t:Bool),j=i∧i≤m.length∧q=m.length - i∧abO l m a b i=(o,t)∧e=r5 a b o t j∧h=rQ l m c1 c2 n∧nx=3,⟨m.length,?_⟩,?_⟩
   ·refine aJ (e0:=r5 a b false false 0) (h0:=rQ l m c1 c2 n) (n0:=3) ⟨0,0,false,false,rfl,Nat.zero_le _,rfl,rfl,rfl,rfl,rfl⟩ ?_ ?_ (by decide)
    ·unfold r5;((repeat' refine iE rfl rfl ?_);exact iN)
    unfold rQ cR aL;((repeat'(first|refine iF rfl rfl ?_|refine iC rfl rfl rfl ?_|refine iJ rfl rfl rfl rfl ?_));exact iN)
   rintro q e h nx ⟨i,j,o,t,hj,hi,rfl,hO,rfl,rfl,rfl⟩;unfold r5 rQ cR aL;((conv=>whnf);apply bm<;>intro m1);rotate_left
   ·have hil:i=m.length:=(by simp [aA,aC] at m1;omega);subst hil;have hu:XN l m a b true=(upV (o,t),0):=(by unfold XN;rw [hO]);rw [hu];cases o <;> cases t
    all_goals (conv=>whnf)
    all_goals rfl
   have hil:i<m.length:=(by simp [aA,aC] at m1;omega);obtain⟨v1,v2,v3⟩:=heg i hil;((conv=>whnf);apply bm<;>intro m2);rotate_left
   ·exfalso;simp [aA,aC] at m2;omega
   (conv=>whnf);refine n8 (C5 m (i:=i) hil ?_) ?_
   ·show _+Int.toNat j*5=_;omega
   clear heg;cases o <;> cases t
   all_goals repeat' first
    |(((conv=>whnf);apply bm<;>intro g))
    |((conv=>whnf)
      refine iU (MH l (i:=(bO m i).a.toNat) (by omega) ?_) ?_
      ·show _+Int.toNat _*2=_;omega)
    |((conv=>whnf)
      refine iU (MH l (i:=(bO m i).b.toNat) (by omega) ?_) ?_
      ·show _+Int.toNat _*2=_;omega)
   all_goals first
    |((conv=>whnf)
      refine⟨m.length - (i+1),by omega,?_⟩;refine aJ (e0:=r5 a b false false (j+1)) (h0:=rQ l m c1 c2 n) (n0:=3) ⟨i+1,j+1,false,false,by omega,by omega,rfl,?_,rfl,rfl,rfl⟩ ?_ ?_ (by decide)
      ·(simp [aA,aC] at *;first|(rw [tX (by first|assumption|omega)];exact hO)|(rw [tR hO (by first|assumption|omega)];simp_all;done))
      ·unfold r5;((repeat' refine iE rfl rfl ?_);exact iN)
      unfold rQ cR aL;((repeat'(first|refine iF rfl rfl ?_|refine iC rfl rfl rfl ?_|refine iJ rfl rfl rfl rfl ?_));exact iN))
    |((conv=>whnf)
      refine⟨m.length - (i+1),by omega,?_⟩;refine aJ (e0:=r5 a b false true (j+1)) (h0:=rQ l m c1 c2 n) (n0:=3) ⟨i+1,j+1,false,true,by omega,by omega,rfl,?_,rfl,rfl,rfl⟩ ?_ ?_ (by decide)
      ·(simp [aA,aC] at *;first|(rw [tX (by first|assumption|omega)];exact hO)|(rw [tR hO (by first|assumption|omega)];simp_all;done))
      ·unfold r5;((repeat' refine iE rfl rfl ?_);exact iN)
      unfold rQ cR aL;((repeat'(first|refine iF rfl rfl ?_|refine iC rfl rfl rfl ?_|refine iJ rfl rfl rfl rfl ?_));exact iN))
    |((conv=>whnf)
      refine⟨m.length - (i+1),by omega,?_⟩;refine aJ (e0:=r5 a b true false (j+1)) (h0:=rQ l m c1 c2 n) (n0:=3) ⟨i+1,j+1,true,false,by omega,by omega,rfl,?_,rfl,rfl,rfl⟩ ?_ ?_ (by decide)
      ·(simp [aA,aC] at *;first|(rw [tX (by first|assumption|omega)];exact hO)|(rw [tR hO (by first|assumption|omega)];simp_all;done))
      ·unfold r5;((repeat' refine iE rfl rfl ?_);exact iN)
      unfold rQ cR aL;((repeat'(first|refine iF rfl rfl ?_|refine iC rfl rfl rfl ?_|refine iJ rfl rfl rfl rfl ?_));exact iN))
    |((conv=>whnf)
      refine⟨m.length - (i+1),by omega,?_⟩;refine aJ (e0:=r5 a b true true (j+1)) (h0:=rQ l m c1 c2 n) (n0:=3) ⟨i+1,j+1,true,true,by omega,by omega,rfl,?_,rfl,rfl,rfl⟩ ?_ ?_ (by decide)
      ·(simp [aA,aC] at *;first|(rw [tX (by first|assumption|omega)];exact hO)|(rw [tR hO (by first|assumption|omega)];simp_all;done))
      ·unfold r5;((repeat' refine iE rfl rfl ?_);exact iN)
      unfold rQ cR aL;((repeat'(first|refine iF rfl rfl ?_|refine iC rfl rfl rfl ?_|refine iJ rfl rfl rfl rfl ?_));exact iN))
    |((conv=>whnf)
      refine⟨m.length - (i+1),by omega,?_⟩;refine aJ (e0:=r5 a b (decide ((bO m i).r=b)) false (j+1)) (h0:=rQ l m c1 c2 n) (n0:=3) ⟨i+1,j+1,(decide ((bO m i).r=b)),false,by omega,by omega,rfl,?_,rfl,rfl,rfl⟩ ?_ ?_ (by decide)
      ·(simp [aA,aC] at *;first|(rw [tX (by first|assumption|omega)];exact hO)|(rw [tR hO (by first|assumption|omega)];simp_all;done))
      ·unfold r5;((repeat' refine iE rfl rfl ?_);exact iN)
      unfold rQ cR aL;((repeat'(first|refine iF rfl rfl ?_|refine iC rfl rfl rfl ?_|refine iJ rfl rfl rfl rfl ?_));exact iN))
    |((conv=>whnf)
      refine⟨m.length - (i+1),by omega,?_⟩;refine aJ (e0:=r5 a b (decide ((bO m i).r=b)) true (j+1)) (h0:=rQ l m c1 c2 n) (n0:=3) ⟨i+1,j+1,(decide ((bO m i).r=b)),true,by omega,by omega,rfl,?_,rfl,rfl,rfl⟩ ?_ ?_ (by decide)
      ·(simp [aA,aC] at *;first|(rw [tX (by first|assumption|omega)];exact hO)|(rw [tR hO (by first|assumption|omega)];simp_all;done))
      ·unfold r5;((repeat' refine iE rfl rfl ?_);exact iN)
      unfold rQ cR aL;((repeat'(first|refine iF rfl rfl ?_|refine iC rfl rfl rfl ?_|refine iJ rfl rfl rfl rfl ?_));exact iN))
    |((conv=>whnf)
      refine⟨m.length - (i+1),by omega,?_⟩;refine aJ (e0:=r5 a b false (decide ((bO m i).r=a)) (j+1)) (h0:=rQ l m c1 c2 n) (n0:=3) ⟨i+1,j+1,false,(decide ((bO m i).r=a)),by omega,by omega,rfl,?_,rfl,rfl,rfl⟩ ?_ ?_ (by decide)
      ·(simp [aA,aC] at *;first|(rw [tX (by first|assumption|omega)];exact hO)|(rw [tR hO (by first|assumption|omega)];simp_all;done))
      ·unfold r5;((repeat' refine iE rfl rfl ?_);exact iN)
      unfold rQ cR aL;((repeat'(first|refine iF rfl rfl ?_|refine iC rfl rfl rfl ?_|refine iJ rfl rfl rfl rfl ?_));exact iN))
    |((conv=>whnf)
      refine⟨m.length - (i+1),by omega,?_⟩;refine aJ (e0:=r5 a b true (decide ((bO m i).r=a)) (j+1)) (h0:=rQ l m c1 c2 n) (n0:=3) ⟨i+1,j+1,true,(decide ((bO m i).r=a)),by omega,by omega,rfl,?_,rfl,rfl,rfl⟩ ?_ ?_ (by decide)
      ·(simp [aA,aC] at *;first|(rw [tX (by first|assumption|omega)];exact hO)|(rw [tR hO (by first|assumption|omega)];simp_all;done))
      ·unfold r5;((repeat' refine iE rfl rfl ?_);exact iN)
      unfold rQ cR aL;((repeat'(first|refine iF rfl rfl ?_|refine iC rfl rfl rfl ?_|refine iJ rfl rfl rfl rfl ?_));exact iN))
    |(exfalso;simp [aA,aC,aF] at *;first|omega|(simp_all;done)|(simp_all;omega))
  rw [aBa h0]
  repeat' first
   |(((conv=>whnf);apply bm<;>intro g))
   |((conv=>whnf)
     refine Exists.intro l (Exists.intro m (And.intro (aG bC rfl) (And.intro (aG bL rfl) ?_))))
  all_goals first
   |((conv=>whnf);rfl)
   |(exfalso;clear heg;apply h0;simp [aA,aC] at *;simp_all;done)
   |(exfalso;clear heg;simp [aA,aC] at *;first|omega|(simp_all;done))
def smI (l1 l2:List Int):Bool:=decide (l1=l2)
def smS (l1 l2:List Int):Option (Bool × Value):=some (decide (l1.length≤1000000),.bool (smI l1 l2))
def e21 (l1 l2:List Int)(c1 c2:Nat)(j:Int):List (Nat × Value):=[(0,.slice (some ⟨0,0,none⟩) l1.length c1),(1,.slice (some ⟨1,0,none⟩) l2.length c2),(5,iv j)]
def h21 (l1 l2:List Int):Heap:=[(0,.cells false true 1 (flat aT.fl l1)),(1,.cells false true 1 (flat aT.fl l2))]
theorem aKt {l1 l2:List Int}(hl:l1.length=l2.length)(h:∀ k,k<l1.length→aK l1 k=aK l2 k):l1=l2:=by
 refine List.ext_getElem hl fun k h1 h2=>?_;have:=h k h1;rw [cX h1,cX h2] at this;exact this
def aK3:Nat × XF:=(22,l2X aT smS)
theorem aQB:cO Go.Proofs.Tryz.prog aK3.1 aK3.2:=aLu aT (f:=22) (s:=smS) (aH (xl:=[]) .nil) fun l1 l2 v hs=>by
 have hs':l1.length≤1000000∧v=.bool (smI l1 l2):=by
  unfold smS at hs;injection hs with hs;injection hs with h1 h2;exact⟨by simpa using h1,h2.symm⟩
 obtain⟨hlen,rfl⟩:=hs';refine⟨rfl,fun c1 c2=>?_⟩;((conv=>whnf);apply bm<;>intro h1)
 ·(conv=>whnf);have hne:l1≠l2:=by
   intro e;simp [aA,aC,e] at h1
  show Value.bool false=.bool (decide (l1=l2));rw [decide_eq_false hne]
 have hll:l1.length=l2.length:=(by simp [aA,aC] at h1;omega);(conv=>whnf);refine⟨fun n e h nx=>∃ (i:Nat) (j:Int),j=i∧i≤l1.length∧n=l1.length - i∧(∀ k,k<i→aK l1 k=aK l2 k)∧e=e21 l1 l2 c1 c2 j∧h=h21 l1 l2∧nx=2,⟨l1.length,?_⟩,?_⟩
 ·refine aJ (e0:=e21 l1 l2 c1 c2 0) (h0:=h21 l1 l2) (n0:=2) ⟨0,0,rfl,Nat.zero_le _,rfl,fun k h=>absurd h (Nat.not_lt_zero k),rfl,rfl,rfl⟩ ?_ ?_ (by decide)
  ·unfold e21;((repeat' refine iE rfl rfl ?_);exact iN)
  unfold h21;((repeat'(first|refine iF rfl rfl ?_|refine iJ rfl rfl rfl rfl ?_));exact iN)
 rintro n e h nx ⟨i,j,hj,hi,rfl,hb,rfl,rfl,rfl⟩;unfold e21 h21;((conv=>whnf);apply bm<;>intro g1);rotate_left
 ·have hge:i=l1.length:=(by simp [aA,aC] at g1;omega);(conv=>whnf);show Value.bool true=.bool (decide (l1=l2));rw [decide_eq_true (aKt hll fun k hk=>hb k (by omega))]
 have hlt:i<l1.length:=(by simp [aA,aC] at g1;omega);((conv=>whnf);apply bm<;>intro g2);rotate_left
 ·exfalso;simp [aA,aC] at g2;omega
 (conv=>whnf);refine iU (iA l1 hlt ?_) ?_
 ·show _+Int.toNat j*1=_;omega
 ((conv=>whnf);apply bm<;>intro g3);rotate_left
 ·exfalso;simp [aA,aC] at g3;omega
 (conv=>whnf);refine iU (iA l2 (i:=i) (by omega) ?_) ?_
 ·show _+Int.toNat j*1=_;omega
 ((conv=>whnf);apply bm<;>intro g4)
 ·(conv=>whnf);have hne:l1≠l2:=by
   intro e;simp [aA,aC,e] at g4
  show Value.bool false=.bool (decide (l1=l2));rw [decide_eq_false hne]
 have g4:aK l1 i=aK l2 i:=(by simpa [aA,aC] using g4);((conv=>whnf);apply bm<;>intro g5)
 ·(conv=>whnf);refine⟨l1.length - (i+1),by omega,?_⟩;refine aJ (e0:=e21 l1 l2 c1 c2 (j+1)) (h0:=h21 l1 l2) (n0:=2) ⟨i+1,j+1,by omega,hlt,rfl,fun k hk=>?_,rfl,rfl,rfl⟩ ?_ ?_ (by decide)
  ·by_cases hki:k=i
   ·rw [hki];exact g4
   exact hb k (by omega)
  ·unfold e21;((repeat' refine iE rfl rfl ?_);exact iN)
  unfold h21;((repeat'(first|refine iF rfl rfl ?_|refine iJ rfl rfl rfl rfl ?_));exact iN)
 exfalso;simp [aA,aC,aF] at g5;omega
theorem aM2 {l:List Pt}{m:List Ed}(h1:(!(decide ((l.length:Int)≤60)&&decide ((m.length:Int)≤60)))=false):l.length≤1000∧m.length≤1000:=by
 have h1:(decide ((l.length:Int)≤60)&&decide ((m.length:Int)≤60))=true:=(by simpa using h1);simp only [Bool.and_eq_true,decide_eq_true_eq] at h1;omega
theorem aI8 (l:List Pt)(m:List Ed)(P:Pt):(D6 l m P).length≤m.length:=mZ _ _ _
theorem w4 (l:List Pt)(m:List Ed)(n:Int)(c1 c2:Nat)(p1 p2 a b:Int):body [aKm,X16,aKX,aKA,aMa,aKj,aEY,aK5,aK3] 4 [kI l.length m.length c1 c2 n,.agg #[iv p1,iv p2],iv a,iv b] (aL bC bL l m) 2 (fun v _ _=>v=.bool true):=by
 (conv=>whnf);refine⟨l,m,aG bC rfl,aG bL rfl,?_⟩;((conv=>whnf);apply bm<;>intro h1)
 ·(conv=>whnf)
 have hlm:l.length≤1000∧m.length≤1000:=aM2 h1;have hsm:=smB hlm;obtain⟨O,hO⟩:∃ O,(if (a8 l m n&&aM (p1,p2))=true then D6 l m (p1,p2) else [])=O:=⟨_,rfl⟩;have hOl:O.length≤1000000:=by
  rw [← hO];split
  ·have:=aI8 l m (p1,p2);omega
  exact Nat.zero_le _
 have hsame:smI O O=true:=decide_eq_true rfl;(conv=>whnf);refine⟨l,m,aG bC rfl,aG bL rfl,?_⟩;refine aI hsm ?_;(conv=>whnf);refine⟨l,m,aG bC rfl,aG bL rfl,?_⟩;refine aI hsm ?_;(conv=>whnf);refine⟨_,_,_,[.agg #[iv p1,iv p2]],l,m,rfl,aG bC rfl,aG bL rfl,?_⟩;refine aI hsm ?_;rw [hO];cases O with
 |nil =>
  (conv=>whnf);refine⟨_,_,_,[.agg #[iv p1,iv p2]],l,m,rfl,aG bC rfl,aG bL rfl,?_⟩;refine aI hsm ?_;rw [hO];(conv=>whnf);refine⟨l,m,aG bC rfl,aG bL rfl,?_⟩;refine aI hsm ?_;(conv=>whnf);refine⟨l,m,aG bC rfl,aG bL rfl,?_⟩;refine aI hsm ?_
  repeat' (((conv=>whnf);apply bm<;>intro g))
  all_goals (conv=>whnf)
  all_goals first
   |(exfalso;simp [aA,aC] at g;done)
   |(refine⟨[],[],⟨rfl,rfl,rfl⟩,⟨rfl,rfl,rfl⟩,?_⟩
     refine aI (decide_eq_true hOl) ?_;rw [hsame];(conv=>whnf))
 |cons x t =>
  (conv=>whnf);refine⟨_,_,_,[.agg #[iv p1,iv p2]],l,m,rfl,aG bC rfl,aG bL rfl,?_⟩;refine aI hsm ?_;rw [hO];(conv=>whnf);refine⟨l,m,aG bC rfl,aG bL rfl,?_⟩;refine aI hsm ?_;(conv=>whnf);refine⟨l,m,aG bC rfl,aG bL rfl,?_⟩;refine aI hsm ?_
  repeat' (((conv=>whnf);apply bm<;>intro g))
  all_goals (conv=>whnf)
  all_goals first
   |(exfalso;simp [aA,aC] at g;done)
   |(refine⟨x::t,x::t,aG aT rfl,aG aT rfl,?_⟩
     refine aI (decide_eq_true hOl) ?_;rw [hsame];(conv=>whnf))
end Go.Aw
end

noncomputable section
namespace Go.Proofs.YticajjhjehljpaaGreat
open Go.ChangeShapes Go.WideShapes Go.ChangeAt Go.RowKit Go.Aw Go.Joins
set_option maxRecDepth 100000 in
theorem J6 (os:Os)(started:os.Started)(H:Type)(enc:TypeId × Value→H) :
  ReturnsInHanded {} Tryz.checked os 4 .any (Rows.facesPlacesSpec.pre6 enc Tryz.prog Tryz.f4 Rows.facesPlacesRow.domain false) (Rows.facesPlacesSpec.post enc Tryz.prog Tryz.f4 false true false false):=by
 refine returnsInHanded_of_change (C:=Tryz.checked) Tryz.own started (by kernel_rfl) Tryz.func4
  (ChangeSpec.witness6 (enc:=enc) (C:=Tryz.checked) false ⟨#[],#[.agg #[.slice none 0 0,.slice none 0 0,.int .i64 0],.agg #[.int .i64 0,.int .i64 0],.int .i64 0,.int .i64 0],[]⟩ 3 (by kernel_rfl) (by kernel_rfl) (by kernel_rfl) (by kernel_rfl)) ?_
 intro W base args ds gs before hval0 hW hcnd _;have hval:∀ (j:Nat) t v,Tryz.f4.params[j]? = some t→args[j]? = some v→Value.okWide Tryz.prog W .any base t v:=hval0;have hW':=hW;obtain⟨p,q,hA0,hV,rfl,hfz,hnd⟩:=hW;have hA:DataW.TrodAll enc Tryz.prog W 0 (fun _=>true) true Tryz.f4.params.toList args.toList ds p:=hA0;rw [Tryz.params4] at hA hval;obtain⟨v0,v1,v2,v3,d0,d1,d2,d3,p0,p1,p2,p3,rfl,rfl,rfl,h0,h1,h2,h3⟩:=trodAll_four hA;obtain⟨rfl,rfl⟩:=trodVars_none hV;obtain⟨cs,rfl,hsz⟩:=okWide_struct Tryz.underlying25 (hval 0 25 v0 rfl rfl);have h0':=h0;obtain⟨fuel,hf0⟩:=h0';obtain⟨xs,fu,_,_,hlen,hxl,hf⟩:=DataW.trod_struct Tryz.underlying25 hf0;rw [Tryz.aHg] at hlen;have hcs:∃ a b c,cs.toList=[a,b,c]:=aNZ hlen;obtain⟨a,b,c,hcs⟩:=hcs;have ecs:cs=#[a,b,c]:=Array.ext' hcs;subst ecs;obtain⟨x0,x1,x2,rfl⟩:=aNZ hxl;obtain⟨l,c1,loc1,a1,a2,a3⟩:=LK bC (by decide) Tryz.underlying22 Tryz.ZM aIr (show DataW.trod enc Tryz.prog W 0 (fun _=>true) true fu 22 [a]=some x0 by simpa [Tryz.aHu,Value.cells] using hf 0 _ rfl);obtain⟨m,c2,loc2,b1,b2,b3⟩:=LK bL (by decide) Tryz.underlying23 Tryz.X5 aNL (show DataW.trod enc Tryz.prog W 0 (fun _=>true) true fu 23 [b]=some x1 by simpa [Tryz.aGg,Value.cells] using hf 1 _ rfl);obtain⟨n,e1⟩:=m8 (show DataW.trod enc Tryz.prog W 0 (fun _=>true) true fu 3 [c]=some x2 by simpa [Tryz.vN,Value.cells] using hf 2 _ rfl);subst e1;obtain⟨cp,rfl,hszp⟩:=okWide_struct Tryz.underlying38 (hval 1 38 v1 rfl rfl);have h1':=h1;obtain⟨fp,hfp⟩:=h1';obtain⟨z0,ez0⟩:=aIr hfp;have ecp:cp=#[iv z0.1,iv z0.2]:=Array.ext' ez0;subst ecp;obtain⟨z1,rfl⟩:=okWide_int Tryz.underlying3 (hval 2 3 v2 rfl rfl);obtain⟨z2,rfl⟩:=okWide_int Tryz.underlying3 (hval 3 3 v3 rfl rfl);clear hA0 hval0;simp only [List.append_nil,List.append_assoc] at hW';have hlt:∀ x∈p0++(p1++(p2++p3)),x.block<W.heap.size:=fun x hx=>(by simpa using hW'.lt x hx);refine (RM (r:=[.agg #[iv z0.1,iv z0.2],iv z1,iv z2]) (.cons aPW (.cons x16 (.cons aQN (.cons aQF (.cons aQq (.cons aQa (.cons aNg (.cons aQV (.cons aQB .nil))))))))) rfl (w4 l m n c1 c2 z0.1 z0.2 z1 z2) rfl a1 b1 a2 b2 a3 b3).mono fun e W' ⟨he,hb⟩=>?_;subst he;refine⟨_,rfl,_,_,_,[],p0++(p1++(p2++p3)),[],hW',trodAll_mk1 (aFg true),?_,rfl,hb.frame _,fun h=>by cases h⟩;exact trodAll_mk4 (Below.trod Tryz.laidOut (by kernel_rfl) (of_decide_eq_true (by kernel_rfl)) h0 hb (fun x hx=>hlt x (List.mem_append.2 (.inl hx)))) (Below.trod Tryz.laidOut (by kernel_rfl) (of_decide_eq_true (by kernel_rfl)) h1 hb (fun x hx=>hlt x (List.mem_append.2 (.inr (List.mem_append.2 (.inl hx)))))) (Below.trod Tryz.laidOut (by kernel_rfl) (of_decide_eq_true (by kernel_rfl)) h2 hb (fun x hx=>hlt x (List.mem_append.2 (.inr (List.mem_append.2 (.inr (List.mem_append.2 (.inl hx)))))))) (Below.trod Tryz.laidOut (by kernel_rfl) (of_decide_eq_true (by kernel_rfl)) h3 hb (fun x hx=>hlt x (List.mem_append.2 (.inr (List.mem_append.2 (.inr (List.mem_append.2 (.inr hx))))))))
set_option maxRecDepth 100000 in
theorem jf:joinedFacts Tryz.prog 4 Tryz.f4 Rows.facesPlacesSpec Rows.facesPlacesRow=true:=by
 unfold joinedFacts;exact (fG (fG (fG (fG (fG (fG (fG (fG (fG (fG (fG (fG (fG (fG (fG (fG (fG (fG (fG (fG (fG (fG (fG (fG (fG (fG (fG (fG (fG (fG (fG jf0 jf1) jf2) jf3) jf4) jf5) jf6) jf7) jf8) jf9) aQC) aQ7) aQ0) aPd) aQk) aR0) aPo) aQX) aQu) aPE) aPP) aPZ) aPS) aPG) aQm) aQv) aQ9) aPy) (by kernel_rfl)) aPx) aPw) aQi)
theorem places_holds:Rows.FacesPlacesSaid :=
 OpenClaim.holds_of_wide 4 Tryz.f4 rfl rfl rfl rfl rfl rfl rfl ⟨rfl,rfl,rfl,rfl,rfl⟩ rfl rfl rfl rfl rfl (by kernel_rfl) Tryz.func4 jf
  (of_decide_eq_true (by kernel_rfl)) (by unfold Func.isWrapper;first|(rw [if_pos (by decide +kernel)];kernel_rfl)|(rw [if_neg (by decide +kernel)];exact⟨rfl,rfl⟩))
  (fun os started H enc _=>J6 os started H enc)
#print axioms places_holds
end Go.Proofs.YticajjhjehljpaaGreat
end
