/-
  Parts of a proof. No condition.
-/
import Derived.Test.YtjahkcbdecgbhaaGreatQBt
import Derived.Test.YtjahkcbdecgbhaaGreatQBu
import Derived.Test.YtjahkcbdecgbhaaGreatQBv
set_option linter.unusedSimpArgs false
set_option linter.unusedVariables false
noncomputable section
namespace Go.Aw
set_option maxRecDepth 100000
set_option maxHeartbeats 4000000
theorem aEX {l:List Pt}{m:List Ed}:zT (aB aT aW l m) 2 :=
 c8 (c8 (fun k o hk=>by cases hk) (by decide) (aN (aH _ _))) (by decide) (aN (aH _ _))
def rwL (m:List Ed)(n a b:Int):List Int:=if (sU n a&&sU n b)=true then (if aD (fF m n b) a.toNat<0 then [] else yW m (fF m n b) b ((n+1).toNat+1) a [a]) else []
def rwE (m:List Ed)(n a b:Int):Int:=if (sU n a&&sU n b)=true then (if aD (fF m n b) a.toNat<0 then 5 else 0) else 1
def rwP (l:List Pt)(m:List Ed)(n:Int):List Value→Option (Bool × List Int × Option Int)
 |[.int .i64 a,.int .i64 b]=>some (decide (l.length≤1000)&&decide (m.length≤1000),if c9 l m n=true then rwL m n a b else [],some (if c9 l m n=true then rwE m n a b else 1))
 |_=>none
theorem aFv {l:List Pt}{m:List Ed}{n:Int}{r:List Value}{out:List Int}{e:Option Int}(hs:rwP l m n r=some (true,out,e)):∃ a b,r=[iv a,iv b]∧(l.length≤1000∧m.length≤1000)∧out=(if c9 l m n=true then rwL m n a b else [])∧e=some (if c9 l m n=true then rwE m n a b else 1):=by
 unfold rwP at hs;split at hs
 ·injection hs with hs;injection hs with h1 h2;injection h2 with h2 h3;simp only [Bool.and_eq_true,decide_eq_true_eq] at h1;exact⟨_,_,rfl,h1,h2.symm,h3.symm⟩
 ·cases hs
theorem aEN (i:Nat):List.replicate (i+1) (-1:Int)=List.replicate i (-1)++[-1]:=List.replicate_succ'
def IK (a b:Int)(v:Value)(j:Int):List (Nat × Value):=[(1,iv a),(2,iv b),(3,pV 2),(9,v),(10,iv j)]
def sR (a b:Int)(T:Nat)(z:Int):List (Nat × Value):=[(1,iv a),(2,iv b),(3,pV 2),(9,.slice (some ⟨3,0,none⟩) T T),(11,iv z)]
def tT (a b:Int)(T:Nat)(z f:Int):List (Nat × Value):=(12,iv f)::sR a b T z
def DF (a b:Int)(T:Nat)(z f:Int)(u:Value)(t:Int):List (Nat × Value):=(13,u)::(14,iv t)::tT a b T z f
def HO (b:Int)(T N:Nat)(f:Int):List (Nat × Value):=[(2,iv b),(3,pV 2),(9,.slice (some ⟨3,0,none⟩) T T),(15,.slice (some ⟨4,0,none⟩) N N),(16,iv f)]
def OJ (b:Int)(T N:Nat)(f:Int)(M:Nat)(x j:Int):List (Nat × Value):=(17,.slice (some ⟨5,0,none⟩) M M)::(18,iv x)::(19,iv j)::HO b T N f
def aIK:Nat × XF:=(44,mRX rwP)
theorem aMa:cT Go.Proofs.Tryz.prog aIK.1 aIK.2:=LO (aL (xl:=[aHu,X85,aBL]) (.cons aLi (.cons x85 (.cons aJF .nil)))) fun l m n r out e hs=>by
 obtain⟨a,b,rfl,hlm,rfl,rfl⟩:=aFv hs;clear hs;refine⟨rfl,fun c1 c2=>?_⟩;generalize hQ:Yields aP (if c9 l m n=true then rwL m n a b else []) (some (if c9 l m n=true then rwE m n a b else 1))=Q;(conv=>whnf);refine⟨l,m,aJ aT rfl,aJ aW rfl,?_⟩;refine aM (smB hlm) ?_;cases ho:c9 l m n with
 |false =>
  (conv=>whnf);rw [← hQ,ho];rfl
 |true =>
  rw [ho,if_pos rfl,if_pos rfl] at hQ;have hwl:rwL m n a b=if (sU n a&&sU n b)=true then (if aD (fF m n b) a.toNat<0 then [] else yW m (fF m n b) b ((n+1).toNat+1) a [a]) else []:=rfl
  have hwe:rwE m n a b=if (sU n a&&sU n b)=true then (if aD (fF m n b) a.toNat<0 then 5 else 0) else 1:=rfl
  (conv=>whnf);refine⟨l,m,aJ aT rfl,aJ aW rfl,?_⟩;(conv=>whnf);cases hba:sU n a with
  |false =>
   rw [hba,Bool.false_and] at hwl hwe;(conv=>whnf);rw [← hQ,hwl,hwe];rfl
  |true =>
   rw [hba,Bool.true_and] at hwl hwe;(conv=>whnf);refine⟨l,m,aJ aT rfl,aJ aW rfl,?_⟩;(conv=>whnf);cases hbb:sU n b with
   |false =>
    rw [hbb] at hwl hwe;(conv=>whnf);rw [← hQ,hwl,hwe];rfl
   |true =>
    rw [hbb,if_pos rfl] at hwl hwe;rw [hwl,hwe] at hQ;clear hwl hwe;simp only [sU,Bool.and_eq_true,decide_eq_true_eq] at hba hbb;obtain⟨ha0,ha1⟩:=hba;obtain⟨hb0,hb1⟩:=hbb;have hn:=C4 ho;have hm:=hlm.2;obtain⟨T,hT⟩:∃ T:Nat,(n+1).toNat=T:=⟨_,rfl⟩;have hTn:(T:Int)=n+1:=(by omega);have hE:HJ m n:=fun i hi=>qR ho hi;have hgd:=fun {f:Int} (h1:0≤f∧f≤n) (h2:f≠b) (h3:0≤aD (fF m n b) f.toNat)=>aBm ho ⟨hb0,hb1⟩ h1 h2 h3;have hIl:=fun z=>aEn ho ⟨hb0,hb1⟩ z;have hIr:=fun {z i:Nat} (hi:i<(n+1).toNat)=>aGL ho ⟨hb0,hb1⟩ z hi;have hMl:=fun {z:Int} (hz:0≤z) {S:List Int} (hS:S.length=(n+1).toNat) {i:Nat} (hi:i≤(n+1).toNat)=>aDf (b:=b) ho hz hS hi;have hKl:=fun {z f:Int} (hz:0≤z) {S:List Int} (hS:S.length=(n+1).toNat) {i:Nat} (hi:i≤(dS m f).length)=>aBs ho hz hS hi;have D6:fF m n b=fJ m n b T:=(by unfold fF;rw [hT]);have hI0:fJ m n b 0=(List.replicate T (-1)).set b.toNat 0:=(by show f0 n b=_;unfold f0;rw [hT]);have hIs:∀ z:Nat,fJ m n b (z+1)=mL m b z (fJ m n b z) T:=fun z=>(by show mL m b z (fJ m n b z) (n+1).toNat=_;rw [hT]);have hnbe:=fun f=>aJX ho f;rw [hT] at hIl hIr hMl hKl hQ;have hok:=aEX (l:=l) (m:=m);have hN:=fun {k:Nat} (h:Nat.ble 2 k=true)=>bS hok (Nat.le_of_ble_eq_true h);(conv=>whnf)
    refine⟨fun q e h nx=>∃ (i:Nat) (j:Int),j=i∧i≤T∧q=T - i ∧
     ((i=0∧e=IK a b (.slice none 0 0) j∧h=[(2,aX l.length m.length c1 c2 n)]++(aB aT aW l m)∧nx=3)∨(0<i∧e=IK a b (.slice (some ⟨3,0,none⟩) i i) j∧h=[(3,oI (List.replicate i (-1))),(2,aX l.length m.length c1 c2 n)]++(aB aT aW l m)∧nx=4)),⟨T,?_⟩,?_⟩
    ·have hb0h:∀ k o,look (aB aT aW l m) k=some o→look (aB aT aW l m) k=some o:=fun _ _ h=>h;refine aQ (b:=2) (P:=[(2,aX l.length m.length c1 c2 n)]) (W:=aB aT aW l m) (e0:=IK a b (.slice none 0 0) 0) (n0:=3) [] ⟨0,0,rfl,Nat.zero_le _,rfl,.inl ⟨rfl,rfl,rfl,rfl⟩⟩ ?_ hok ?_ ?_ (bJ rfl) (fun _ h=>by cases h) (Nat.le_of_ble_eq_true rfl)
     ·unfold IK;((repeat' refine iE rfl rfl ?_);exact iN)
     ·(repeat' with_reducible first|refine aK ?_ (hN (by decide))|refine aS ?_ (hN (by decide))|refine bA ?_ (hN (by decide)))
      exact hb0h
     refine oW rfl rfl rfl rfl ⟨rfl,rfl,rfl,rfl,cO rfl⟩ ?_;exact iN
    rintro q e h nx ⟨i,j,hj,hi,rfl,⟨hi0,rfl,rfl,rfl⟩|⟨hip,rfl,rfl,rfl⟩⟩
    ·skip
     have hbA:=rY (P:=[(2,aX l.length m.length c1 c2 n)]) hok rfl;unfold IK aX aB;((conv=>whnf);apply bm<;>intro g1);rotate_left
     ·have hiT:i=T:=(by simp [aA,aC] at g1;omega);exfalso;omega
     have g1:j≤n:=by simp [aA,aC] at g1;omega
     repeat' (((conv=>whnf);apply bm<;>intro c))
     all_goals (conv=>whnf)
     all_goals first
      |(refine⟨T - (i+1),by omega,?_⟩
        subst hi0;refine aQ (b:=2) (P:=[(3,oI (List.replicate 1 (-1))),(2,aX l.length m.length c1 c2 n)]) (W:=aB aT aW l m) (e0:=IK a b (.slice (some ⟨3,0,none⟩) 1 1) (j+1)) (n0:=4) [(3,4)] ⟨1,j+1,by omega,by omega,by omega,.inr ⟨by omega,rfl,rfl,rfl⟩⟩ ?_ hok ?_ ?_ (bJ rfl) (IP rfl) (Nat.le_of_ble_eq_true rfl)
        ·unfold IK;((repeat' refine iE rfl rfl ?_);exact iN)
        ·(repeat' with_reducible first|refine aK ?_ (hN (by decide))|refine aS ?_ (hN (by decide))|refine bA ?_ (hN (by decide)))
         exact hbA
        refine oW rfl rfl rfl rfl (aU (aH aP _) rfl) ?_;refine oW rfl rfl rfl rfl ⟨rfl,rfl,rfl,rfl,cO rfl⟩ ?_;exact iN)
      |(exfalso;clear hgd hIl hIr hMl hKl D6 hI0 hIs hnbe hok hN hE ho hbA hQ;simp [aA,aC,aF] at*<;> first|omega|(simp_all;done)|(simp_all;omega))
    skip
    have hbA:=rY (P:=[(3,oI (List.replicate i (-1))),(2,aX l.length m.length c1 c2 n)]) hok rfl;unfold IK aX aB;have hlenR:(flat aP.fl (List.replicate i (-1))).length=i:=(by rw [a7,List.length_replicate];show _*1=_;omega);((conv=>whnf);apply bm<;>intro g1)
    ·have g1:j≤n:=by simp [aA,aC] at g1;omega
     repeat' (((conv=>whnf);apply bm<;>intro c))
     all_goals (conv=>whnf)
     all_goals first
      |(refine⟨T - (i+1),by omega,?_⟩
        refine aQ (b:=2) (P:=[(3,oI (List.replicate (i+1) (-1))),(2,aX l.length m.length c1 c2 n)]) (W:=aB aT aW l m) (e0:=IK a b (.slice (some ⟨3,0,none⟩) (i+1) (i+1)) (j+1)) (n0:=4) [(3,5)] ⟨(i+1),j+1,by omega,by omega,by omega,.inr ⟨by omega,rfl,rfl,rfl⟩⟩ ?_ hok ?_ ?_ (bJ rfl) (IP rfl) (Nat.le_of_ble_eq_true rfl)
        ·unfold IK;((repeat' refine iE rfl rfl ?_);exact iN)
        ·(repeat' with_reducible first|refine aK ?_ (hN (by decide))|refine aS ?_ (hN (by decide))|refine bA ?_ (hN (by decide)))
         exact hbA
        refine oW rfl rfl rfl rfl (aU (aH aP _) ((cL aP (List.replicate i (-1)) (-1) (List.length_replicate).symm).trans (by rw [aEN]))) ?_;refine oW rfl rfl rfl rfl ⟨rfl,rfl,rfl,rfl,cO rfl⟩ ?_;exact iN)
      |exact jA (s:=1) (by omega) (by omega) (by assumption)
      |(exfalso;rename_i v;have:=Nat.le_of_ble_eq_true v;omega)
      |(exfalso;clear hgd hIl hIr hMl hKl D6 hI0 hIs hnbe hok hN hE ho hbA hQ;simp [aA,aC,aF] at*<;> first|omega|(simp_all;done)|(simp_all;omega))
    have hiT:i=T:=(by simp [aA,aC] at g1;omega);subst hiT
    skip
    ((conv=>whnf);apply bm<;>intro g2);rotate_left
    ·exfalso;simp [aA,aC] at g2;omega
    ((conv=>whnf);apply bm<;>intro g3);rotate_left
    ·exfalso;have hq:Nat.ble (0+Int.toNat b*1+1) (flat aP.fl (List.replicate i (-1))).length=true:=Nat.ble_eq_true_of_le (by rw [a7,List.length_replicate];show _≤i*1;omega);exact Bool.false_ne_true (g3.symm.trans hq)
    skip
    (conv=>whnf);refine⟨fun q e h nx=>∃ (z:Nat) (zi:Int),zi=z∧z≤i∧q=i - z∧e=sR a b i zi∧h=[(3,oI (fJ m n b z)),(2,aX l.length m.length c1 c2 n)]++(aB aT aW l m)∧nx=4,⟨i,?_⟩,?_⟩
    ·skip
     refine aQ (b:=2) (P:=[(3,oI (fJ m n b 0)),(2,aX l.length m.length c1 c2 n)]) (W:=aB aT aW l m) (e0:=sR a b i 0) (n0:=4) [] ⟨0,0,rfl,Nat.zero_le _,rfl,rfl,rfl,rfl⟩ ?_ hok ?_ ?_ (bJ rfl) (fun _ h=>by cases h) (Nat.le_of_ble_eq_true rfl)
     ·unfold sR;((repeat' refine iE rfl rfl ?_);exact iN)
     ·(repeat' with_reducible first|refine aK ?_ (hN (by decide))|refine aS ?_ (hN (by decide))|refine bA ?_ (hN (by decide)))
      exact hbA
     refine oW rfl rfl rfl (o':=oI (fJ m n b 0)) ?_ (aN (aH _ _)) ?_
     ·have hp:=kS (List.replicate i (-1)) b.toNat 0 (by rw [List.length_replicate];omega);rw [hI0];show some (a8.cells true false 1 (cN (flat aP.fl (List.replicate i (-1))) (0+Int.toNat b*1) [iv 0]))=_;rw [show 0+Int.toNat b*1=b.toNat*1 by omega,hp]
     refine oW rfl rfl rfl rfl ⟨rfl,rfl,rfl,rfl,cO rfl⟩ ?_;exact iN
    rintro q e h nx ⟨z,zi,hzi,hz,rfl,rfl,rfl,rfl⟩;have hbR:=rY (P:=[(3,oI (fJ m n b z)),(2,aX l.length m.length c1 c2 n)]) hok rfl;have hL0:=hIl z;have hIz:=hIs z;have hz0:0≤zi:=(by omega);unfold sR aX aB;((conv=>whnf);apply bm<;>intro g4);rotate_left
    ·have hzl:z=i:=(by simp [aA,aC] at g4;omega);have hFz:fJ m n b z=fF m n b:=(by rw [hzl,D6]);have hFr:=fun {k:Nat} (hk:k<i)=>hIr (z:=z) hk;rw [hFz] at hL0 hFr hbR ⊢;generalize fF m n b=F at *;((conv=>whnf);apply bm<;>intro h1)
     ·(conv=>whnf);refine eC (bY F (i:=a.toNat) (by rw [hL0];omega) ?_) ?_
      ·show _+Int.toNat a*1=_;omega
      ((conv=>whnf);apply bm<;>intro h2)
      ·have h2:aD F a.toNat<0:=(by simpa [aA,aC] using h2);rw [if_pos h2,if_pos h2] at hQ;(conv=>whnf);rw [← hQ];rfl
      have h2:¬ aD F a.toNat<0:=(by simpa [aA,aC] using h2);rw [if_neg h2,if_neg h2] at hQ;(conv=>whnf);refine⟨fun q e h nx=>∃ (f:Int) (out:List Int) (k:Nat),q=(aD F f.toNat).toNat∧q+1≤k∧yW m F b k f out=yW m F b (i+1) a [a]∧(0≤f∧f≤n)∧0≤aD F f.toNat∧0<out.length∧out.length+q≤i+1∧e=HO b i out.length f∧h=[(3,oI (F)),(4,oI (out)),(2,aX l.length m.length c1 c2 n)]++(aB aT aW l m)∧nx=5,⟨(aD F a.toNat).toNat,?_⟩,?_⟩
      ·have hFa:=hFr (k:=a.toNat) (by omega);refine aQ (b:=2) (P:=[(3,oI (F)),(4,oI ([a])),(2,aX l.length m.length c1 c2 n)]) (W:=aB aT aW l m) (e0:=HO b i 1 a) (n0:=5) [] ⟨a,[a],i+1,rfl,by omega,rfl,⟨ha0,ha1⟩,by omega,Nat.one_pos,by show 1+_≤_;omega,rfl,rfl,rfl⟩ ?_ hok ?_ ?_ (bJ rfl) (fun _ h=>by cases h) (Nat.le_of_ble_eq_true rfl)
       ·unfold HO;((repeat' refine iE rfl rfl ?_);exact iN)
       ·(repeat' with_reducible first|refine aK ?_ (hN (by decide))|refine aS ?_ (hN (by decide))|refine bA ?_ (hN (by decide)))
        exact hbR
       refine oF rfl rfl rfl rfl ?_;refine oW rfl rfl rfl rfl (aU (aH aP _) rfl) ?_;refine oW rfl rfl rfl rfl ⟨rfl,rfl,rfl,rfl,cO rfl⟩ ?_;exact iN
      rintro q e h nx ⟨f,out,k6,rfl,hk6,hw6,hf6,hF6,hpo,hlo,rfl,rfl,rfl⟩;have hbP:=rY (P:=[(3,oI (F)),(4,oI (out)),(2,aX l.length m.length c1 c2 n)]) hok rfl;obtain⟨k7,rfl⟩:∃ k7,k6=k7+1:=⟨k6 - 1,by omega⟩;have hlen6:(flat aP.fl out).length=out.length:=(by rw [a7];show _*1=_;omega);have hw7:yW m F b (k7+1) f out=if f=b then out else yW m F b k7 (A0 F f b (dS m f) (dS m f).length) (out++[A0 F f b (dS m f) (dS m f).length]):=rfl
      unfold HO aX aB;((conv=>whnf);apply bm<;>intro g7)
      ·have g7:f≠b:=(by simpa [aA,aC] using g7);rw [if_neg g7] at hw7;have hgo:=hgd hf6 g7 hF6;(conv=>whnf);refine⟨_,_,_,[iv f],l,m,rfl,aJ aT rfl,aJ aW rfl,?_⟩;rw [show aDY l m n [iv f]=some (decide (m.length≤1000)&&decide (0≤n)&&decide (n≤1000),dS m f,none) from by rw [hnbe];rfl];refine aM (by rw [decide_eq_true hm,decide_eq_true (show 0≤n by omega),decide_eq_true (show n≤1000 by omega)];rfl) ?_;have hnbl:=vD m f;have hnbr:=fun {k:Nat} (hk:k<(dS m f).length)=>gU hE hk;generalize hnb:dS m f=nb at *;refine qH aP hgo.2.2.2 ?_;(conv=>whnf);refine⟨fun q e h nx=>∃ (t:Nat) (ti:Int),ti=t∧t≤nb.length∧q=nb.length - t∧e=OJ b i out.length f nb.length (A0 F f b nb t) ti∧h=[(3,oI (F)),(4,oI (out)),(5,oI (nb)),(2,aX l.length m.length c1 c2 n)]++(aB aT aW l m)∧nx=6,⟨nb.length,?_⟩,?_⟩
       ·skip
        refine aQ (b:=2) (P:=[(3,oI (F)),(4,oI (out)),(5,oI (nb)),(2,aX l.length m.length c1 c2 n)]) (W:=aB aT aW l m) (e0:=OJ b i out.length f nb.length (-1) 0) (n0:=6) [] ⟨0,0,rfl,Nat.zero_le _,rfl,rfl,rfl,rfl⟩ ?_ hok ?_ ?_ (bJ rfl) (fun _ h=>by cases h) (Nat.le_of_ble_eq_true rfl)
        ·unfold OJ HO;((repeat' refine iE rfl rfl ?_);exact iN)
        ·(repeat' with_reducible first|refine aK ?_ (hN (by decide))|refine aS ?_ (hN (by decide))|refine bA ?_ (hN (by decide)))
         exact hbP
        refine oF rfl rfl rfl rfl ?_;refine oF rfl rfl rfl rfl ?_;refine oF rfl rfl rfl rfl ?_;refine oW rfl rfl rfl rfl ⟨rfl,rfl,rfl,rfl,cO rfl⟩ ?_;exact iN
       rintro q e h nx ⟨t,ti,hti,ht,rfl,rfl,rfl,rfl⟩;have hbN:=rY (P:=[(3,oI (F)),(4,oI (out)),(5,oI (nb)),(2,aX l.length m.length c1 c2 n)]) hok rfl;have hxs:A0 F f b nb (t+1)=if A0 F f b nb t<0∧VJ F f b (aD nb t)=true then aD nb t else A0 F f b nb t:=rfl
       have hxe:t=nb.length→A0 F f b nb t=A0 F f b nb nb.length:=fun h=>(by rw [h]);have hF7:=hFr (k:=f.toNat) (by omega);generalize hx:A0 F f b nb t=x at *;unfold OJ HO aX aB;((conv=>whnf);apply bm<;>intro g8)
       ·have htl:t<nb.length:=(by simp [aA,aC] at g8;omega);have hg:=hnbr (k:=t) htl;have hFg:=hFr (k:=(aD nb t).toNat) (by omega);clear hgd hgo hw7 hw6 hxe;by_cases hcc:x<0∧VJ F f b (aD nb t)=true
        ·rw [if_pos hcc] at hxs;simp only [VJ,Bool.and_eq_true,Bool.or_eq_true,decide_eq_true_eq] at hcc
         repeat' first
          |(((conv=>whnf);apply bm<;>intro c))
          |((conv=>whnf)
            refine eC (bY nb (i:=t) htl ?_) ?_
            ·show _+Int.toNat ti*1=_;omega)
          |((conv=>whnf)
            refine eC (bY F (i:=(aD nb t).toNat) (by rw [hL0];omega) ?_) ?_
            ·show _+Int.toNat (aD nb t)*1=_;omega)
          |((conv=>whnf)
            refine eC (bY F (i:=f.toNat) (by rw [hL0];omega) ?_) ?_
            ·show _+Int.toNat f*1=_;omega)
         all_goals (conv=>whnf)
         all_goals first
          |(refine⟨nb.length - (t+1),by omega,?_⟩
            refine aQ (b:=2) (P:=[(3,oI (F)),(4,oI (out)),(5,oI (nb)),(2,aX l.length m.length c1 c2 n)]) (W:=aB aT aW l m) (e0:=OJ b i out.length f nb.length (aD nb t) (ti+1)) (n0:=6) [] ⟨t+1,ti+1,by omega,by omega,rfl,by rw [hxs] <;> rfl,rfl,rfl⟩ ?_ hok ?_ ?_ (bJ rfl) (fun _ h=>by cases h) (Nat.le_of_ble_eq_true rfl)
            ·unfold OJ HO;((repeat' refine iE rfl rfl ?_);exact iN)
            ·(repeat' with_reducible first|refine aK ?_ (hN (by decide))|refine aS ?_ (hN (by decide))|refine bA ?_ (hN (by decide)))
             exact hbN
            refine oF rfl rfl rfl rfl ?_;refine oF rfl rfl rfl rfl ?_;refine oF rfl rfl rfl rfl ?_;refine oW rfl rfl rfl rfl ⟨rfl,rfl,rfl,rfl,cO rfl⟩ ?_;exact iN)
          |(exfalso;clear hIl hIr hMl hKl D6 hI0 hIs hnbe hok hN hE ho hbA hQ hxs hbR hbP hbN hnb hIz;simp [aA,aC,aF] at*<;> first|omega|(simp_all;done)|(simp_all;omega))
        rw [if_neg hcc] at hxs;simp only [VJ,Bool.and_eq_true,Bool.or_eq_true,decide_eq_true_eq,not_and,not_or] at hcc
        repeat' first
         |(((conv=>whnf);apply bm<;>intro c))
         |((conv=>whnf)
           refine eC (bY nb (i:=t) htl ?_) ?_
           ·show _+Int.toNat ti*1=_;omega)
         |((conv=>whnf)
           refine eC (bY F (i:=(aD nb t).toNat) (by rw [hL0];omega) ?_) ?_
           ·show _+Int.toNat (aD nb t)*1=_;omega)
         |((conv=>whnf)
           refine eC (bY F (i:=f.toNat) (by rw [hL0];omega) ?_) ?_
           ·show _+Int.toNat f*1=_;omega)
        all_goals (conv=>whnf)
        all_goals first
         |(refine⟨nb.length - (t+1),by omega,?_⟩
           refine aQ (b:=2) (P:=[(3,oI (F)),(4,oI (out)),(5,oI (nb)),(2,aX l.length m.length c1 c2 n)]) (W:=aB aT aW l m) (e0:=OJ b i out.length f nb.length (x) (ti+1)) (n0:=6) [] ⟨t+1,ti+1,by omega,by omega,rfl,by rw [hxs] <;> rfl,rfl,rfl⟩ ?_ hok ?_ ?_ (bJ rfl) (fun _ h=>by cases h) (Nat.le_of_ble_eq_true rfl)
           ·unfold OJ HO;((repeat' refine iE rfl rfl ?_);exact iN)
           ·(repeat' with_reducible first|refine aK ?_ (hN (by decide))|refine aS ?_ (hN (by decide))|refine bA ?_ (hN (by decide)))
            exact hbN
           refine oF rfl rfl rfl rfl ?_;refine oF rfl rfl rfl rfl ?_;refine oF rfl rfl rfl rfl ?_;refine oW rfl rfl rfl rfl ⟨rfl,rfl,rfl,rfl,cO rfl⟩ ?_;exact iN)
         |(exfalso;clear hIl hIr hMl hKl D6 hI0 hIs hnbe hok hN hE ho hbA hQ hxs hbR hbP hbN hnb hIz;simp [aA,aC,aF] at*<;> first|omega|(simp_all;done)|(simp_all;omega))
       have htl:t=nb.length:=(by simp [aA,aC] at g8;omega);rw [← hxe htl] at hgo hw7;clear hxs hgd
       repeat' (((conv=>whnf);apply bm<;>intro c))
       all_goals (conv=>whnf)
       all_goals first
        |(refine⟨(aD F x.toNat).toNat,by omega,?_⟩
          refine aQ (b:=2) (P:=[(3,oI (F)),(4,oI (out++[x])),(2,aX l.length m.length c1 c2 n)]) (W:=aB aT aW l m) (e0:=HO b i (out.length+1) x) (n0:=5) [(4,7)] ⟨x,out++[x],k7,rfl,by omega,by rw [← hw6,hw7],hgo.1,by omega,by rw [List.length_append];exact Nat.succ_pos _,by rw [List.length_append];show _+1+_≤_;omega,by rw [List.length_append];rfl,rfl,rfl⟩ ?_ hok ?_ ?_ (bJ rfl) (IP rfl) (Nat.le_of_ble_eq_true rfl)
          ·unfold HO;((repeat' refine iE rfl rfl ?_);exact iN)
          ·(repeat' with_reducible first|refine aK ?_ (hN (by decide))|refine aS ?_ (hN (by decide))|refine bA ?_ (hN (by decide)))
           exact hbN
          refine oF rfl rfl rfl rfl ?_;refine oW rfl rfl rfl rfl (aU (aH aP _) (cL aP out x rfl)) ?_;refine oW rfl rfl rfl rfl ⟨rfl,rfl,rfl,rfl,cO rfl⟩ ?_;exact iN)
        |exact jA (s:=1) (by omega) (by omega) (by assumption)
        |(exfalso;rename_i v;have:=Nat.le_of_ble_eq_true v;omega)
        |(exfalso;clear hIl hIr hMl hKl D6 hI0 hIs hnbe hok hN hE ho hbA hQ hw7 hw6 hgo hbR hbP hbN hnb hIz;simp [aA,aC,aF] at*<;> first|omega|(simp_all;done)|(simp_all;omega))
      have g7:f=b:=(by simpa [aA,aC] using g7);rw [if_pos g7] at hw7;rw [← hw6,hw7] at hQ;(conv=>whnf);rw [← hQ];exact iR aP (l:=out) (e:=some 0) (h:=[(3,oI (F)),(4,oI (out)),(2,aX l.length m.length c1 c2 n)]++(aB aT aW l m)) (q:=4) (nx:=5) hpo rfl
     exfalso;simp [aA,aC] at h1;omega
    have g4:zi≤n:=(by simp [aA,aC] at g4;omega);rw [← hzi] at hIz;generalize fJ m n b z=S0 at *;(conv=>whnf);refine⟨fun q e h nx=>∃ (f:Nat) (fi:Int),fi=f∧f≤i∧q=i - f∧e=tT a b i zi fi∧h=[(3,oI (mL m b zi S0 f)),(2,aX l.length m.length c1 c2 n)]++(aB aT aW l m)∧nx=4,⟨i,?_⟩,?_⟩
    ·skip
     refine aQ (b:=2) (P:=[(3,oI (S0)),(2,aX l.length m.length c1 c2 n)]) (W:=aB aT aW l m) (e0:=tT a b i zi 0) (n0:=4) [] ⟨0,0,rfl,Nat.zero_le _,rfl,rfl,rfl,rfl⟩ ?_ hok ?_ ?_ (bJ rfl) (fun _ h=>by cases h) (Nat.le_of_ble_eq_true rfl)
     ·unfold tT sR;((repeat' refine iE rfl rfl ?_);exact iN)
     ·(repeat' with_reducible first|refine aK ?_ (hN (by decide))|refine aS ?_ (hN (by decide))|refine bA ?_ (hN (by decide)))
      exact hbR
     refine oF rfl rfl rfl rfl ?_;refine oW rfl rfl rfl rfl ⟨rfl,rfl,rfl,rfl,cO rfl⟩ ?_;exact iN
    rintro q e h nx ⟨f,fi,hfi,hf,rfl,rfl,rfl,rfl⟩;have IP:=hMl hz0 hL0 hf;have hMs:mL m b zi S0 (f+1)=if QL b zi (mL m b zi S0 f) fi=true then mL m b zi S0 f else uR (dS m fi) zi (mL m b zi S0 f) (dS m fi).length:=by rw [hfi];rfl
    have hMe:f=i→mL m b zi S0 f=fJ m n b (z+1):=fun h=>(by rw [h];exact hIz.symm);generalize hS:mL m b zi S0 f=S at *;have hbM:=rY (P:=[(3,oI (S)),(2,aX l.length m.length c1 c2 n)]) hok rfl;unfold tT sR aX aB;((conv=>whnf);apply bm<;>intro g5);rotate_left
    ·have hfl:f=i:=(by simp [aA,aC] at g5;omega);have hMe:=hMe hfl
     repeat' (((conv=>whnf);apply bm<;>intro c))
     all_goals (conv=>whnf)
     all_goals first
      |(refine⟨i - (z+1),by omega,?_⟩
        refine aQ (b:=2) (P:=[(3,oI (S)),(2,aX l.length m.length c1 c2 n)]) (W:=aB aT aW l m) (e0:=sR a b i (zi+1)) (n0:=4) [] ⟨z+1,zi+1,by omega,by omega,rfl,rfl,by rw [hMe] <;> rfl,rfl⟩ ?_ hok ?_ ?_ (bJ rfl) (fun _ h=>by cases h) (Nat.le_of_ble_eq_true rfl)
        ·unfold sR;((repeat' refine iE rfl rfl ?_);exact iN)
        ·(repeat' with_reducible first|refine aK ?_ (hN (by decide))|refine aS ?_ (hN (by decide))|refine bA ?_ (hN (by decide)))
         exact hbM
        refine oF rfl rfl rfl rfl ?_;refine oW rfl rfl rfl rfl ⟨rfl,rfl,rfl,rfl,cO rfl⟩ ?_;exact iN)
      |(exfalso;clear hgd hIl hIr hMl hKl D6 hI0 hIs hnbe hok hN hE ho hbA hQ hMs hMe hbR hbM hIz;simp [aA,aC,aF] at*<;> first|omega|(simp_all;done)|(simp_all;omega))
    have g5:fi≤n:=(by simp [aA,aC] at g5;omega);cases hsk:QL b zi S fi with
    |true =>
     rw [if_pos hsk] at hMs;simp only [QL,Bool.or_eq_true,Bool.and_eq_true,decide_eq_true_eq] at hsk
     repeat' first
      |(((conv=>whnf);apply bm<;>intro c))
      |((conv=>whnf)
        refine eC (bY S (i:=fi.toNat) (by rw [IP];omega) ?_) ?_
        ·show _+Int.toNat fi*1=_;omega)
     all_goals (conv=>whnf)
     all_goals first
      |(refine⟨i - (f+1),by omega,?_⟩
        refine aQ (b:=2) (P:=[(3,oI (S)),(2,aX l.length m.length c1 c2 n)]) (W:=aB aT aW l m) (e0:=tT a b i zi (fi+1)) (n0:=4) [] ⟨f+1,fi+1,by omega,by omega,rfl,rfl,by rw [hMs] <;> rfl,rfl⟩ ?_ hok ?_ ?_ (bJ rfl) (fun _ h=>by cases h) (Nat.le_of_ble_eq_true rfl)
        ·unfold tT sR;((repeat' refine iE rfl rfl ?_);exact iN)
        ·(repeat' with_reducible first|refine aK ?_ (hN (by decide))|refine aS ?_ (hN (by decide))|refine bA ?_ (hN (by decide)))
         exact hbM
        refine oF rfl rfl rfl rfl ?_;refine oW rfl rfl rfl rfl ⟨rfl,rfl,rfl,rfl,cO rfl⟩ ?_;exact iN)
      |(exfalso;clear hgd hIl hIr hMl hKl D6 hI0 hIs hnbe hok hN hE ho hbA hQ hMs hMe hbR hbM hIz;simp [aA,aC,aF] at*<;> first|omega|(simp_all;done)|(simp_all;omega))
    |false =>
     rw [if_neg (by rw [hsk];decide)] at hMs;simp only [QL,Bool.or_eq_false_iff,Bool.and_eq_false_iff,decide_eq_false_iff_not] at hsk
     repeat' first
      |(((conv=>whnf);apply bm<;>intro c))
      |((conv=>whnf)
        refine eC (bY S (i:=fi.toNat) (by rw [IP];omega) ?_) ?_
        ·show _+Int.toNat fi*1=_;omega)
     all_goals (conv=>whnf)
     all_goals first
      |(skip
        refine⟨_,_,_,[iv fi],l,m,rfl,aJ aT rfl,aJ aW rfl,?_⟩;rw [show aDY l m n [iv fi]=some (decide (m.length≤1000)&&decide (0≤n)&&decide (n≤1000),dS m fi,none) from by rw [hnbe];rfl];refine aM (by rw [decide_eq_true hm,decide_eq_true (show 0≤n by omega),decide_eq_true (show n≤1000 by omega)];rfl) ?_;have hKs:=fun {t:Nat} (ht:t≤(dS m fi).length)=>hKl hz0 IP ht;have hnbr:=fun {k:Nat} (hk:k<(dS m fi).length)=>gU hE hk;have hnbl:=vD m fi;generalize hnb:dS m fi=nb at *;rcases Nat.eq_zero_or_pos nb.length with hzz|hzz
        ·have hz2:nb=[]:=List.length_eq_zero_iff.1 hzz;subst hz2;have hMs2:mL m b zi S0 (f+1)=S:=hMs;(conv=>whnf);refine⟨fun q e h nx=>q=0∧e=DF a b i zi fi (.slice none 0 0) 0∧h=[(3,oI (S)),(2,aX l.length m.length c1 c2 n)]++(aB aT aW l m)∧nx=4,⟨0,?_⟩,?_⟩
         ·skip
          refine aQ (b:=2) (P:=[(3,oI (S)),(2,aX l.length m.length c1 c2 n)]) (W:=aB aT aW l m) (e0:=DF a b i zi fi (.slice none 0 0) 0) (n0:=4) [] ⟨rfl,rfl,rfl,rfl⟩ ?_ hok ?_ ?_ (bJ rfl) (fun _ h=>by cases h) (Nat.le_of_ble_eq_true rfl)
          ·unfold DF tT sR;((repeat' refine iE rfl rfl ?_);exact iN)
          ·(repeat' with_reducible first|refine aK ?_ (hN (by decide))|refine aS ?_ (hN (by decide))|refine bA ?_ (hN (by decide)))
           exact hbM
          refine oF rfl rfl rfl rfl ?_;refine oW rfl rfl rfl rfl ⟨rfl,rfl,rfl,rfl,cO rfl⟩ ?_;exact iN
         rintro q e h nx ⟨rfl,rfl,rfl,rfl⟩;unfold DF tT sR aX aB
         repeat' (((conv=>whnf);apply bm<;>intro c))
         all_goals (conv=>whnf)
         all_goals first
          |(refine⟨i - (f+1),by omega,?_⟩
            refine aQ (b:=2) (P:=[(3,oI (S)),(2,aX l.length m.length c1 c2 n)]) (W:=aB aT aW l m) (e0:=tT a b i zi (fi+1)) (n0:=4) [] ⟨f+1,fi+1,by omega,by omega,rfl,rfl,by rw [hMs2] <;> rfl,rfl⟩ ?_ hok ?_ ?_ (bJ rfl) (fun _ h=>by cases h) (Nat.le_of_ble_eq_true rfl)
            ·unfold tT sR;((repeat' refine iE rfl rfl ?_);exact iN)
            ·(repeat' with_reducible first|refine aK ?_ (hN (by decide))|refine aS ?_ (hN (by decide))|refine bA ?_ (hN (by decide)))
             exact hbM
            refine oF rfl rfl rfl rfl ?_;refine oW rfl rfl rfl rfl ⟨rfl,rfl,rfl,rfl,cO rfl⟩ ?_;exact iN)
          |(exfalso;clear hgd hIl hIr hMl hKl D6 hI0 hIs hnbe hok hN hE ho hbA hQ hMs hMs2 hMe hbR hbM hKs hnb hIz;simp [aA,aC,aF] at*<;> first|omega|(simp_all;done)|(simp_all;omega))
        refine qH aP hzz ?_;(conv=>whnf);refine⟨fun q e h nx=>∃ (t:Nat) (ti:Int),ti=t∧t≤nb.length∧q=nb.length - t∧e=DF a b i zi fi (.slice (some ⟨4,0,none⟩) nb.length nb.length) ti∧h=[(3,oI (uR nb zi S t)),(4,oI (nb)),(2,aX l.length m.length c1 c2 n)]++(aB aT aW l m)∧nx=5,⟨nb.length,?_⟩,?_⟩
        ·skip
         refine aQ (b:=2) (P:=[(3,oI (S)),(4,oI (nb)),(2,aX l.length m.length c1 c2 n)]) (W:=aB aT aW l m) (e0:=DF a b i zi fi (.slice (some ⟨4,0,none⟩) nb.length nb.length) 0) (n0:=5) [] ⟨0,0,rfl,Nat.zero_le _,rfl,rfl,rfl,rfl⟩ ?_ hok ?_ ?_ (bJ rfl) (fun _ h=>by cases h) (Nat.le_of_ble_eq_true rfl)
         ·unfold DF tT sR;((repeat' refine iE rfl rfl ?_);exact iN)
         ·(repeat' with_reducible first|refine aK ?_ (hN (by decide))|refine aS ?_ (hN (by decide))|refine bA ?_ (hN (by decide)))
          exact hbM
         refine oF rfl rfl rfl rfl ?_;refine oF rfl rfl rfl rfl ?_;refine oW rfl rfl rfl rfl ⟨rfl,rfl,rfl,rfl,cO rfl⟩ ?_;exact iN
        rintro q e h nx ⟨t,ti,hti,ht,rfl,rfl,rfl,rfl⟩;have hY:=hKs ht;have hYs:uR nb zi S (t+1)=if aD (uR nb zi S t) (aD nb t).toNat<0 then (uR nb zi S t).set (aD nb t).toNat (zi+1) else uR nb zi S t:=rfl
        have hYe:t=nb.length→uR nb zi S t=mL m b zi S0 (f+1):=fun h=>(by rw [h];exact hMs.symm);generalize uR nb zi S t=Y at *;have hbK:=rY (P:=[(3,oI (Y)),(4,oI (nb)),(2,aX l.length m.length c1 c2 n)]) hok rfl;unfold DF tT sR aX aB;((conv=>whnf);apply bm<;>intro g6)
        ·have htl:t<nb.length:=(by simp [aA,aC] at g6;omega);have hgr:=hnbr htl;((conv=>whnf);apply bm<;>intro g7);rotate_left
         ·exfalso;simp [aA,aC] at g7;omega
         (conv=>whnf);refine eC (bY nb (i:=t) htl ?_) ?_
         ·show _+Int.toNat ti*1=_;omega
         ((conv=>whnf);apply bm<;>intro g8);rotate_left
         ·exfalso;simp [aA,aC] at g8;omega
         (conv=>whnf);refine eC (bY Y (i:=(aD nb t).toNat) (by rw [hY];omega) ?_) ?_
         ·show _+Int.toNat (aD nb t)*1=_;omega
         generalize hgg:aD nb t=g at *;((conv=>whnf);apply bm<;>intro ga);rotate_left
         ·have ga:¬ aD Y g.toNat<0:=(by simpa [aA,aC] using ga);rw [if_neg ga] at hYs
          repeat' (((conv=>whnf);apply bm<;>intro c))
          all_goals (conv=>whnf)
          all_goals first
           |(refine⟨nb.length - (t+1),by omega,?_⟩
             refine aQ (b:=2) (P:=[(3,oI (Y)),(4,oI (nb)),(2,aX l.length m.length c1 c2 n)]) (W:=aB aT aW l m) (e0:=DF a b i zi fi (.slice (some ⟨4,0,none⟩) nb.length nb.length) (ti+1)) (n0:=5) [] ⟨t+1,ti+1,by omega,by omega,rfl,rfl,by rw [hYs] <;> rfl,rfl⟩ ?_ hok ?_ ?_ (bJ rfl) (fun _ h=>by cases h) (Nat.le_of_ble_eq_true rfl)
             ·unfold DF tT sR;((repeat' refine iE rfl rfl ?_);exact iN)
             ·(repeat' with_reducible first|refine aK ?_ (hN (by decide))|refine aS ?_ (hN (by decide))|refine bA ?_ (hN (by decide)))
              exact hbK
             refine oF rfl rfl rfl rfl ?_;refine oF rfl rfl rfl rfl ?_;refine oW rfl rfl rfl rfl ⟨rfl,rfl,rfl,rfl,cO rfl⟩ ?_;exact iN)
           |(exfalso;clear hgd hIl hIr hMl hKl D6 hI0 hIs hnbe hok hN hE ho hbA hQ hMs hMe hYs hYe hbR hbM hbK hKs hnb hIz;simp [aA,aC,aF] at*<;> first|omega|(simp_all;done)|(simp_all;omega))
         have ga:aD Y g.toNat<0:=(by simpa [aA,aC] using ga);rw [if_pos ga] at hYs
         repeat' first
          |(((conv=>whnf);apply bm<;>intro c))
          |((conv=>whnf)
            refine eC (bY nb (i:=t) htl ?_) ?_
            ·show _+Int.toNat ti*1=_;omega)
         all_goals (conv=>whnf)
         all_goals first
          |(refine⟨nb.length - (t+1),by omega,?_⟩
            refine aQ (b:=2) (P:=[(3,oI (Y.set g.toNat (zi+1))),(4,oI (nb)),(2,aX l.length m.length c1 c2 n)]) (W:=aB aT aW l m) (e0:=DF a b i zi fi (.slice (some ⟨4,0,none⟩) nb.length nb.length) (ti+1)) (n0:=5) [] ⟨t+1,ti+1,by omega,by omega,rfl,rfl,by rw [hYs] <;> rfl,rfl⟩ ?_ hok ?_ ?_ (bJ rfl) (fun _ h=>by cases h) (Nat.le_of_ble_eq_true rfl)
            ·unfold DF tT sR;((repeat' refine iE rfl rfl ?_);exact iN)
            ·(repeat' with_reducible first|refine aK ?_ (hN (by decide))|refine aS ?_ (hN (by decide))|refine bA ?_ (hN (by decide)))
             exact hbK
            refine oW rfl rfl rfl (o':=oI (Y.set g.toNat (zi+1))) ?_ (aN (aH _ _)) ?_
            ·have hp:=kS Y g.toNat (zi+1) (by rw [hY];omega);show some (a8.cells true false 1 (cN (flat aP.fl Y) (0+Int.toNat (aD nb t)*1) [iv (zi+1)]))=_;rw [hgg,show 0+Int.toNat g*1=g.toNat*1 by omega,hp]
            refine oF rfl rfl rfl rfl ?_;refine oW rfl rfl rfl rfl ⟨rfl,rfl,rfl,rfl,cO rfl⟩ ?_;exact iN)
          |(exfalso
            rename_i c;have hq:Nat.ble (0+Int.toNat g*1+1) (flat aP.fl Y).length=true:=Nat.ble_eq_true_of_le (by rw [a7,hY];show _≤i*1;omega);rw [← hgg] at hq;exact Bool.false_ne_true (c.symm.trans hq))
          |(exfalso;clear hgd hIl hIr hMl hKl D6 hI0 hIs hnbe hok hN hE ho hbA hQ hMs hMe hYs hYe hbR hbM hbK hKs hnb hIz;simp [aA,aC,aF] at*<;> first|omega|(simp_all;done)|(simp_all;omega))
        have htl:t=nb.length:=(by simp [aA,aC] at g6;omega);have hYe:=hYe htl
        repeat' (((conv=>whnf);apply bm<;>intro c))
        all_goals (conv=>whnf)
        all_goals first
         |(refine⟨i - (f+1),by omega,?_⟩
           refine aQ (b:=2) (P:=[(3,oI (Y)),(2,aX l.length m.length c1 c2 n)]) (W:=aB aT aW l m) (e0:=tT a b i zi (fi+1)) (n0:=4) [] ⟨f+1,fi+1,by omega,by omega,rfl,rfl,by rw [hYe] <;> rfl,rfl⟩ ?_ hok ?_ ?_ (bJ rfl) (fun _ h=>by cases h) (Nat.le_of_ble_eq_true rfl)
           ·unfold tT sR;((repeat' refine iE rfl rfl ?_);exact iN)
           ·(repeat' with_reducible first|refine aK ?_ (hN (by decide))|refine aS ?_ (hN (by decide))|refine bA ?_ (hN (by decide)))
            exact hbK
           refine oF rfl rfl rfl rfl ?_;refine oW rfl rfl rfl rfl ⟨rfl,rfl,rfl,rfl,cO rfl⟩ ?_;exact iN)
         |(exfalso;clear hgd hIl hIr hMl hKl D6 hI0 hIs hnbe hok hN hE ho hbA hQ hMs hMe hYs hYe hbR hbM hbK hKs hnb hIz;simp [aA,aC,aF] at*<;> first|omega|(simp_all;done)|(simp_all;omega)))
      |(exfalso;clear hgd hIl hIr hMl hKl D6 hI0 hIs hnbe hok hN hE ho hbA hQ hMs hMe hbR hbM hIz;simp [aA,aC,aF] at*<;> first|omega|(simp_all;done)|(simp_all;omega))
end Go.Aw
end
