/-
  FacesColumns No condition.
-/
import Derived.Test.YtjahkcbdecgbhaaGreatQBq
import Derived.Test.YtjahkcbdecgbhaaGreatQBr
import Derived.Test.YtjahkcbdecgbhaaGreatQBt
set_option linter.unusedSimpArgs false
set_option linter.unusedVariables false
noncomputable section
namespace Go.Aw
set_option maxRecDepth 100000
set_option maxHeartbeats 4000000
def OA (m:List Ed)(i:Int):Int:=(cC m i.toNat).l
theorem UK (m:List Ed)(S:List Int):∀ k,k≤S.length→G0 m S k=[0]++(S.take k).map (OA m)
 |0,_=>by rw [List.take_zero];rfl
 |k+1,h=>by
  unfold G0;rw [UK m S k (by omega),List.take_succ_eq_append_getElem (by omega),List.map_append,List.append_assoc,dD (by omega)];rfl
def M5 (l:List Pt)(m:List Ed)(x:Int)(M:List Int):List Int:=(RB (z7 l m (2*x+1)) M.length M).map (OA m)
theorem aFC {l:List Pt}{m:List Ed}{n x:Int}(ho:eK l m n=true):SE l m x=[0]++M5 l m x (bZ (cT l x) m m.length):=by
 unfold SE;rw [aGD ho,UK _ _ _ (Nat.le_refl _),List.take_length];rfl
theorem aFv {l:List Pt}{m:List Ed}{x:Int}{M:List Int}(h:0<M.length){b:Nat}(hb:zL (z7 l m (2*x+1)) M (M.length - 1)=b):M5 l m x M=[OA m (aM M b)]++M5 l m x (M.eraseIdx b):=by
 have hle:=FL (z7 l m (2*x+1)) M (M.length - 1);rw [hb] at hle;unfold M5;obtain⟨k,hk⟩:∃ k,M.length=k+1:=⟨M.length - 1,by omega⟩;rw [List.length_eraseIdx,if_pos (by omega),hk,Nat.add_sub_cancel]
 conv=>lhs;unfold RB
 rw [if_neg (by omega),hb];rfl
def rR (x:Int)(v:Value)(j:Int):List (Nat × Value):=[(1,iv x),(2,pV 2),(7,v),(8,iv j)]
def FO (l:List Pt)(m:List Ed)(c1 c2:Nat)(n:Int):Heap:=(2,aX l.length m.length c1 c2 n)::aB aQ aU l m
def u7 (l:List Pt)(m:List Ed)(c1 c2:Nat)(n:Int)(M:List Int):Heap:=(3,.cells true false 1 (flat aO.fl M))::FO l m c1 c2 n
def uV (x:Int)(v:Value)(q k:Nat):List (Nat × Value):=[(1,iv x),(2,pV 2),(7,v),(10,.slice (some ⟨q,0,none⟩) k k)]
def OX (x:Int)(N k:Nat)(b z:Int):List (Nat × Value):=[(1,iv x),(2,pV 2),(7,.slice (some ⟨3,0,none⟩) N N),(10,.slice (some ⟨4,0,none⟩) k k),(11,iv b),(12,iv z)]
def BY (l:List Pt)(m:List Ed)(c1 c2:Nat)(n:Int)(M out:List Int):Heap:=(3,.cells true false 1 (flat aO.fl M))::(4,.cells true false 1 (flat aO.fl out))::FO l m c1 c2 n
theorem flI:∀ L:List Int,flat aO.fl L=L.map iv
 |[]=>rfl
 |a::r=>by show [iv a]++flat aO.fl r=_;rw [flI r];rfl
theorem H6 {M:List Int}{B p q d:Nat}{Z:List Value}(hp:p=B)(hq:q=M.length - (B+1))(hd:d=B+1)(hZ:Z.take B=(flat aO.fl M).take B):List.take p Z++List.take q (List.drop d (flat aO.fl M))=flat aO.fl (M.eraseIdx B):=by
 subst hp hq hd;rw [hZ,flI,flI,List.eraseIdx_eq_take_drop_succ,List.map_append,List.map_take,List.map_drop,List.take_of_length_le (l:=List.drop _ _) (by rw [List.length_drop,List.length_map];omega)]
theorem X7 (cs:List Value)(o:Nat):dJ cs o []=cs:=by
 unfold dJ;simp
theorem DI {l:List Pt}{m:List Ed}{k:Nat}{o:aV}(h:look (aB aQ aU l m) k=some o):(k=0∧o=.cells false true aQ.sz (flat aQ.fl l))∨(k=1∧o=.cells false true aU.sz (flat aU.fl m)):=by
 have:=a8 h;simp only [aB,List.mem_cons,List.not_mem_nil,or_false] at this;rcases this with h|h <;> (injection h with e1 e2)
 ·exact .inl ⟨e1,e2⟩
 ·exact .inr ⟨e1,e2⟩
theorem KN (l:List Pt)(m:List Ed):vB (aB aQ aU l m) 2:=bY (bY (fun k o hk=>by cases hk) (by decide) (aN (aF _ _))) (by decide) (aN (aF _ _))
theorem CN {k x N s:Nat}{p:Prop}(hk:k≤1000000000)(hx:x=N)(h:aA.A.andB (aA.A.andB (k.ble 1000000000) (x.ble N)) (aA.A.andB (x.beq N) (Nat.beq s s))=false):p:=by
 subst hx;have h:((k.ble 1000000000&&x.ble x)&&(x.beq x&&Nat.beq s s))=false:=h;rw [Nat.ble_eq_true_of_le hk,Nat.ble_eq_true_of_le (Nat.le_refl x),Nat.beq_refl,Nat.beq_refl] at h;cases h
def aGq:Nat × XF:=(20,mRX clP)
theorem aLv:cO Go.Proofs.Tryz.prog aGq.1 aGq.2:=aBH (aL (xl:=[aHI,ZX,aGj]) (.cons aKh (.cons aFA (.cons aKX .nil)))) fun l m n r out e hs=>by
 obtain⟨x,rfl,hlm,rfl,rfl⟩:=UC hs;clear hs;have hfb:YQ l m n x=(eK l m n&&MC x):=rfl;refine⟨rfl,fun c1 c2=>?_⟩;generalize hQ:Yields aO (if YQ l m n x=true then SE l m x else []) (some (if YQ l m n x=true then 0 else 1))=Q;(conv=>whnf);refine⟨l,m,aI aQ rfl,aI aU rfl,?_⟩;refine aJ (smB hlm) ?_;cases ho:eK l m n with
 |false =>
  rw [ho,Bool.false_and] at hfb;(conv=>whnf);rw [← hQ,hfb];rfl
 |true =>
  rw [ho,Bool.true_and] at hfb;obtain⟨hM,h3,h1l,h400,m400,_,_⟩:=jF (kR ho);have hR:=SO (kR ho);((conv=>whnf);refine bm (fun g1=>?_) (fun g1=>?_))
  ·have g1:0≤x:=(by simpa [aA,aC] using g1);((conv=>whnf);refine bm (fun g2=>?_) (fun g2=>?_))
   ·have g2:10000≤x:=(by simpa [aA,aC] using g2);rw [show MC x=false by unfold MC;rw [decide_eq_false (show ¬ x<10000 by omega),Bool.and_false]] at hfb;(conv=>whnf);rw [← hQ,hfb];rfl
   ·have g2:x<10000:=(by simp [aA,aC] at g2;omega);rw [show MC x=true by unfold MC;rw [decide_eq_true g1,decide_eq_true g2];rfl] at hfb;rw [hfb,if_pos rfl,if_pos rfl,aFC ho] at hQ;(conv=>whnf)
    refine⟨fun q e h nx=>∃ (i:Nat) (j:Int),j=i∧i≤m.length∧q=m.length - i ∧
     ((bZ (cT l x) m i=[]∧e=rR x aP j∧h=FO l m c1 c2 n∧nx=3)∨(0<(bZ (cT l x) m i).length∧e=rR x (.slice (some ⟨3,0,none⟩) (bZ (cT l x) m i).length (bZ (cT l x) m i).length) j∧h=u7 l m c1 c2 n (bZ (cT l x) m i)∧nx=4)),⟨m.length,?_⟩,?_⟩
    ·refine aK (e0:=rR x aP 0) (h0:=FO l m c1 c2 n) (n0:=3) ⟨0,0,rfl,Nat.zero_le _,rfl,.inl ⟨rfl,rfl,rfl,rfl⟩⟩ ?_ ?_ (by decide)
     ·unfold rR;((repeat' refine iE rfl rfl ?_);exact iN)
     ·unfold FO aX aB;((repeat'(first|refine iF rfl rfl ?_|refine iC rfl rfl rfl ?_|refine iJ rfl rfl rfl rfl ?_));exact iN)
    ·rintro q e h nx ⟨i,j,hj,hi,rfl,⟨hnil,rfl,rfl,rfl⟩|⟨hpos,rfl,rfl,rfl⟩⟩
     ·unfold rR FO aX aB;((conv=>whnf);refine bm (fun m1=>?_) (fun m1=>?_))
      ·have hil:i<m.length:=(by simp [aA,aC] at m1;omega);have hji:j.toNat=i:=(by omega);have hcp:cT l x (cC m i)=(decide ((aY l m j.toNat).1.1≤x)&&decide (x<(aY l m j.toNat).2.1)):=(by rw [hji];rfl);(conv=>whnf);refine⟨l,m,aI aQ rfl,aI aU rfl,?_⟩;refine aJ (show (kK l m&&(decide (0≤j)&&decide (j<m.length)))=true by rw [hM,decide_eq_true (show 0≤j by omega),decide_eq_true (show j<(m.length:Int) by omega)];rfl) ?_;((conv=>whnf);refine bm (fun p1=>?_) (fun p1=>?_))
       ·have p1:(aY l m j.toNat).1.1≤x:=(by simpa [aA,aC] using p1);((conv=>whnf);refine bm (fun p2=>?_) (fun p2=>?_))
        ·((conv=>whnf);refine bm (fun p3=>?_) (fun p3=>?_))
         ·have p3:x+1≤(aY l m j.toNat).2.1:=(by simpa [aA,aC] using p3);have hcT:cT l x (cC m i)=true:=(by rw [hcp,decide_eq_true p1,decide_eq_true (show x<(aY l m j.toNat).2.1 by omega)];rfl);have hf:bZ (cT l x) m (i+1)=[j]:=(by rw [zS hcT,hnil,hj];rfl);((conv=>whnf);refine bm (fun p4=>?_) (fun p4=>?_))
          ·(conv=>whnf);refine⟨m.length - (i+1),by omega,?_⟩;refine iY (e0:=rR x (.slice (some ⟨3,0,none⟩) 1 1) (j+1)) (h0:=u7 l m c1 c2 n [j]) (n0:=4) 3 5 (by decide) (by decide) ⟨i+1,j+1,by omega,by omega,rfl,.inr ⟨by rw [hf];exact Nat.one_pos,by rw [hf];rfl,by rw [hf],rfl⟩⟩ ?_ ?_ ?_
           ·unfold rR;((repeat' refine iE rfl rfl ?_);exact iN)
           ·unfold u7 FO aX aB;((repeat'(first|refine iF rfl rfl ?_|refine iC rfl rfl rfl ?_|refine iJ rfl rfl rfl rfl ?_));exact iN)
           ·unfold u7;((repeat' refine iK rfl ?_);exact iN)
          ·exfalso;simp [aA,aC,aH] at p4;omega
         ·have p3:¬ x+1≤(aY l m j.toNat).2.1:=(by simpa [aA,aC] using p3);have hcT:cT l x (cC m i)=false:=(by rw [hcp,decide_eq_false (show ¬ x<(aY l m j.toNat).2.1 by omega),Bool.and_false]);have hf:bZ (cT l x) m (i+1)=[]:=(rZ hcT).trans hnil;((conv=>whnf);refine bm (fun p4=>?_) (fun p4=>?_))
          ·(conv=>whnf);refine⟨m.length - (i+1),by omega,?_⟩;refine aK (e0:=rR x aP (j+1)) (h0:=FO l m c1 c2 n) (n0:=3) ⟨i+1,j+1,by omega,by omega,rfl,.inl ⟨hf,rfl,rfl,rfl⟩⟩ ?_ ?_ (by decide)
           ·unfold rR;((repeat' refine iE rfl rfl ?_);exact iN)
           ·unfold FO aX aB;((repeat'(first|refine iF rfl rfl ?_|refine iC rfl rfl rfl ?_|refine iJ rfl rfl rfl rfl ?_));exact iN)
          ·exfalso;simp [aA,aC,aH] at p4;omega
        ·exfalso;simp [aA,aC,aH] at p2;omega
       ·have p1:¬ (aY l m j.toNat).1.1≤x:=(by simpa [aA,aC] using p1);have hcT:cT l x (cC m i)=false:=(by rw [hcp,decide_eq_false p1];rfl);have hf:bZ (cT l x) m (i+1)=[]:=(rZ hcT).trans hnil;((conv=>whnf);refine bm (fun p4=>?_) (fun p4=>?_))
        ·(conv=>whnf);refine⟨m.length - (i+1),by omega,?_⟩;refine aK (e0:=rR x aP (j+1)) (h0:=FO l m c1 c2 n) (n0:=3) ⟨i+1,j+1,by omega,by omega,rfl,.inl ⟨hf,rfl,rfl,rfl⟩⟩ ?_ ?_ (by decide)
         ·unfold rR;((repeat' refine iE rfl rfl ?_);exact iN)
         ·unfold FO aX aB;((repeat'(first|refine iF rfl rfl ?_|refine iC rfl rfl rfl ?_|refine iJ rfl rfl rfl rfl ?_));exact iN)
        ·exfalso;simp [aA,aC,aH] at p4;omega
      ·have hil:i=m.length:=(by simp [aA,aC] at m1;omega);rw [hil] at hnil;rw [hnil] at hQ;(conv=>whnf);refine⟨fun q e h nx=>q=0∧e=uV x aP 3 1∧h=u7 l m c1 c2 n [0]∧nx=4,⟨0,?_⟩,?_⟩
       ·refine aK (e0:=uV x aP 3 1) (h0:=u7 l m c1 c2 n [0]) (n0:=4) ⟨rfl,rfl,rfl,rfl⟩ ?_ ?_ (by decide)
        ·unfold uV;((repeat' refine iE rfl rfl ?_);exact iN)
        ·unfold u7 FO aX aB;((repeat'(first|refine iF rfl rfl ?_|refine iC rfl rfl rfl ?_|refine iJ rfl rfl rfl rfl ?_));exact iN)
       ·rintro q e h nx ⟨rfl,rfl,rfl,rfl⟩;unfold uV u7 FO aX aB;(conv=>whnf);rw [← hQ];exact kY aO (l:=[0]) (e:=some 0) (q:=3) (nx:=4) Nat.one_pos rfl
     ·have hlen:(flat aO.fl (bZ (cT l x) m i)).length=(bZ (cT l x) m i).length:=(by rw [bE];show _*1=_;omega);have hle:=pR (cT l x) m i;unfold rR u7 FO aX aB;((conv=>whnf);refine bm (fun m1=>?_) (fun m1=>?_))
      ·have hil:i<m.length:=(by simp [aA,aC] at m1;omega);have hji:j.toNat=i:=(by omega);have hcp:cT l x (cC m i)=(decide ((aY l m j.toNat).1.1≤x)&&decide (x<(aY l m j.toNat).2.1)):=(by rw [hji];rfl);(conv=>whnf);refine⟨l,m,aI aQ rfl,aI aU rfl,?_⟩;refine aJ (show (kK l m&&(decide (0≤j)&&decide (j<m.length)))=true by rw [hM,decide_eq_true (show 0≤j by omega),decide_eq_true (show j<(m.length:Int) by omega)];rfl) ?_;((conv=>whnf);refine bm (fun p1=>?_) (fun p1=>?_))
       ·have p1:(aY l m j.toNat).1.1≤x:=(by simpa [aA,aC] using p1);((conv=>whnf);refine bm (fun p2=>?_) (fun p2=>?_))
        ·((conv=>whnf);refine bm (fun p3=>?_) (fun p3=>?_))
         ·have p3:x+1≤(aY l m j.toNat).2.1:=(by simpa [aA,aC] using p3);have hcT:cT l x (cC m i)=true:=(by rw [hcp,decide_eq_true p1,decide_eq_true (show x<(aY l m j.toNat).2.1 by omega)];rfl);have hf:bZ (cT l x) m (i+1)=bZ (cT l x) m i++[j]:=(by rw [zS hcT,hj]);((conv=>whnf);refine bm (fun m4=>?_) (fun m4=>?_))
          ·exfalso;have:=Nat.le_of_ble_eq_true m4;omega
          ·((conv=>whnf);refine bm (fun m5=>?_) (fun m5=>?_))
           ·((conv=>whnf);refine bm (fun p4=>?_) (fun p4=>?_))
            ·(conv=>whnf);refine⟨m.length - (i+1),by omega,?_⟩;refine iY (e0:=rR x (.slice (some ⟨3,0,none⟩) ((bZ (cT l x) m i).length+1) ((bZ (cT l x) m i).length+1)) (j+1)) (h0:=u7 l m c1 c2 n (bZ (cT l x) m i++[j])) (n0:=4) 3 6 (by decide) (by decide) ⟨i+1,j+1,by omega,by omega,rfl,.inr ⟨by rw [hf,List.length_append];exact Nat.succ_pos _,by rw [hf,List.length_append];rfl,by rw [hf];rfl,rfl⟩⟩ ?_ ?_ ?_
             ·unfold rR;((repeat' refine iE rfl rfl ?_);exact iN)
             ·unfold u7 FO aX aB;((repeat'(first|refine iW rfl rfl (aW (aF aO _) (c9 aO (bZ (cT l x) m i) j rfl)) ?_|refine iF rfl rfl ?_|refine iC rfl rfl rfl ?_|refine iJ rfl rfl rfl rfl ?_));exact iN)
             ·unfold u7;((repeat' refine iK rfl ?_);exact iN)
            ·exfalso;simp [aA,aC,aH] at p4;omega
           ·exact m7 (s:=1) (by omega) (by omega) m5
         ·have p3:¬ x+1≤(aY l m j.toNat).2.1:=(by simpa [aA,aC] using p3);have hcT:cT l x (cC m i)=false:=(by rw [hcp,decide_eq_false (show ¬ x<(aY l m j.toNat).2.1 by omega),Bool.and_false]);have hf:bZ (cT l x) m (i+1)=bZ (cT l x) m i:=rZ hcT;((conv=>whnf);refine bm (fun p4=>?_) (fun p4=>?_))
          ·(conv=>whnf);refine⟨m.length - (i+1),by omega,?_⟩;refine aK (e0:=rR x (.slice (some ⟨3,0,none⟩) (bZ (cT l x) m i).length (bZ (cT l x) m i).length) (j+1)) (h0:=u7 l m c1 c2 n (bZ (cT l x) m i)) (n0:=4) ⟨i+1,j+1,by omega,by omega,rfl,.inr ⟨by rw [hf];exact hpos,by rw [hf];rfl,by rw [hf];rfl,rfl⟩⟩ ?_ ?_ (by decide)
           ·unfold rR;((repeat' refine iE rfl rfl ?_);exact iN)
           ·unfold u7 FO aX aB;((repeat'(first|refine iF rfl rfl ?_|refine iC rfl rfl rfl ?_|refine iJ rfl rfl rfl rfl ?_));exact iN)
          ·exfalso;simp [aA,aC,aH] at p4;omega
        ·exfalso;simp [aA,aC,aH] at p2;omega
       ·have p1:¬ (aY l m j.toNat).1.1≤x:=(by simpa [aA,aC] using p1);have hcT:cT l x (cC m i)=false:=(by rw [hcp,decide_eq_false p1];rfl);have hf:bZ (cT l x) m (i+1)=bZ (cT l x) m i:=rZ hcT;((conv=>whnf);refine bm (fun p4=>?_) (fun p4=>?_))
        ·(conv=>whnf);refine⟨m.length - (i+1),by omega,?_⟩;refine aK (e0:=rR x (.slice (some ⟨3,0,none⟩) (bZ (cT l x) m i).length (bZ (cT l x) m i).length) (j+1)) (h0:=u7 l m c1 c2 n (bZ (cT l x) m i)) (n0:=4) ⟨i+1,j+1,by omega,by omega,rfl,.inr ⟨by rw [hf];exact hpos,by rw [hf];rfl,by rw [hf];rfl,rfl⟩⟩ ?_ ?_ (by decide)
         ·unfold rR;((repeat' refine iE rfl rfl ?_);exact iN)
         ·unfold u7 FO aX aB;((repeat'(first|refine iF rfl rfl ?_|refine iC rfl rfl rfl ?_|refine iJ rfl rfl rfl rfl ?_));exact iN)
        ·exfalso;simp [aA,aC,aH] at p4;omega
      ·have hil:i=m.length:=(by simp [aA,aC] at m1;omega);(conv=>whnf)
       refine⟨fun q e h nx=>∃ (M out:List Int),q=M.length∧M.length≤m.length∧0<out.length∧out.length+M.length≤m.length+1∧(∀ y∈M,0≤y∧y<m.length)∧[0]++M5 l m x (bZ (cT l x) m m.length)=out++M5 l m x M∧nx=5 ∧
        e=uV x (.slice (some ⟨3,0,none⟩) M.length M.length) 4 out.length∧h=BY l m c1 c2 n M out,⟨(bZ (cT l x) m m.length).length,?_⟩,?_⟩
       ·rw [hil] at hpos hle ⊢;have hin:=DH (cT l x) m m.length (Nat.le_refl _);refine aK (e0:=uV x (.slice (some ⟨3,0,none⟩) (bZ (cT l x) m m.length).length (bZ (cT l x) m m.length).length) 4 1) (h0:=BY l m c1 c2 n (bZ (cT l x) m m.length) [0]) (n0:=5) ⟨bZ (cT l x) m m.length,[0],rfl,by omega,Nat.one_pos,by simp only [List.length_singleton];omega,hin,rfl,rfl,rfl,rfl⟩ ?_ ?_ (by decide)
        ·unfold uV;((repeat' refine iE rfl rfl ?_);exact iN)
        ·unfold BY FO aX aB;((repeat'(first|refine iF rfl rfl ?_|refine iC rfl rfl rfl ?_|refine iJ rfl rfl rfl rfl ?_));exact iN)
       ·clear hpos hle hil m1 hlen;rintro q e h nx ⟨M,out,rfl,hMl,hol,hsum,hin,htot,rfl,rfl,rfl⟩;have hMf:(flat aO.fl M).length=M.length:=(by rw [bE];show _*1=_;omega);have hof:(flat aO.fl out).length=out.length:=(by rw [bE];show _*1=_;omega);unfold uV BY FO aX aB;((conv=>whnf);refine bm (fun m1=>?_) (fun m1=>?_))
        ·have hM0:0<M.length:=(by simp [aA,aC] at m1;omega);(conv=>whnf);refine⟨fun q e h nx=>∃ (t:Nat) (z b:Int),z=t+1∧t+1≤M.length∧b=zL (z7 l m (2*x+1)) M t∧q=M.length - (t+1)∧e=OX x M.length out.length b z∧h=BY l m c1 c2 n M out∧nx=5,⟨M.length - 1,?_⟩,?_⟩
         ·refine aK (e0:=OX x M.length out.length 0 1) (h0:=BY l m c1 c2 n M out) (n0:=5) ⟨0,1,0,rfl,by omega,rfl,by omega,rfl,rfl,rfl⟩ ?_ ?_ (by decide)
          ·unfold OX;((repeat' refine iE rfl rfl ?_);exact iN)
          ·unfold BY FO aX aB;((repeat'(first|refine iF rfl rfl ?_|refine iC rfl rfl rfl ?_|refine iJ rfl rfl rfl rfl ?_));exact iN)
         ·rintro q e h nx ⟨t,z,b,hz,ht,hbv,rfl,rfl,rfl,rfl⟩;have hble:=FL (z7 l m (2*x+1)) M t;unfold OX BY FO aX aB;((conv=>whnf);refine bm (fun m2=>?_) (fun m2=>?_))
          ·have htl:t+1<M.length:=(by simp [aA,aC] at m2;omega);have hbl:zL (z7 l m (2*x+1)) M t<M.length:=(by omega);have i1:=hin (aM M (t+1)) (by rw [dD htl];exact List.getElem_mem htl);have i2:=hin (aM M (zL (z7 l m (2*x+1)) M t)) (by rw [dD hbl];exact List.getElem_mem hbl);have hbs:zL (z7 l m (2*x+1)) M (t+1)=if z7 l m (2*x+1) (aM M (t+1)) (aM M (zL (z7 l m (2*x+1)) M t))=true then t+1 else zL (z7 l m (2*x+1)) M t:=rfl
           repeat' first
            |(((conv=>whnf);refine bm (fun g=>?_) (fun g=>?_)))
            |((conv=>whnf)
              refine iB (fN M (i:=t+1) htl ?_) ?_
              ·show _+Int.toNat z*1=_;omega)
            |((conv=>whnf)
              refine iB (fN M (i:=zL (z7 l m (2*x+1)) M t) hbl ?_) ?_
              ·show _+Int.toNat b*1=_;omega)
           all_goals (conv=>whnf)
           all_goals first
            |(exfalso;simp [aA,aC,aH] at g;omega)
            |skip
           refine⟨l,m,aI aQ rfl,aI aU rfl,?_⟩;refine aJ (show (kK l m&&l.all aZ&&(decide (0≤aM M (t+1))&&decide (aM M (t+1)<m.length)&&(decide (0≤aM M (zL (z7 l m (2*x+1)) M t))&&decide (aM M (zL (z7 l m (2*x+1)) M t)<m.length))&&(decide (0≤2*x+1)&&decide (2*x+1≤30000))))=true by
            rw [hM,hR,decide_eq_true i1.1,decide_eq_true i1.2,decide_eq_true i2.1,decide_eq_true i2.2,decide_eq_true (show 0≤2*x+1 by omega),decide_eq_true (show 2*x+1≤30000 by omega)];rfl) ?_
           ((conv=>whnf);refine bm (fun p1=>?_) (fun p1=>?_))
           ·have p1:z7 l m (2*x+1) (aM M (t+1)) (aM M (zL (z7 l m (2*x+1)) M t))=true:=p1;rw [if_pos p1] at hbs;((conv=>whnf);refine bm (fun p2=>?_) (fun p2=>?_))
            ·(conv=>whnf);refine⟨M.length - (t+1+1),by omega,?_⟩;refine aK (e0:=OX x M.length out.length z (z+1)) (h0:=BY l m c1 c2 n M out) (n0:=5) ⟨t+1,z+1,z,by omega,by omega,by rw [hbs];omega,rfl,rfl,rfl,rfl⟩ ?_ ?_ (by decide)
             ·unfold OX;((repeat' refine iE rfl rfl ?_);exact iN)
             ·unfold BY FO aX aB;((repeat'(first|refine iF rfl rfl ?_|refine iC rfl rfl rfl ?_|refine iJ rfl rfl rfl rfl ?_));exact iN)
            ·exfalso;simp [aA,aC,aH] at p2;omega
           ·have p1:z7 l m (2*x+1) (aM M (t+1)) (aM M (zL (z7 l m (2*x+1)) M t))=false:=p1;rw [if_neg (by rw [p1];decide)] at hbs;((conv=>whnf);refine bm (fun p2=>?_) (fun p2=>?_))
            ·(conv=>whnf);refine⟨M.length - (t+1+1),by omega,?_⟩;refine aK (e0:=OX x M.length out.length b (z+1)) (h0:=BY l m c1 c2 n M out) (n0:=5) ⟨t+1,z+1,b,by omega,by omega,by rw [hbs];exact hbv,rfl,rfl,rfl,rfl⟩ ?_ ?_ (by decide)
             ·unfold OX;((repeat' refine iE rfl rfl ?_);exact iN)
             ·unfold BY FO aX aB;((repeat'(first|refine iF rfl rfl ?_|refine iC rfl rfl rfl ?_|refine iJ rfl rfl rfl rfl ?_));exact iN)
            ·exfalso;simp [aA,aC,aH] at p2;omega
          ·have htl:t+1=M.length:=(by simp [aA,aC] at m2;omega);have hbl:zL (z7 l m (2*x+1)) M t<M.length:=(by omega);have hlf:=aFv (l:=l) (m:=m) (x:=x) hM0 (b:=zL (z7 l m (2*x+1)) M t) (by rw [show M.length - 1=t by omega]);have i2:=hin (aM M (zL (z7 l m (2*x+1)) M t)) (by rw [dD hbl];exact List.getElem_mem hbl);generalize zL (z7 l m (2*x+1)) M t=B at hbv hble hbl hlf i2;((conv=>whnf);refine bm (fun q1=>?_) (fun q1=>?_))
           ·(conv=>whnf);refine iB (fN M (i:=B) hbl ?_) ?_
            ·show _+Int.toNat b*1=_;omega
            ((conv=>whnf);refine bm (fun q2=>?_) (fun q2=>?_))
            ·(conv=>whnf);refine iB (HU m 2 (i:=(aM M B).toNat) (by omega) rfl (by decide) ?_) ?_
             ·show _+Int.toNat (aM M B)*5+2=_;omega
             ((conv=>whnf);refine bm (fun q3=>?_) (fun q3=>?_))
             ·exfalso;have:=Nat.le_of_ble_eq_true q3;omega
             ·((conv=>whnf);refine bm (fun q4=>?_) (fun q4=>?_))
              ·have hel:(M.eraseIdx B).length=M.length - 1:=(by rw [List.length_eraseIdx,if_pos hbl]);have hine:∀ y∈M.eraseIdx B,0≤y∧y<m.length:=fun y hy=>hin y ((List.eraseIdx_sublist M B).subset hy);have htot2:[0]++M5 l m x (bZ (cT l x) m m.length)=(out++[OA m (aM M B)])++M5 l m x (M.eraseIdx B):=(by rw [htot,hlf,List.append_assoc]);have hol2:(out++[OA m (aM M B)]).length=out.length+1:=(by rw [List.length_append];rfl);rcases Nat.eq_zero_or_pos B with hB|hB
               ·subst hB;have hb0:b=0:=(by omega);subst hb0;by_cases hE:M.length=1
                ·obtain⟨a,rfl⟩:∃ a,M=[a]:=by
                  match M,hE with
                  |[a],_=>exact⟨a,rfl⟩
                 repeat' (((conv=>whnf);refine bm (fun g=>?_) (fun g=>?_)))
                 all_goals (conv=>whnf)
                 refine⟨[a].length - 1,by first|omega|exact Nat.zero_lt_one,?_⟩;have hN:[a].length - 1=0:=rfl;refine c8 (P:=[(3,.cells true false 1 (flat aO.fl ([a].eraseIdx 0))),(4,.cells true false 1 (flat aO.fl (out++[OA m (aM [a] 0)]))),(2,aX l.length m.length c1 c2 n)]) (W:=aB aQ aU l m) (e0:=uV x (.slice (some ⟨3,0,none⟩) (0) (0)) 4 (out.length+1)) (n0:=5) [(3,8),(4,6)] ⟨[a].eraseIdx 0,out++[OA m (aM [a] 0)],hel.symm,by omega,by rw [hol2];omega,by rw [hol2,hel];omega,hine,htot2,rfl,by rw [hel,hol2,hN];rfl,rfl⟩ ?_ (KN l m) ?_ ?_ ?_ ?_ (by omega)
                 ·unfold uV;((repeat' refine iE rfl rfl ?_);exact iN)
                 ·exact fun k o hk=>by rcases DI hk with ⟨rfl,rfl⟩|⟨rfl,rfl⟩ <;> rfl
                 ·refine List.forall_mem_cons.2 ⟨⟨.inl ⟨Nat.le_of_ble_eq_true rfl,Nat.le_of_ble_eq_true rfl,Nat.le_of_ble_eq_true rfl⟩,_,rfl,aW (aF aO _) ?_⟩,List.forall_mem_cons.2 ⟨⟨.inl ⟨Nat.le_of_ble_eq_true rfl,Nat.le_of_ble_eq_true rfl,Nat.le_of_ble_eq_true rfl⟩,_,rfl,aW (aF aO _) (c9 aO out (OA m (aM [a] 0)) rfl)⟩,List.forall_mem_cons.2 ⟨⟨.inl ⟨Nat.le_of_ble_eq_true rfl,Nat.le_of_ble_eq_true rfl,Nat.le_of_ble_eq_true rfl⟩,_,rfl,rfl,rfl,rfl,rfl,gR rfl⟩,fun _ h=>(by cases h)⟩⟩⟩;rfl
                 ·show ∀ k∈[3,4,2],∀ k'∈[3,4,2],_;decide
                 ·show ∀ p∈[(3,8),(4,6)],_;decide
                ·((conv=>whnf);refine bm (fun q7=>?_) (fun q7=>?_))
                 ·((conv=>whnf);refine bm (fun q8=>?_) (fun q8=>?_))
                  ·((conv=>whnf);refine bm (fun q9=>?_) (fun q9=>?_))
                   ·((conv=>whnf);refine bm (fun q10=>?_) (fun q10=>?_))
                    ·exfalso;have q10:0+0+(M.length - 1)≤0:=Nat.le_of_ble_eq_true q10;omega
                    ·((conv=>whnf);refine bm (fun q11=>?_) (fun q11=>?_))
                     ·(conv=>whnf);refine⟨M.length - 1,by first|omega|exact Nat.zero_lt_one,?_⟩;have hN:M.length - 1=0+0+(M.length - 1):=(by omega);refine c8 (P:=[(3,.cells true false 1 (flat aO.fl (M.eraseIdx 0))),(4,.cells true false 1 (flat aO.fl (out++[OA m (aM M 0)]))),(2,aX l.length m.length c1 c2 n)]) (W:=aB aQ aU l m) (e0:=uV x (.slice (some ⟨3,0,none⟩) (0+0+(M.length - 1)) (0+0+(M.length - 1))) 4 (out.length+1)) (n0:=5) [(3,8),(4,6)] ⟨M.eraseIdx 0,out++[OA m (aM M 0)],hel.symm,by omega,by rw [hol2];omega,by rw [hol2,hel];omega,hine,htot2,rfl,by rw [hel,hol2,← hN];rfl,rfl⟩ ?_ (KN l m) ?_ ?_ ?_ ?_ (by omega)
                      ·unfold uV;((repeat' refine iE rfl rfl ?_);exact iN)
                      ·exact fun k o hk=>by rcases DI hk with ⟨rfl,rfl⟩|⟨rfl,rfl⟩ <;> rfl
                      ·refine List.forall_mem_cons.2 ⟨⟨.inl ⟨Nat.le_of_ble_eq_true rfl,Nat.le_of_ble_eq_true rfl,Nat.le_of_ble_eq_true rfl⟩,_,rfl,aW (aF aO _) ?_⟩,List.forall_mem_cons.2 ⟨⟨.inl ⟨Nat.le_of_ble_eq_true rfl,Nat.le_of_ble_eq_true rfl,Nat.le_of_ble_eq_true rfl⟩,_,rfl,aW (aF aO _) (c9 aO out (OA m (aM M 0)) rfl)⟩,List.forall_mem_cons.2 ⟨⟨.inl ⟨Nat.le_of_ble_eq_true rfl,Nat.le_of_ble_eq_true rfl,Nat.le_of_ble_eq_true rfl⟩,_,rfl,rfl,rfl,rfl,rfl,gR rfl⟩,fun _ h=>(by cases h)⟩⟩⟩;exact H6 (p:=(0+0)*1) (q:=(M.length - 1)*1) (d:=0+1*1) (Z:=[]) rfl (by omega) rfl rfl
                      ·show ∀ k∈[3,4,2],∀ k'∈[3,4,2],_;decide
                      ·show ∀ p∈[(3,8),(4,6)],_;decide
                     ·exact CN (k:=0+0+(M.length - 1)) (x:=0) (N:=0) (s:=1) (by omega) rfl q11
                   ·exact dI (x:=0+1*1+(M.length - 1)*1) (N:=(flat aO.fl M).length) q9 (by omega)
                  ·exfalso;simp [aA,aC] at q8;omega
                 ·exfalso;simp [aA,aC] at q7;omega
               ·have hbt:(b+1).toNat=b.toNat+1:=(by omega);have hla:∀ (A:List Value),(A++List.take (b.toNat*1) (List.drop 0 (flat aO.fl M))).length=A.length+b.toNat:=fun A=>by
                 rw [List.length_append,List.length_take,List.drop_zero,hMf];omega
                ((conv=>whnf);refine bm (fun q5=>?_) (fun q5=>?_))
                ·((conv=>whnf);refine bm (fun q6=>?_) (fun q6=>?_))
                 ·((conv=>whnf);refine bm (fun q7=>?_) (fun q7=>?_))
                  ·by_cases hE:B+1=M.length
                   ·((conv=>whnf);refine bm (fun q8=>?_) (fun q8=>?_))
                    ·exfalso;simp [aA,aC] at q8;omega
                    ·((conv=>whnf);refine bm (fun q9=>?_) (fun q9=>?_))
                     ·((conv=>whnf);refine bm (fun q10=>?_) (fun q10=>?_))
                      ·exfalso;have q10:0+b.toNat≤0:=Nat.le_of_ble_eq_true q10;omega
                      ·((conv=>whnf);refine bm (fun q11=>?_) (fun q11=>?_))
                       ·((conv=>whnf);refine bm (fun q12=>?_) (fun q12=>?_))
                        ·((conv=>whnf);refine bm (fun q13=>?_) (fun q13=>?_))
                         ·(conv=>whnf);refine⟨M.length - 1,by first|omega|exact Nat.zero_lt_one,?_⟩;have hN:M.length - 1=0+b.toNat:=(by omega);refine c8 (P:=[(3,.cells true false 1 (flat aO.fl (M.eraseIdx B))),(4,.cells true false 1 (flat aO.fl (out++[OA m (aM M B)]))),(2,aX l.length m.length c1 c2 n)]) (W:=aB aQ aU l m) (e0:=uV x (.slice (some ⟨3,0,none⟩) (0+b.toNat) (0+b.toNat)) 4 (out.length+1)) (n0:=5) [(3,9),(4,6)] ⟨M.eraseIdx B,out++[OA m (aM M B)],hel.symm,by omega,by rw [hol2];omega,by rw [hol2,hel];omega,hine,htot2,rfl,by rw [hel,hol2,hN];rfl,rfl⟩ ?_ (KN l m) ?_ ?_ ?_ ?_ (by omega)
                          ·unfold uV;((repeat' refine iE rfl rfl ?_);exact iN)
                          ·exact fun k o hk=>by rcases DI hk with ⟨rfl,rfl⟩|⟨rfl,rfl⟩ <;> rfl
                          ·refine List.forall_mem_cons.2 ⟨⟨.inl ⟨Nat.le_of_ble_eq_true rfl,Nat.le_of_ble_eq_true rfl,Nat.le_of_ble_eq_true rfl⟩,_,rfl,aW (aF aO _) ?_⟩,List.forall_mem_cons.2 ⟨⟨.inl ⟨Nat.le_of_ble_eq_true rfl,Nat.le_of_ble_eq_true rfl,Nat.le_of_ble_eq_true rfl⟩,_,rfl,aW (aF aO _) (c9 aO out (OA m (aM M B)) rfl)⟩,List.forall_mem_cons.2 ⟨⟨.inl ⟨Nat.le_of_ble_eq_true rfl,Nat.le_of_ble_eq_true rfl,Nat.le_of_ble_eq_true rfl⟩,_,rfl,rfl,rfl,rfl,rfl,gR rfl⟩,fun _ h=>(by cases h)⟩⟩⟩;show dJ (([]:List Value)++List.take (b.toNat*1) (List.drop 0 (flat aO.fl M))) (0+(0+b.toNat)*1) []=_;rw [X7,List.nil_append,List.drop_zero,flI,flI,List.eraseIdx_eq_take_drop_succ,List.drop_eq_nil_of_le (by omega),List.append_nil,List.map_take,show b.toNat*1=B by omega]
                          ·show ∀ k∈[3,4,2],∀ k'∈[3,4,2],_;decide
                          ·show ∀ p∈[(3,9),(4,6)],_;decide
                         ·refine dI (x:=0+(0+b.toNat+0)*1) (N:=(([]:List Value)++List.take (b.toNat*1) (List.drop 0 (flat aO.fl M))).length) q13 ?_;rw [hla];show _≤0+b.toNat;omega
                        ·exact dI (x:=0+b.toNat+0) (N:=0+b.toNat) q12 (by omega)
                       ·exact CN (k:=0+b.toNat) (x:=0) (N:=0) (s:=1) (by omega) rfl q11
                     ·exact dI (x:=0+b.toNat*1) (N:=(flat aO.fl M).length) q9 (by omega)
                   ·((conv=>whnf);refine bm (fun q8=>?_) (fun q8=>?_))
                    ·((conv=>whnf);refine bm (fun q9=>?_) (fun q9=>?_))
                     ·((conv=>whnf);refine bm (fun q10=>?_) (fun q10=>?_))
                      ·exfalso;have q10:0+b.toNat≤0:=Nat.le_of_ble_eq_true q10;omega
                      ·((conv=>whnf);refine bm (fun q11=>?_) (fun q11=>?_))
                       ·((conv=>whnf);refine bm (fun q12=>?_) (fun q12=>?_))
                        ·((conv=>whnf);refine bm (fun q13=>?_) (fun q13=>?_))
                         ·exfalso;have q13:0+b.toNat+(M.length - (b+1).toNat)≤0+b.toNat:=Nat.le_of_ble_eq_true q13;omega
                         ·((conv=>whnf);refine bm (fun q14=>?_) (fun q14=>?_))
                          ·(conv=>whnf);refine⟨M.length - 1,by first|omega|exact Nat.zero_lt_one,?_⟩;have hN:M.length - 1=0+b.toNat+(M.length - (b+1).toNat):=(by omega);refine c8 (P:=[(3,.cells true false 1 (flat aO.fl (M.eraseIdx B))),(4,.cells true false 1 (flat aO.fl (out++[OA m (aM M B)]))),(2,aX l.length m.length c1 c2 n)]) (W:=aB aQ aU l m) (e0:=uV x (.slice (some ⟨3,0,none⟩) (0+b.toNat+(M.length - (b+1).toNat)) (0+b.toNat+(M.length - (b+1).toNat))) 4 (out.length+1)) (n0:=5) [(3,9),(4,6)] ⟨M.eraseIdx B,out++[OA m (aM M B)],hel.symm,by omega,by rw [hol2];omega,by rw [hol2,hel];omega,hine,htot2,rfl,by rw [hel,hol2,hN];rfl,rfl⟩ ?_ (KN l m) ?_ ?_ ?_ ?_ (by omega)
                           ·unfold uV;((repeat' refine iE rfl rfl ?_);exact iN)
                           ·exact fun k o hk=>by rcases DI hk with ⟨rfl,rfl⟩|⟨rfl,rfl⟩ <;> rfl
                           ·refine List.forall_mem_cons.2 ⟨⟨.inl ⟨Nat.le_of_ble_eq_true rfl,Nat.le_of_ble_eq_true rfl,Nat.le_of_ble_eq_true rfl⟩,_,rfl,aW (aF aO _) ?_⟩,List.forall_mem_cons.2 ⟨⟨.inl ⟨Nat.le_of_ble_eq_true rfl,Nat.le_of_ble_eq_true rfl,Nat.le_of_ble_eq_true rfl⟩,_,rfl,aW (aF aO _) (c9 aO out (OA m (aM M B)) rfl)⟩,List.forall_mem_cons.2 ⟨⟨.inl ⟨Nat.le_of_ble_eq_true rfl,Nat.le_of_ble_eq_true rfl,Nat.le_of_ble_eq_true rfl⟩,_,rfl,rfl,rfl,rfl,rfl,gR rfl⟩,fun _ h=>(by cases h)⟩⟩⟩;refine H6 (p:=(0+b.toNat)*1) (q:=(M.length - (b+1).toNat)*1) (d:=0+(b+1).toNat*1) (Z:=([]:List Value)++List.take (b.toNat*1) (List.drop 0 (flat aO.fl M))) (by omega) (by omega) (by omega) ?_;rw [List.nil_append,List.drop_zero,show b.toNat*1=B by omega,List.take_take,Nat.min_self]
                           ·show ∀ k∈[3,4,2],∀ k'∈[3,4,2],_;decide
                           ·show ∀ p∈[(3,9),(4,6)],_;decide
                          ·refine CN (k:=0+b.toNat+(M.length - (b+1).toNat)) (x:=0+(0+b.toNat)*1) (N:=(([]:List Value)++List.take (b.toNat*1) (List.drop 0 (flat aO.fl M))).length) (s:=1) (by omega) ?_ q14;rw [hla];show 0+(0+b.toNat)*1=0+b.toNat;omega
                        ·exact dI (x:=0+(b+1).toNat*1+(M.length - (b+1).toNat)*1) (N:=(flat aO.fl M).length) q12 (by omega)
                       ·exact CN (k:=0+b.toNat) (x:=0) (N:=0) (s:=1) (by omega) rfl q11
                     ·exact dI (x:=0+b.toNat*1) (N:=(flat aO.fl M).length) q9 (by omega)
                    ·exfalso;simp [aA,aC] at q8;omega
                  ·exfalso;simp [aA,aC] at q7;omega
                 ·exfalso;simp [aA,aC,aH] at q6;omega
                ·exfalso;simp [aA,aC] at q5;omega
              ·exact m7 (s:=1) (by omega) (by omega) q4
            ·exfalso;simp [aA,aC] at q2;omega
           ·exfalso;simp [aA,aC] at q1;omega
        ·have hM0:M.length=0:=(by have m1:¬ ((0:Int)<M.length):=of_decide_eq_false m1;omega);have hMn:M=[]:=List.eq_nil_of_length_eq_zero hM0;subst hMn;(conv=>whnf);rw [← hQ,htot];show Yields aO (out++[]) (some 0) _ _ _;rw [List.append_nil];exact kY aO (l:=out) (e:=some 0) (q:=4) (nx:=5) hol rfl
  ·have g1:¬ 0≤x:=(by simpa [aA,aC] using g1);rw [show MC x=false by unfold MC;rw [decide_eq_false g1];rfl] at hfb;(conv=>whnf);rw [← hQ,hfb];rfl
end Go.Aw
end

noncomputable section
namespace Go.Aw
set_option maxRecDepth 100000
set_option maxHeartbeats 2000000
theorem w4 (l:List Pt)(m:List Ed)(n:Int)(c1 c2:Nat)(x:Int):body [aBC,X16,aCQ,aGk,aGq] 4 [aE l.length m.length c1 c2 n,iv x] (aB aQ aU l m) 2 (fun v _ _=>v=.bool true):=by
 (conv=>whnf);refine⟨l,m,aI aQ rfl,aI aU rfl,?_⟩;((conv=>whnf);refine bm (fun h1=>?_) (fun h1=>?_))
 ·(conv=>whnf)
 ·have hlm:l.length≤1000∧m.length≤1000:=aBf h1;have hsm:=smB hlm;obtain⟨O,hO⟩:∃ O,(if YQ l m n x=true then SE l m x else [])=O:=⟨_,rfl⟩;obtain⟨E,hEE⟩:∃ E:Int,(if YQ l m n x=true then 0 else 1)=E:=⟨_,rfl⟩;have hOl:O.length≤1000000:=by
   rw [← hO];split
   ·rw [TY];have:=VP (l:=l) (m:=m) (x:=x);omega
   ·exact Nat.zero_le _
  have h43:clP l m n [iv x]=some (decide (l.length≤1000)&&decide (m.length≤1000),O,some E):=by
   show some (_,(if YQ l m n x=true then SE l m x else []),some (if YQ l m n x=true then 0 else 1))=_;rw [hO,hEE]
  clear hO hEE;have hsame:smI O O=true:=decide_eq_true rfl;(conv=>whnf);refine⟨_,_,_,[iv x],l,m,rfl,aI aQ rfl,aI aU rfl,?_⟩;rw [h43];refine aJ hsm ?_;cases O with
  |nil =>
   (conv=>whnf);refine⟨_,_,_,[iv x],l,m,rfl,aI aQ rfl,aI aU rfl,?_⟩;rw [h43];refine aJ hsm ?_
   repeat' (((conv=>whnf);refine bm (fun g=>?_) (fun g=>?_)))
   all_goals (conv=>whnf)
   all_goals first
    |(exfalso;simp [aA,aC] at g;done)
    |(refine⟨[],[],⟨rfl,rfl,rfl⟩,⟨rfl,rfl,rfl⟩,?_⟩
      refine aJ (decide_eq_true hOl) ?_;rw [hsame];(conv=>whnf))
  |cons y t =>
   (conv=>whnf);refine⟨_,_,_,[iv x],l,m,rfl,aI aQ rfl,aI aU rfl,?_⟩;rw [h43];refine aJ hsm ?_
   repeat' (((conv=>whnf);refine bm (fun g=>?_) (fun g=>?_)))
   all_goals (conv=>whnf)
   all_goals first
    |(exfalso;simp [aA,aC] at g;done)
    |(refine⟨y::t,y::t,aI aO rfl,aI aO rfl,?_⟩
      refine aJ (decide_eq_true hOl) ?_;rw [hsame];(conv=>whnf))
end Go.Aw
end

noncomputable section
namespace Go.Proofs.YtjahkcbdecgbhaaGreat
open Go.ChangeShapes Go.WideShapes Go.ChangeAt Go.RowKit Go.Aw Go.Joins
set_option maxRecDepth 100000 in
theorem EZ (os:Os)(started:os.Started)(H:Type)(enc:TypeId × Value→H) :
  ReturnsInHanded {} Tryz.checked os 4 .any (Rows.facesColumnsSpec.pre6 enc Tryz.prog Tryz.f4 Rows.facesColumnsRow.domain false) (Rows.facesColumnsSpec.post enc Tryz.prog Tryz.f4 false true false false):=by
 refine returnsInHanded_of_change (C:=Tryz.checked) Tryz.own started (by kernel_rfl) Tryz.func4
  (ChangeSpec.witness6 (enc:=enc) (C:=Tryz.checked) false ⟨#[],#[.agg #[.slice none 0 0,.slice none 0 0,.int .i64 0],.int .i64 0],[]⟩ 3 (by kernel_rfl) (by kernel_rfl) (by kernel_rfl) (by kernel_rfl)) ?_
 intro W base args ds gs before hval0 hW hcnd _;have hval:∀ (j:Nat) t v,Tryz.f4.params[j]? = some t→args[j]? = some v→Value.okWide Tryz.prog W .any base t v:=hval0;have hW':=hW;obtain⟨p,q,hA0,hV,rfl,hfz,hnd⟩:=hW;have hA:DataW.TrodAll enc Tryz.prog W 0 (fun _=>true) true Tryz.f4.params.toList args.toList ds p:=hA0;rw [Tryz.params4] at hA hval;obtain⟨v0,v1,d0,d1,p0,p1,rfl,rfl,rfl,h0,h1⟩:=trodAll_two hA;obtain⟨rfl,rfl⟩:=trodVars_none hV;obtain⟨cs,rfl,hsz⟩:=okWide_struct Tryz.underlying25 (hval 0 25 v0 rfl rfl);have h0':=h0;obtain⟨fuel,hf0⟩:=h0';obtain⟨xs,fu,_,_,hlen,hxl,hf⟩:=DataW.trod_struct Tryz.underlying25 hf0;rw [Tryz.aDa] at hlen;have hcs:∃ a b c,cs.toList=[a,b,c]:=aJP hlen;obtain⟨a,b,c,hcs⟩:=hcs;have ecs:cs=#[a,b,c]:=Array.ext' hcs;subst ecs;obtain⟨x0,x1,x2,rfl⟩:=aJP hxl;obtain⟨l,c1,loc1,a1,a2,a3⟩:=JA aQ (by decide) Tryz.underlying22 Tryz.UB aJ5 (show DataW.trod enc Tryz.prog W 0 (fun _=>true) true fu 22 [a]=some x0 by simpa [Tryz.aDJ,Value.cells] using hf 0 _ rfl);obtain⟨m,c2,loc2,b1,b2,b3⟩:=JA aU (by decide) Tryz.underlying23 Tryz.U5 aIH (show DataW.trod enc Tryz.prog W 0 (fun _=>true) true fu 23 [b]=some x1 by simpa [Tryz.aCh,Value.cells] using hf 1 _ rfl);obtain⟨n,e1⟩:=lS (show DataW.trod enc Tryz.prog W 0 (fun _=>true) true fu 3 [c]=some x2 by simpa [Tryz.rV,Value.cells] using hf 2 _ rfl);subst e1;obtain⟨z0,rfl⟩:=okWide_int Tryz.underlying3 (hval 1 3 v1 rfl rfl);clear hA0 hval0;simp only [List.append_nil,List.append_assoc] at hW';have hlt:∀ x∈p0++p1,x.block<W.heap.size:=fun x hx=>(by simpa using hW'.lt x hx);refine (OU (r:=[iv z0]) (.cons aM9 (.cons x16 (.cons aLu (.cons aLo (.cons aLv .nil))))) rfl (w4 l m n c1 c2 z0) rfl a1 b1 a2 b2 a3 b3).mono fun e W' ⟨he,hb⟩=>?_;subst he;refine⟨_,rfl,_,_,_,[],p0++p1,[],hW',trodAll_mk1 (ZO true),?_,rfl,hb.frame _,fun h=>by cases h⟩;exact trodAll_mk2 (Below.trod Tryz.laidOut (by kernel_rfl) (of_decide_eq_true (by kernel_rfl)) h0 hb (fun x hx=>hlt x (List.mem_append.2 (.inl hx)))) (Below.trod Tryz.laidOut (by kernel_rfl) (of_decide_eq_true (by kernel_rfl)) h1 hb (fun x hx=>hlt x (List.mem_append.2 (.inr hx))))
set_option maxRecDepth 100000 in
theorem jf:joinedFacts Tryz.prog 4 Tryz.f4 Rows.facesColumnsSpec Rows.facesColumnsRow=true:=by
 unfold joinedFacts;exact (eM (eM (eM (eM (eM (eM (eM (eM (eM (eM (eM (eM (eM (eM (eM (eM (eM (eM (eM (eM (eM (eM (eM (eM (eM (eM (eM (eM (eM (eM (eM jf0 jf1) jf2) jf3) jf4) jf5) jf6) jf7) jf8) jf9) aLp) aKB) aKL) aKz) aLO) aLT) aKU) aKG) aKO) aKr) aLL) aLe) aM1) aLU) aLG) aLb) aLR) aL4) (by kernel_rfl)) aKp) aLg) aLF)
theorem columns_holds:Rows.FacesColumnsSaid :=
 OpenClaim.holds_of_wide 4 Tryz.f4 rfl rfl rfl rfl rfl rfl rfl ⟨rfl,rfl,rfl,rfl,rfl⟩ rfl rfl rfl rfl rfl (by kernel_rfl) Tryz.func4 jf
  (of_decide_eq_true (by kernel_rfl)) (by unfold Func.isWrapper;first|(rw [if_pos (by decide +kernel)];kernel_rfl)|(rw [if_neg (by decide +kernel)];exact⟨rfl,rfl⟩))
  (fun os started H enc _=>EZ os started H enc)
#print axioms columns_holds
end Go.Proofs.YtjahkcbdecgbhaaGreat
end
