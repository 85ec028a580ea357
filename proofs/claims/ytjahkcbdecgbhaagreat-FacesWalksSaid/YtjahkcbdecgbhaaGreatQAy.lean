/-
  Parts of the proof, put together. No condition.
-/
import Derived.Test.YtjahkcbdecgbhaaGreatQAx
set_option linter.unusedSimpArgs false
set_option linter.unusedVariables false
noncomputable section
namespace Go.Aw
set_option maxRecDepth 100000
theorem xC (l:List Bool):∀ (i:Nat) (v:Bool),i<l.length→dJ (flat fO.fl l) (i*1) [.bool v]=flat fO.fl (l.set i v):=by
 induction l with
 |nil=>intro i v h;cases h
 |cons a r ih =>
  intro i v h;cases i with
  |zero=>rfl
  |succ i =>
   have:=ih i v (by simpa using h);simp only [List.set_cons_succ,flat,← this];have e:(i+1)*1=i*1+1:=(by omega);rw [e];unfold dJ;show List.take (i*1+1) (.bool a::flat fO.fl r)++_++List.drop (i*1+1+1) (.bool a::flat fO.fl r)=_;rfl
def lN (i:Nat):List Bool:=(List.range i).map fun (t:Nat)=>decide ((t:Int)=0)
theorem rP (i:Nat):(lN i).length=i:=by simp [lN]
theorem aFm (i:Nat):lN (i+1)=lN i++[decide ((i:Int)=0)]:=by
 unfold lN;rw [List.range_succ,List.map_append];rfl
def uV (s:List Bool)(e:Ed):List Bool:=if (cQ s e.a.toNat || cQ s e.b.toNat)=true then (s.set e.a.toNat true).set e.b.toNat true else s
def mA (m:List Ed)(s:List Bool):Nat→List Bool
 |0=>s
 |i+1=>uV (mA m s i) (cW m i)
def dI (l:List Pt)(m:List Ed):Nat→List Bool
 |0=>lN l.length
 |i+1=>mA m (dI l m i) m.length
def KF (l:List Pt)(m:List Ed):Bool:=(dI l m l.length).all id
theorem aAo (s:List Bool)(e:Ed):(uV s e).length=s.length:=by
 unfold uV;split <;> simp
theorem rT (m:List Ed)(s:List Bool):∀ i,(mA m s i).length=s.length
 |0=>rfl
 |i+1=>by unfold mA;rw [aAo];exact rT m s i
theorem xV (l:List Pt)(m:List Ed):∀ i,(dI l m i).length=l.length
 |0=>rP _
 |i+1=>by unfold dI;rw [rT];exact xV l m i
theorem PD {s:List Bool}{a b o1 o2:Nat}(h1:o1=a*1)(h2:o2=b*1)(ha:a<s.length)(hb:b<s.length):dJ (dJ (flat fO.fl s) o1 [.bool true]) o2 [.bool true]=flat fO.fl ((s.set a true).set b true):=by
 rw [h1,h2,xC _ _ _ ha,xC _ _ _ (by rw [List.length_set];exact hb)]
theorem eK {x N:Nat}{p:Prop}(h:x.ble N=false)(hx:x≤N):p:=by
 rw [Nat.ble_eq_true_of_le hx] at h;cases h
def coS (l:List Pt)(m:List Ed)(n:Int):List Value→Option (Bool × Value)
 |[]=>some (mF l m&&decide (1≤l.length),.bool (KF l m))
 |_=>none
theorem aCK {l:List Pt}{m:List Ed}{n:Int}{r:List Value}{v:Value}(h:coS l m n r=some (true,v)):r=[]∧mF l m=true∧1≤l.length∧v=.bool (KF l m):=by
 unfold coS at h;split at h
 ·injection h with h;injection h with h1 h2;simp only [Bool.and_eq_true,decide_eq_true_eq] at h1;exact⟨rfl,h1.1,h1.2,h2.symm⟩
 ·cases h
def cC (l:List Pt)(m:List Ed)(c1 c2:Nat)(n:Int):Heap:=(2,aX l.length m.length c1 c2 n)::aB aR aU l m
def bJ (l:List Pt)(m:List Ed)(c1 c2:Nat)(n:Int)(s:List Bool):Heap:=(3,.cells true false 1 (flat fO.fl s))::cC l m c1 c2 n
def G7 (s:Value)(j:Int):List (Nat × Value):=[(1,.pointer (some ⟨2,0,none⟩)),(3,s),(4,iv j)]
def rF (N:Nat)(j:Int):List (Nat × Value):=[(1,.pointer (some ⟨2,0,none⟩)),(3,.slice (some ⟨3,0,none⟩) N N),(5,iv j)]
def vB (N:Nat)(j k:Int):List (Nat × Value):=(6,iv k)::rF N j
def IB (N:Nat)(j:Int):List (Nat × Value):=[(3,.slice (some ⟨3,0,none⟩) N N),(8,iv j)]
def aAd:Nat × XF:=(157,mX aR aU coS)
theorem aHY:cE Go.Proofs.Tryz.prog aAd.1 aAd.2:=l7 aR aU (aK (xl:=[]) .nil) fun l m n r v hs=>by
 obtain⟨rfl,hM,h1l,rfl⟩:=aCK hs;clear hs;refine⟨rfl,rfl,fun c1 c2=>?_⟩;have hm:m.length≤1000:=(by simp only [mF,Bool.and_eq_true,decide_eq_true_eq] at hM;exact hM.1.2);have hl:l.length≤1000:=(by simp only [mF,Bool.and_eq_true,decide_eq_true_eq] at hM;exact hM.2);(conv=>whnf)
 refine⟨fun q e h nx=>∃ (i:Nat) (j:Int),j=i∧i≤l.length∧q=l.length - i ∧
  ((i=0∧e=G7 (.slice none 0 0) j∧h=cC l m c1 c2 n∧nx=3)∨(0<i∧e=G7 (.slice (some ⟨3,0,none⟩) i i) j∧h=bJ l m c1 c2 n (lN i)∧nx=4)),⟨l.length,?_⟩,?_⟩
 ·refine aL (e0:=G7 (.slice none 0 0) 0) (h0:=cC l m c1 c2 n) (n0:=3) ⟨0,0,rfl,Nat.zero_le _,rfl,.inl ⟨rfl,rfl,rfl,rfl⟩⟩ ?_ ?_ (by decide)
  ·unfold G7;((repeat' refine iE rfl rfl ?_);exact iN)
  ·unfold cC aX aB;((repeat'(first|refine iF rfl rfl ?_|refine iC rfl rfl rfl ?_|refine iJ rfl rfl rfl rfl ?_));exact iN)
 ·rintro q e h nx ⟨i,j,hj,hi,rfl,⟨hi0,rfl,rfl,rfl⟩|⟨hip,rfl,rfl,rfl⟩⟩
  ·subst hi0;unfold G7 cC aX aB;((conv=>whnf);refine bm (fun h2=>?_) (fun h2=>?_))
   ·((conv=>whnf);refine bm (fun h3=>?_) (fun h3=>?_))
    ·(conv=>whnf);refine⟨l.length - 1,by omega,?_⟩;refine iU (e0:=G7 (.slice (some ⟨3,0,none⟩) 1 1) (j+1)) (h0:=bJ l m c1 c2 n [decide (j=0)]) (n0:=4) 3 4 (by decide) (by decide) ⟨1,j+1,by omega,by omega,rfl,.inr ⟨Nat.one_pos,rfl,by rw [hj];rfl,rfl⟩⟩ ?_ ?_ ?_
     ·unfold G7;((repeat' refine iE rfl rfl ?_);exact iN)
     ·unfold bJ cC aX aB;((repeat'(first|refine iF rfl rfl ?_|refine iC rfl rfl rfl ?_|refine iJ rfl rfl rfl rfl ?_));exact iN)
     ·unfold bJ cC aB;((repeat' refine iK rfl ?_);exact iN)
    ·exfalso;simp [aA,aC,aH] at h3;omega
   ·exfalso;simp [aA,aC] at h2;omega
  ·unfold G7 bJ cC aX aB;((conv=>whnf);refine bm (fun h2=>?_) (fun h2=>?_))
   ·have hlt:i<l.length:=(by simp [aA,aC] at h2;omega);have hll:(flat fO.fl (lN i)).length=i:=(by rw [bD,rP];exact Nat.mul_one _);((conv=>whnf);refine bm (fun h3=>?_) (fun h3=>?_))
    ·exfalso;have:=Nat.le_of_ble_eq_true h3;omega
    ·((conv=>whnf);refine bm (fun h4=>?_) (fun h4=>?_))
     ·((conv=>whnf);refine bm (fun h5=>?_) (fun h5=>?_))
      ·(conv=>whnf);refine⟨l.length - (i+1),by omega,?_⟩
       refine iU (e0:=G7 (.slice (some ⟨3,0,none⟩) (i+1) (i+1)) (j+1)) (h0:=bJ l m c1 c2 n (lN i++[decide (j=0)])) (n0:=4) 3 5 (by decide) (by decide)
        ⟨i+1,j+1,by omega,by omega,rfl,.inr ⟨Nat.succ_pos _,rfl,by rw [aFm,hj];rfl,rfl⟩⟩ ?_ ?_ ?_
       ·unfold G7;((repeat' refine iE rfl rfl ?_);exact iN)
       ·unfold bJ cC aX aB;((repeat'(first|refine iW rfl rfl (bG (aI fO _) (gV fO (lN i) (decide (j=0)) (rP i).symm)) ?_|refine iF rfl rfl ?_|refine iC rfl rfl rfl ?_|refine iJ rfl rfl rfl rfl ?_));exact iN)
       ·unfold bJ cC aB;((repeat' refine iK rfl ?_);exact iN)
      ·exfalso;simp [aA,aC,aH] at h5;omega
     ·exact sJ (s:=1) (by omega) (by omega) h4
   ·have hge:i=l.length:=(by simp [aA,aC] at h2;omega);subst hge;clear hj hi hip h2;(conv=>whnf);refine⟨fun q e h nx=>∃ (i:Nat) (j:Int),j=i∧i≤l.length∧q=l.length - i∧e=rF l.length j∧h=bJ l m c1 c2 n (dI l m i)∧nx=4,⟨l.length,?_⟩,?_⟩
    ·refine aL (e0:=rF l.length 0) (h0:=bJ l m c1 c2 n (lN l.length)) (n0:=4) ⟨0,0,rfl,Nat.zero_le _,rfl,rfl,rfl,rfl⟩ ?_ ?_ (by decide)
     ·unfold rF;((repeat' refine iE rfl rfl ?_);exact iN)
     ·unfold bJ cC aX aB;((repeat'(first|refine iF rfl rfl ?_|refine iC rfl rfl rfl ?_|refine iJ rfl rfl rfl rfl ?_));exact iN)
    ·rintro q e h nx ⟨i,j,hj,hi,rfl,rfl,rfl,rfl⟩;have cl:=xV l m i;unfold rF bJ cC aX aB;((conv=>whnf);refine bm (fun h2=>?_) (fun h2=>?_))
     ·have hlt:i<l.length:=(by simp [aA,aC] at h2;omega);(conv=>whnf);refine⟨fun q e h nx=>∃ (t:Nat) (z:Int),z=t∧t≤m.length∧q=m.length - t∧e=vB l.length j z∧h=bJ l m c1 c2 n (mA m (dI l m i) t)∧nx=4,⟨m.length,?_⟩,?_⟩
      ·refine aL (e0:=vB l.length j 0) (h0:=bJ l m c1 c2 n (dI l m i)) (n0:=4) ⟨0,0,rfl,Nat.zero_le _,rfl,rfl,rfl,rfl⟩ ?_ ?_ (by decide)
       ·unfold vB rF;((repeat' refine iE rfl rfl ?_);exact iN)
       ·unfold bJ cC aX aB;((repeat'(first|refine iF rfl rfl ?_|refine iC rfl rfl rfl ?_|refine iJ rfl rfl rfl rfl ?_));exact iN)
      ·rintro q e h nx ⟨t,z,hz,ht,rfl,rfl,rfl,rfl⟩;have rl:=rT m (dI l m i) t;rw [cl] at rl;have nxt:mA m (dI l m i) (t+1)=uV (mA m (dI l m i) t) (cW m t):=rfl;generalize hs0:mA m (dI l m i) t=s at rl nxt;unfold vB rF bJ cC aX aB;((conv=>whnf);refine bm (fun h3=>?_) (fun h3=>?_))
       ·have htl:t<m.length:=(by simp [aA,aC] at h3;omega);have he:=qF hM htl;have hsl:(flat fO.fl s).length=l.length:=(by rw [bD,rl];exact Nat.mul_one _);((conv=>whnf);refine bm (fun h4=>?_) (fun h4=>?_))
        ·(conv=>whnf);refine oY (JN m (i:=t) htl ?_) ?_
         ·show _+Int.toNat z*5=_;omega
         generalize cW m t=ed at he nxt;((conv=>whnf);refine bm (fun h5=>?_) (fun h5=>?_))
         ·(conv=>whnf);refine iL (MD s (i:=ed.a.toNat) (by omega) ?_) ?_
          ·show _+Int.toNat ed.a*1=_;omega
          have fin:∀ s',uV s ed=s'→mA m (dI l m i) (t+1)=s':=fun s' h=>(by rw [nxt,h]);((conv=>whnf);refine bm (fun g1=>?_) (fun g1=>?_))
          ·have g1:cQ s ed.a.toNat=false:=(by simpa [aA,aC] using g1);((conv=>whnf);refine bm (fun g2=>?_) (fun g2=>?_))
           ·(conv=>whnf);refine iL (MD s (i:=ed.b.toNat) (by omega) ?_) ?_
            ·show _+Int.toNat ed.b*1=_;omega
            ((conv=>whnf);refine bm (fun g3=>?_) (fun g3=>?_))
            ·have g3:cQ s ed.b.toNat=true:=g3;have hrel:uV s ed=(s.set ed.a.toNat true).set ed.b.toNat true:=(by unfold uV;rw [g1,g3];rfl);((conv=>whnf);refine bm (fun k1=>?_) (fun k1=>?_))
             ·((conv=>whnf);refine bm (fun k2=>?_) (fun k2=>?_))
              ·((conv=>whnf);refine bm (fun k3=>?_) (fun k3=>?_))
               ·((conv=>whnf);refine bm (fun k4=>?_) (fun k4=>?_))
                ·((conv=>whnf);refine bm (fun k5=>?_) (fun k5=>?_))
                 ·(conv=>whnf);refine⟨m.length - (t+1),by omega,?_⟩;refine aL (e0:=vB l.length j (z+1)) (h0:=bJ l m c1 c2 n ((s.set ed.a.toNat true).set ed.b.toNat true)) (n0:=4) ⟨t+1,z+1,by omega,by omega,rfl,rfl,by rw [fin _ hrel];rfl,rfl⟩ ?_ ?_ (by decide)
                  ·unfold vB rF;((repeat' refine iE rfl rfl ?_);exact iN)
                  ·unfold bJ cC aX aB;have bM:=PD (s:=s) (a:=ed.a.toNat) (b:=ed.b.toNat) (o1:=0+ed.a.toNat*1) (o2:=0+ed.b.toNat*1) (by omega) (by omega) (by omega) (by omega);((repeat'(first|refine iW rfl rfl (bG (aI fO _) bM) ?_|refine iF rfl rfl ?_|refine iC rfl rfl rfl ?_|refine iJ rfl rfl rfl rfl ?_));exact iN)
                 ·exfalso;simp [aA,aC,aH] at k5;omega
                ·have hpl:(dJ (flat fO.fl s) (0+ed.a.toNat*1) [.bool true]).length=l.length:=(by rw [dC (by rw [hsl];show 0+ed.a.toNat*1+1≤l.length;omega)];exact hsl);have k4:(0+ed.b.toNat*1+1).ble (dJ (flat fO.fl s) (0+ed.a.toNat*1) [.bool true]).length=false:=k4;rw [hpl] at k4;exact eK k4 (by omega)
               ·exfalso;simp [aA,aC] at k3;omega
              ·rw [hsl] at k2;exact eK k2 (by show 0+ed.a.toNat*1+1≤l.length;omega)
             ·exfalso;simp [aA,aC] at k1;omega
            ·have g3:cQ s ed.b.toNat=false:=g3;have hrel:uV s ed=s:=(by unfold uV;rw [g1,g3];rfl);((conv=>whnf);refine bm (fun k5=>?_) (fun k5=>?_))
             ·(conv=>whnf);refine⟨m.length - (t+1),by omega,?_⟩;refine aL (e0:=vB l.length j (z+1)) (h0:=bJ l m c1 c2 n s) (n0:=4) ⟨t+1,z+1,by omega,by omega,rfl,rfl,by rw [fin _ hrel];rfl,rfl⟩ ?_ ?_ (by decide)
              ·unfold vB rF;((repeat' refine iE rfl rfl ?_);exact iN)
              ·unfold bJ cC aX aB;((repeat'(first|refine iF rfl rfl ?_|refine iC rfl rfl rfl ?_|refine iJ rfl rfl rfl rfl ?_));exact iN)
             ·exfalso;simp [aA,aC,aH] at k5;omega
           ·exfalso;simp [aA,aC] at g2;omega
          ·have g1:cQ s ed.a.toNat=true:=(by simpa [aA,aC] using g1);have hrel:uV s ed=(s.set ed.a.toNat true).set ed.b.toNat true:=(by unfold uV;rw [g1];rfl);((conv=>whnf);refine bm (fun k1=>?_) (fun k1=>?_))
           ·((conv=>whnf);refine bm (fun k2=>?_) (fun k2=>?_))
            ·((conv=>whnf);refine bm (fun k3=>?_) (fun k3=>?_))
             ·((conv=>whnf);refine bm (fun k4=>?_) (fun k4=>?_))
              ·((conv=>whnf);refine bm (fun k5=>?_) (fun k5=>?_))
               ·(conv=>whnf);refine⟨m.length - (t+1),by omega,?_⟩;refine aL (e0:=vB l.length j (z+1)) (h0:=bJ l m c1 c2 n ((s.set ed.a.toNat true).set ed.b.toNat true)) (n0:=4) ⟨t+1,z+1,by omega,by omega,rfl,rfl,by rw [fin _ hrel];rfl,rfl⟩ ?_ ?_ (by decide)
                ·unfold vB rF;((repeat' refine iE rfl rfl ?_);exact iN)
                ·unfold bJ cC aX aB;have bM:=PD (s:=s) (a:=ed.a.toNat) (b:=ed.b.toNat) (o1:=0+ed.a.toNat*1) (o2:=0+ed.b.toNat*1) (by omega) (by omega) (by omega) (by omega);((repeat'(first|refine iW rfl rfl (bG (aI fO _) bM) ?_|refine iF rfl rfl ?_|refine iC rfl rfl rfl ?_|refine iJ rfl rfl rfl rfl ?_));exact iN)
               ·exfalso;simp [aA,aC,aH] at k5;omega
              ·have hpl:(dJ (flat fO.fl s) (0+ed.a.toNat*1) [.bool true]).length=l.length:=(by rw [dC (by rw [hsl];show 0+ed.a.toNat*1+1≤l.length;omega)];exact hsl);have k4:(0+ed.b.toNat*1+1).ble (dJ (flat fO.fl s) (0+ed.a.toNat*1) [.bool true]).length=false:=k4;rw [hpl] at k4;exact eK k4 (by omega)
             ·exfalso;simp [aA,aC] at k3;omega
            ·rw [hsl] at k2;exact eK k2 (by show 0+ed.a.toNat*1+1≤l.length;omega)
           ·exfalso;simp [aA,aC] at k1;omega
         ·exfalso;simp [aA,aC] at h5;omega
        ·exfalso;simp [aA,aC] at h4;omega
       ·have hge:t=m.length:=(by simp [aA,aC] at h3;omega);have hcn:dI l m (i+1)=s:=by
         show mA m (dI l m i) m.length=s;rw [← hge];exact hs0
        ((conv=>whnf);refine bm (fun h4=>?_) (fun h4=>?_))
        ·(conv=>whnf);refine⟨l.length - (i+1),by omega,?_⟩;refine aL (e0:=rF l.length (j+1)) (h0:=bJ l m c1 c2 n s) (n0:=4) ⟨i+1,j+1,by omega,by omega,rfl,rfl,by rw [hcn];rfl,rfl⟩ ?_ ?_ (by decide)
         ·unfold rF;((repeat' refine iE rfl rfl ?_);exact iN)
         ·unfold bJ cC aX aB;((repeat'(first|refine iF rfl rfl ?_|refine iC rfl rfl rfl ?_|refine iJ rfl rfl rfl rfl ?_));exact iN)
        ·exfalso;simp [aA,aC,aH] at h4;omega
     ·have hge:i=l.length:=(by simp [aA,aC] at h2;omega);have hcon:KF l m=(dI l m i).all id:=(by rw [hge];rfl);generalize dI l m i=s at cl hcon;rw [hcon];clear hcon;(conv=>whnf);refine⟨fun q e h nx=>∃ (t:Nat) (z:Int),z=t∧t≤l.length∧q=l.length - t∧s.all id=(s.drop t).all id∧e=IB l.length z∧h=bJ l m c1 c2 n s∧nx=4,⟨l.length,?_⟩,?_⟩
      ·refine aL (e0:=IB l.length 0) (h0:=bJ l m c1 c2 n s) (n0:=4) ⟨0,0,rfl,Nat.zero_le _,rfl,rfl,rfl,rfl,rfl⟩ ?_ ?_ (by decide)
       ·unfold IB;((repeat' refine iE rfl rfl ?_);exact iN)
       ·unfold bJ cC aX aB;((repeat'(first|refine iF rfl rfl ?_|refine iC rfl rfl rfl ?_|refine iJ rfl rfl rfl rfl ?_));exact iN)
      ·rintro q e h nx ⟨t,z,hz,ht,rfl,hall,rfl,rfl,rfl⟩;unfold IB bJ cC aX aB;((conv=>whnf);refine bm (fun h3=>?_) (fun h3=>?_))
       ·have htl:t<l.length:=(by simp [aA,aC] at h3;omega);have hd:s.drop t=cQ s t::s.drop (t+1):=(by rw [qW (by omega)];exact List.drop_eq_getElem_cons (by omega));rw [hd,List.all_cons] at hall;((conv=>whnf);refine bm (fun h4=>?_) (fun h4=>?_))
        ·(conv=>whnf);refine iL (MD s (i:=t) (by omega) ?_) ?_
         ·show _+Int.toNat z*1=_;omega
         ((conv=>whnf);refine bm (fun h5=>?_) (fun h5=>?_))
         ·have h5:cQ s t=false:=(by simpa [aA,aC] using h5);(conv=>whnf);rw [hall,h5];rfl
         ·have h5:cQ s t=true:=(by simpa [aA,aC] using h5);((conv=>whnf);refine bm (fun h6=>?_) (fun h6=>?_))
          ·(conv=>whnf);refine⟨l.length - (t+1),by omega,?_⟩;refine aL (e0:=IB l.length (z+1)) (h0:=bJ l m c1 c2 n s) (n0:=4) ⟨t+1,z+1,by omega,by omega,rfl,by rw [hall,h5];rfl,rfl,rfl,rfl⟩ ?_ ?_ (by decide)
           ·unfold IB;((repeat' refine iE rfl rfl ?_);exact iN)
           ·unfold bJ cC aX aB;((repeat'(first|refine iF rfl rfl ?_|refine iC rfl rfl rfl ?_|refine iJ rfl rfl rfl rfl ?_));exact iN)
          ·exfalso;simp [aA,aC,aH] at h6;omega
        ·exfalso;simp [aA,aC] at h4;omega
       ·have hgt:t=l.length:=(by simp [aA,aC] at h3;omega);(conv=>whnf);rw [hall,hgt,List.drop_eq_nil_of_le (by omega)];rfl
def cL (l:List Pt)(m:List Ed)(i:Nat):Sg:=(dN l (cW m i).a,dN l (cW m i).b)
def sgS:MS:=sMD fun l m _ d=>(mF l m&&(decide (0≤d)&&decide (d<m.length)),sgv (cL l m d.toNat))
def aFW:Nat × XF:=(74,mX aR aU sgS)
theorem aJH:cE Go.Proofs.Tryz.prog aFW.1 aFW.2:=l7 aR aU (aK (xl:=[]) .nil) fun l m n r v hs=>by
 obtain⟨d,rfl,hd,rfl⟩:=uL hs;clear hs;simp only [Bool.and_eq_true,decide_eq_true_eq] at hd;obtain⟨hM,h0,hd⟩:=hd;have he:=qF hM (i:=d.toNat) (by omega);refine⟨rfl,rfl,fun c1 c2=>?_⟩;((conv=>whnf);refine bm (fun h1=>?_) (fun h1=>?_))
 ·(conv=>whnf);refine iL (GV m 0 (i:=d.toNat) (by omega) rfl (by decide) ?_) ?_
  ·show _+Int.toNat d*5+0=_;omega
  ((conv=>whnf);refine bm (fun h2=>?_) (fun h2=>?_))
  ·(conv=>whnf);refine oY (jB l (i:=(cW m d.toNat).a.toNat) (by omega) ?_) ?_
   ·show _+Int.toNat (cW m d.toNat).a*2=_;omega
   ((conv=>whnf);refine bm (fun h3=>?_) (fun h3=>?_))
   ·(conv=>whnf);refine iL (GV m 1 (i:=d.toNat) (by omega) rfl (by decide) ?_) ?_
    ·show _+Int.toNat d*5+1=_;omega
    ((conv=>whnf);refine bm (fun h4=>?_) (fun h4=>?_))
    ·(conv=>whnf);refine oY (jB l (i:=(cW m d.toNat).b.toNat) (by omega) ?_) ?_
     ·show _+Int.toNat (cW m d.toNat).b*2=_;omega
     (conv=>whnf);rfl
    ·exfalso;simp [aA,aC] at h4;omega
   ·exfalso;simp [aA,aC] at h3;omega
  ·exfalso;simp [aA,aC] at h2;omega
 ·exfalso;simp [aA,aC] at h1;omega
def aBS:Nat × XF:=(98,mX aR aU sgS)
theorem aJ9:cE Go.Proofs.Tryz.prog aBS.1 aBS.2:=l7 aR aU (aK (xl:=[]) .nil) fun l m n r v hs=>by
 obtain⟨d,rfl,hd,rfl⟩:=uL hs;clear hs;simp only [Bool.and_eq_true,decide_eq_true_eq] at hd;obtain⟨hM,h0,hd⟩:=hd;have he:=qF hM (i:=d.toNat) (by omega);refine⟨rfl,rfl,fun c1 c2=>?_⟩;((conv=>whnf);refine bm (fun h1=>?_) (fun h1=>?_))
 ·(conv=>whnf);refine iL (GV m 0 (i:=d.toNat) (by omega) rfl (by decide) ?_) ?_
  ·show _+Int.toNat d*5+0=_;omega
  ((conv=>whnf);refine bm (fun h2=>?_) (fun h2=>?_))
  ·(conv=>whnf);refine oY (jB l (i:=(cW m d.toNat).a.toNat) (by omega) ?_) ?_
   ·show _+Int.toNat (cW m d.toNat).a*2=_;omega
   ((conv=>whnf);refine bm (fun h3=>?_) (fun h3=>?_))
   ·(conv=>whnf);refine iL (GV m 1 (i:=d.toNat) (by omega) rfl (by decide) ?_) ?_
    ·show _+Int.toNat d*5+1=_;omega
    ((conv=>whnf);refine bm (fun h4=>?_) (fun h4=>?_))
    ·(conv=>whnf);refine oY (jB l (i:=(cW m d.toNat).b.toNat) (by omega) ?_) ?_
     ·show _+Int.toNat (cW m d.toNat).b*2=_;omega
     (conv=>whnf);rfl
    ·exfalso;simp [aA,aC] at h4;omega
   ·exfalso;simp [aA,aC] at h3;omega
  ·exfalso;simp [aA,aC] at h2;omega
 ·exfalso;simp [aA,aC] at h1;omega
end Go.Aw
end

noncomputable section
namespace Go.Aw
def mQ (f:Nat→Bool)(n:Nat):Bool:=(List.range n).all f
theorem fB {f:Nat→Bool}{n i:Nat}(hi:i<n)(h:f i=false):mQ f n=false:=by
 unfold mQ;rw [List.all_eq_false];exact⟨i,List.mem_range.2 hi,by rw [h];exact Bool.false_ne_true⟩
theorem eN {f:Nat→Bool}{n:Nat}(h:∀ i,i<n→f i=true):mQ f n=true:=by
 unfold mQ;rw [List.all_eq_true];exact fun i hi=>h i (List.mem_range.1 hi)
theorem fI {f:Nat→Bool}{n i:Nat}(h:mQ f n=true)(hi:i<n):f i=true:=List.all_eq_true.1 h i (List.mem_range.2 hi)
def BU (l:List Pt)(i:Nat):Bool:=bQ (iM l i)&&(decide (i=0) || fK (iM l (i - 1)) (iM l i))
def bfE (d e:Ed):Bool:=decide (d.a<e.a) || (decide (d.a=e.a)&&decide (d.b<e.b))
def GC (l:List Pt)(m:List Ed)(i:Nat):Bool :=
 decide (0≤(cW m i).a)&&decide ((cW m i).a<(cW m i).b)&&decide ((cW m i).b<l.length)&&decide (-1≤(cW m i).n)&&decide ((cW m i).n<200)&&(decide (i=0) || bfE (cW m (i - 1)) (cW m i))
def l9 (m:List Ed)(s:List Bool):Nat→List Bool
 |0=>s
 |i+1=>((l9 m s i).set (cW m i).a.toNat true).set (cW m i).b.toNat true
theorem xU (m:List Ed)(s:List Bool):∀ i,(l9 m s i).length=s.length
 |0=>rfl
 |i+1=>by unfold l9;rw [List.length_set,List.length_set];exact xU m s i
def C0 (l:List Pt)(m:List Ed)(i k:Nat):Bool:=decide (fD (cL l m i) (cL l m k)=0) || decide (fD (cL l m i) (cL l m k)=1)
def V7 (l:List Pt)(m:List Ed)(n:Int):Bool:=decide (l.length≤400)&&decide (3≤m.length)&&decide (m.length≤400)&&decide (1≤n)&&decide (n≤100)
def cV (l:List Pt)(m:List Ed)(n:Int):Bool:=V7 l m n&&(mQ (BU l) l.length&&(mQ (GC l m) m.length&&(l9 m (List.replicate l.length false) m.length).all id))
def fS (l:List Pt)(m:List Ed)(n:Int):Bool:=cV l m n&&mQ (fun i=>mQ (fun k=>C0 l m i k) i) m.length
theorem J8 {l:List Pt}{m:List Ed}(hl:l.length≤1000)(hm:m.length≤1000)(h1:∀ i,i<l.length→BU l i=true)(h2:∀ i,i<m.length→GC l m i=true):mF l m=true:=by
 simp only [mF,Bool.and_eq_true,decide_eq_true_eq];refine⟨⟨⟨List.all_eq_true.2 fun p hp=>?_,List.all_eq_true.2 fun e he=>?_⟩,hm⟩,hl⟩
 ·obtain⟨i,hi,rfl⟩:=List.getElem_of_mem hp;have:=h1 i hi;rw [BU,nO hi,Bool.and_eq_true] at this;exact nX this.1
 ·obtain⟨i,hi,rfl⟩:=List.getElem_of_mem he;have:=h2 i hi;rw [GC,JO hi] at this;simp only [Bool.and_eq_true,decide_eq_true_eq] at this ⊢;omega
theorem aFu {l:List Pt}{m:List Ed}{n:Int}(h:V7 l m n=false):fS l m n=false:=by simp [fS,cV,h]
theorem QY {l:List Pt}{m:List Ed}{n:Int}{i:Nat}(hi:i<l.length)(h:BU l i=false):fS l m n=false:=by simp [fS,cV,fB hi h]
theorem o5 {l:List Pt}{m:List Ed}{n:Int}{i:Nat}(hi:i<m.length)(h:GC l m i=false):fS l m n=false:=by simp [fS,cV,fB hi h]
theorem aGu {l:List Pt}{m:List Ed}{n:Int}(h:(l9 m (List.replicate l.length false) m.length).all id=false):fS l m n=false:=by simp [fS,cV,h]
theorem aA1 {l:List Pt}{m:List Ed}{n:Int}{i k:Nat}(hi:i<m.length)(hk:k<i)(h:C0 l m i k=false):fS l m n=false:=by
 have:mQ (fun k=>C0 l m i k) i=false:=fB hk h;have:mQ (fun i=>mQ (fun k=>C0 l m i k) i) m.length=false:=fB hi this;simp [fS,this]
theorem aGI {l:List Pt}{m:List Ed}{n:Int}(h:V7 l m n=false):cV l m n=false:=by simp [cV,h]
theorem aA4 {l:List Pt}{m:List Ed}{n:Int}{i:Nat}(hi:i<l.length)(h:BU l i=false):cV l m n=false:=by simp [cV,fB hi h]
theorem zT {l:List Pt}{m:List Ed}{n:Int}{i:Nat}(hi:i<m.length)(h:GC l m i=false):cV l m n=false:=by simp [cV,fB hi h]
end Go.Aw
end
