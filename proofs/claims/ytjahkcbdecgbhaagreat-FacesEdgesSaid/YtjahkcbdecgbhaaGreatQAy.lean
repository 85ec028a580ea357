/-
  Parts of the proof, put together. No condition.
-/
import Derived.Test.YtjahkcbdecgbhaaGreatQAx
set_option linter.unusedSimpArgs false
set_option linter.unusedVariables false
noncomputable section
namespace Go.Aw
set_option maxRecDepth 100000
theorem yB (l:List Bool):∀ (i:Nat) (v:Bool),i<l.length→dM (flat fT.fl l) (i*1) [.bool v]=flat fT.fl (l.set i v):=by
 induction l with
 |nil=>intro i v h;cases h
 |cons a r ih =>
  intro i v h;cases i with
  |zero=>rfl
  |succ i =>
   have:=ih i v (by simpa using h);simp only [List.set_cons_succ,flat,← this];have e:(i+1)*1=i*1+1:=(by omega);rw [e];unfold dM;show List.take (i*1+1) (.bool a::flat fT.fl r)++_++List.drop (i*1+1+1) (.bool a::flat fT.fl r)=_;rfl
def lY (i:Nat):List Bool:=(List.range i).map fun (t:Nat)=>decide ((t:Int)=0)
theorem tS (i:Nat):(lY i).length=i:=by simp [lY]
theorem aG7 (i:Nat):lY (i+1)=lY i++[decide ((i:Int)=0)]:=by
 unfold lY;rw [List.range_succ,List.map_append];rfl
def vC (s:List Bool)(e:Ed):List Bool:=if (cV s e.a.toNat || cV s e.b.toNat)=true then (s.set e.a.toNat true).set e.b.toNat true else s
def mO (m:List Ed)(s:List Bool):Nat→List Bool
 |0=>s
 |i+1=>vC (mO m s i) (cN m i)
def dJ (l:List Pt)(m:List Ed):Nat→List Bool
 |0=>lY l.length
 |i+1=>mO m (dJ l m i) m.length
def JG (l:List Pt)(m:List Ed):Bool:=(dJ l m l.length).all id
theorem aBn (s:List Bool)(e:Ed):(vC s e).length=s.length:=by
 unfold vC;split <;> simp
theorem sL (m:List Ed)(s:List Bool):∀ i,(mO m s i).length=s.length
 |0=>rfl
 |i+1=>by unfold mO;rw [aBn];exact sL m s i
theorem yJ (l:List Pt)(m:List Ed):∀ i,(dJ l m i).length=l.length
 |0=>tS _
 |i+1=>by unfold dJ;rw [sL];exact yJ l m i
theorem Q5 {s:List Bool}{a b o1 o2:Nat}(h1:o1=a*1)(h2:o2=b*1)(ha:a<s.length)(hb:b<s.length):dM (dM (flat fT.fl s) o1 [.bool true]) o2 [.bool true]=flat fT.fl ((s.set a true).set b true):=by
 rw [h1,h2,yB _ _ _ ha,yB _ _ _ (by rw [List.length_set];exact hb)]
theorem eP {x N:Nat}{p:Prop}(h:x.ble N=false)(hx:x≤N):p:=by
 rw [Nat.ble_eq_true_of_le hx] at h;cases h
def coS (l:List Pt)(m:List Ed)(n:Int):List Value→Option (Bool × Value)
 |[]=>some (oE l m&&decide (1≤l.length),.bool (JG l m))
 |_=>none
theorem aCP {l:List Pt}{m:List Ed}{n:Int}{r:List Value}{v:Value}(h:coS l m n r=some (true,v)):r=[]∧oE l m=true∧1≤l.length∧v=.bool (JG l m):=by
 unfold coS at h;split at h
 ·injection h with h;injection h with h1 h2;simp only [Bool.and_eq_true,decide_eq_true_eq] at h1;exact⟨rfl,h1.1,h1.2,h2.symm⟩
 ·cases h
def cG (l:List Pt)(m:List Ed)(c1 c2:Nat)(n:Int):Heap:=(2,aW l.length m.length c1 c2 n)::aC aP aR l m
def bJ (l:List Pt)(m:List Ed)(c1 c2:Nat)(n:Int)(s:List Bool):Heap:=(3,.cells true false 1 (flat fT.fl s))::cG l m c1 c2 n
def HA (s:Value)(j:Int):List (Nat × Value):=[(1,.pointer (some ⟨2,0,none⟩)),(3,s),(4,iv j)]
def rR (N:Nat)(j:Int):List (Nat × Value):=[(1,.pointer (some ⟨2,0,none⟩)),(3,.slice (some ⟨3,0,none⟩) N N),(5,iv j)]
def vQ (N:Nat)(j k:Int):List (Nat × Value):=(6,iv k)::rR N j
def IE (N:Nat)(j:Int):List (Nat × Value):=[(3,.slice (some ⟨3,0,none⟩) N N),(8,iv j)]
def aBo:Nat × XF:=(157,mX aP aR coS)
theorem aIn:cJ Go.Proofs.Tryz.prog aBo.1 aBo.2:=sS aP aR (aK (xl:=[]) .nil) fun l m n r v hs=>by
 obtain⟨rfl,hM,h1l,rfl⟩:=aCP hs;clear hs;refine⟨rfl,rfl,fun c1 c2=>?_⟩;have hm:m.length≤1000:=(by simp only [oE,Bool.and_eq_true,decide_eq_true_eq] at hM;exact hM.1.2);have hl:l.length≤1000:=(by simp only [oE,Bool.and_eq_true,decide_eq_true_eq] at hM;exact hM.2);(conv=>whnf)
 refine⟨fun q e h nx=>∃ (i:Nat) (j:Int),j=i∧i≤l.length∧q=l.length - i ∧
  ((i=0∧e=HA (.slice none 0 0) j∧h=cG l m c1 c2 n∧nx=3)∨(0<i∧e=HA (.slice (some ⟨3,0,none⟩) i i) j∧h=bJ l m c1 c2 n (lY i)∧nx=4)),⟨l.length,?_⟩,?_⟩
 ·refine aL (e0:=HA (.slice none 0 0) 0) (h0:=cG l m c1 c2 n) (n0:=3) ⟨0,0,rfl,Nat.zero_le _,rfl,.inl ⟨rfl,rfl,rfl,rfl⟩⟩ ?_ ?_ (by decide)
  ·unfold HA;((repeat' refine iE rfl rfl ?_);exact iN)
  ·unfold cG aW aC;((repeat'(first|refine iF rfl rfl ?_|refine iC rfl rfl rfl ?_|refine iJ rfl rfl rfl rfl ?_));exact iN)
 ·rintro q e h nx ⟨i,j,hj,hi,rfl,⟨hi0,rfl,rfl,rfl⟩|⟨hip,rfl,rfl,rfl⟩⟩
  ·subst hi0;unfold HA cG aW aC;((conv=>whnf);refine bm (fun h2=>?_) (fun h2=>?_))
   ·((conv=>whnf);refine bm (fun h3=>?_) (fun h3=>?_))
    ·(conv=>whnf);refine⟨l.length - 1,by omega,?_⟩;refine gC (e0:=HA (.slice (some ⟨3,0,none⟩) 1 1) (j+1)) (h0:=bJ l m c1 c2 n [decide (j=0)]) (n0:=4) 3 4 (by decide) (by decide) ⟨1,j+1,by omega,by omega,rfl,.inr ⟨Nat.one_pos,rfl,by rw [hj];rfl,rfl⟩⟩ ?_ ?_ ?_
     ·unfold HA;((repeat' refine iE rfl rfl ?_);exact iN)
     ·unfold bJ cG aW aC;((repeat'(first|refine iF rfl rfl ?_|refine iC rfl rfl rfl ?_|refine iJ rfl rfl rfl rfl ?_));exact iN)
     ·unfold bJ cG aC;((repeat' refine iK rfl ?_);exact iN)
    ·exfalso;simp [aA,aB,aH] at h3;omega
   ·exfalso;simp [aA,aB] at h2;omega
  ·unfold HA bJ cG aW aC;((conv=>whnf);refine bm (fun h2=>?_) (fun h2=>?_))
   ·have hlt:i<l.length:=(by simp [aA,aB] at h2;omega);have hll:(flat fT.fl (lY i)).length=i:=(by rw [bF,tS];exact Nat.mul_one _);((conv=>whnf);refine bm (fun h3=>?_) (fun h3=>?_))
    ·exfalso;have:=Nat.le_of_ble_eq_true h3;omega
    ·((conv=>whnf);refine bm (fun h4=>?_) (fun h4=>?_))
     ·((conv=>whnf);refine bm (fun h5=>?_) (fun h5=>?_))
      ·(conv=>whnf);refine⟨l.length - (i+1),by omega,?_⟩
       refine gC (e0:=HA (.slice (some ⟨3,0,none⟩) (i+1) (i+1)) (j+1)) (h0:=bJ l m c1 c2 n (lY i++[decide (j=0)])) (n0:=4) 3 5 (by decide) (by decide)
        ⟨i+1,j+1,by omega,by omega,rfl,.inr ⟨Nat.succ_pos _,rfl,by rw [aG7,hj];rfl,rfl⟩⟩ ?_ ?_ ?_
       ·unfold HA;((repeat' refine iE rfl rfl ?_);exact iN)
       ·unfold bJ cG aW aC;((repeat'(first|refine iW rfl rfl (bD (aI fT _) (fA fT (lY i) (decide (j=0)) (tS i).symm)) ?_|refine iF rfl rfl ?_|refine iC rfl rfl rfl ?_|refine iJ rfl rfl rfl rfl ?_));exact iN)
       ·unfold bJ cG aC;((repeat' refine iK rfl ?_);exact iN)
      ·exfalso;simp [aA,aB,aH] at h5;omega
     ·exact oZ (s:=1) (by omega) (by omega) h4
   ·have hge:i=l.length:=(by simp [aA,aB] at h2;omega);subst hge;clear hj hi hip h2;(conv=>whnf);refine⟨fun q e h nx=>∃ (i:Nat) (j:Int),j=i∧i≤l.length∧q=l.length - i∧e=rR l.length j∧h=bJ l m c1 c2 n (dJ l m i)∧nx=4,⟨l.length,?_⟩,?_⟩
    ·refine aL (e0:=rR l.length 0) (h0:=bJ l m c1 c2 n (lY l.length)) (n0:=4) ⟨0,0,rfl,Nat.zero_le _,rfl,rfl,rfl,rfl⟩ ?_ ?_ (by decide)
     ·unfold rR;((repeat' refine iE rfl rfl ?_);exact iN)
     ·unfold bJ cG aW aC;((repeat'(first|refine iF rfl rfl ?_|refine iC rfl rfl rfl ?_|refine iJ rfl rfl rfl rfl ?_));exact iN)
    ·rintro q e h nx ⟨i,j,hj,hi,rfl,rfl,rfl,rfl⟩;have cl:=yJ l m i;unfold rR bJ cG aW aC;((conv=>whnf);refine bm (fun h2=>?_) (fun h2=>?_))
     ·have hlt:i<l.length:=(by simp [aA,aB] at h2;omega);(conv=>whnf);refine⟨fun q e h nx=>∃ (t:Nat) (z:Int),z=t∧t≤m.length∧q=m.length - t∧e=vQ l.length j z∧h=bJ l m c1 c2 n (mO m (dJ l m i) t)∧nx=4,⟨m.length,?_⟩,?_⟩
      ·refine aL (e0:=vQ l.length j 0) (h0:=bJ l m c1 c2 n (dJ l m i)) (n0:=4) ⟨0,0,rfl,Nat.zero_le _,rfl,rfl,rfl,rfl⟩ ?_ ?_ (by decide)
       ·unfold vQ rR;((repeat' refine iE rfl rfl ?_);exact iN)
       ·unfold bJ cG aW aC;((repeat'(first|refine iF rfl rfl ?_|refine iC rfl rfl rfl ?_|refine iJ rfl rfl rfl rfl ?_));exact iN)
      ·rintro q e h nx ⟨t,z,hz,ht,rfl,rfl,rfl,rfl⟩;have rl:=sL m (dJ l m i) t;rw [cl] at rl;have nxt:mO m (dJ l m i) (t+1)=vC (mO m (dJ l m i) t) (cN m t):=rfl;generalize hs0:mO m (dJ l m i) t=s at rl nxt;unfold vQ rR bJ cG aW aC;((conv=>whnf);refine bm (fun h3=>?_) (fun h3=>?_))
       ·have htl:t<m.length:=(by simp [aA,aB] at h3;omega);have he:=rG hM htl;have hsl:(flat fT.fl s).length=l.length:=(by rw [bF,rl];exact Nat.mul_one _);((conv=>whnf);refine bm (fun h4=>?_) (fun h4=>?_))
        ·(conv=>whnf);refine mR (A4 m (i:=t) htl ?_) ?_
         ·show _+Int.toNat z*5=_;omega
         generalize cN m t=ed at he nxt;((conv=>whnf);refine bm (fun h5=>?_) (fun h5=>?_))
         ·(conv=>whnf);refine fY (M7 s (i:=ed.a.toNat) (by omega) ?_) ?_
          ·show _+Int.toNat ed.a*1=_;omega
          have fin:∀ s',vC s ed=s'→mO m (dJ l m i) (t+1)=s':=fun s' h=>(by rw [nxt,h]);((conv=>whnf);refine bm (fun g1=>?_) (fun g1=>?_))
          ·have g1:cV s ed.a.toNat=false:=(by simpa [aA,aB] using g1);((conv=>whnf);refine bm (fun g2=>?_) (fun g2=>?_))
           ·(conv=>whnf);refine fY (M7 s (i:=ed.b.toNat) (by omega) ?_) ?_
            ·show _+Int.toNat ed.b*1=_;omega
            ((conv=>whnf);refine bm (fun g3=>?_) (fun g3=>?_))
            ·have g3:cV s ed.b.toNat=true:=g3;have hrel:vC s ed=(s.set ed.a.toNat true).set ed.b.toNat true:=(by unfold vC;rw [g1,g3];rfl);((conv=>whnf);refine bm (fun k1=>?_) (fun k1=>?_))
             ·((conv=>whnf);refine bm (fun k2=>?_) (fun k2=>?_))
              ·((conv=>whnf);refine bm (fun k3=>?_) (fun k3=>?_))
               ·((conv=>whnf);refine bm (fun k4=>?_) (fun k4=>?_))
                ·((conv=>whnf);refine bm (fun k5=>?_) (fun k5=>?_))
                 ·(conv=>whnf);refine⟨m.length - (t+1),by omega,?_⟩;refine aL (e0:=vQ l.length j (z+1)) (h0:=bJ l m c1 c2 n ((s.set ed.a.toNat true).set ed.b.toNat true)) (n0:=4) ⟨t+1,z+1,by omega,by omega,rfl,rfl,by rw [fin _ hrel];rfl,rfl⟩ ?_ ?_ (by decide)
                  ·unfold vQ rR;((repeat' refine iE rfl rfl ?_);exact iN)
                  ·unfold bJ cG aW aC;have bV:=Q5 (s:=s) (a:=ed.a.toNat) (b:=ed.b.toNat) (o1:=0+ed.a.toNat*1) (o2:=0+ed.b.toNat*1) (by omega) (by omega) (by omega) (by omega);((repeat'(first|refine iW rfl rfl (bD (aI fT _) bV) ?_|refine iF rfl rfl ?_|refine iC rfl rfl rfl ?_|refine iJ rfl rfl rfl rfl ?_));exact iN)
                 ·exfalso;simp [aA,aB,aH] at k5;omega
                ·have hpl:(dM (flat fT.fl s) (0+ed.a.toNat*1) [.bool true]).length=l.length:=(by rw [dC (by rw [hsl];show 0+ed.a.toNat*1+1≤l.length;omega)];exact hsl);have k4:(0+ed.b.toNat*1+1).ble (dM (flat fT.fl s) (0+ed.a.toNat*1) [.bool true]).length=false:=k4;rw [hpl] at k4;exact eP k4 (by omega)
               ·exfalso;simp [aA,aB] at k3;omega
              ·rw [hsl] at k2;exact eP k2 (by show 0+ed.a.toNat*1+1≤l.length;omega)
             ·exfalso;simp [aA,aB] at k1;omega
            ·have g3:cV s ed.b.toNat=false:=g3;have hrel:vC s ed=s:=(by unfold vC;rw [g1,g3];rfl);((conv=>whnf);refine bm (fun k5=>?_) (fun k5=>?_))
             ·(conv=>whnf);refine⟨m.length - (t+1),by omega,?_⟩;refine aL (e0:=vQ l.length j (z+1)) (h0:=bJ l m c1 c2 n s) (n0:=4) ⟨t+1,z+1,by omega,by omega,rfl,rfl,by rw [fin _ hrel];rfl,rfl⟩ ?_ ?_ (by decide)
              ·unfold vQ rR;((repeat' refine iE rfl rfl ?_);exact iN)
              ·unfold bJ cG aW aC;((repeat'(first|refine iF rfl rfl ?_|refine iC rfl rfl rfl ?_|refine iJ rfl rfl rfl rfl ?_));exact iN)
             ·exfalso;simp [aA,aB,aH] at k5;omega
           ·exfalso;simp [aA,aB] at g2;omega
          ·have g1:cV s ed.a.toNat=true:=(by simpa [aA,aB] using g1);have hrel:vC s ed=(s.set ed.a.toNat true).set ed.b.toNat true:=(by unfold vC;rw [g1];rfl);((conv=>whnf);refine bm (fun k1=>?_) (fun k1=>?_))
           ·((conv=>whnf);refine bm (fun k2=>?_) (fun k2=>?_))
            ·((conv=>whnf);refine bm (fun k3=>?_) (fun k3=>?_))
             ·((conv=>whnf);refine bm (fun k4=>?_) (fun k4=>?_))
              ·((conv=>whnf);refine bm (fun k5=>?_) (fun k5=>?_))
               ·(conv=>whnf);refine⟨m.length - (t+1),by omega,?_⟩;refine aL (e0:=vQ l.length j (z+1)) (h0:=bJ l m c1 c2 n ((s.set ed.a.toNat true).set ed.b.toNat true)) (n0:=4) ⟨t+1,z+1,by omega,by omega,rfl,rfl,by rw [fin _ hrel];rfl,rfl⟩ ?_ ?_ (by decide)
                ·unfold vQ rR;((repeat' refine iE rfl rfl ?_);exact iN)
                ·unfold bJ cG aW aC;have bV:=Q5 (s:=s) (a:=ed.a.toNat) (b:=ed.b.toNat) (o1:=0+ed.a.toNat*1) (o2:=0+ed.b.toNat*1) (by omega) (by omega) (by omega) (by omega);((repeat'(first|refine iW rfl rfl (bD (aI fT _) bV) ?_|refine iF rfl rfl ?_|refine iC rfl rfl rfl ?_|refine iJ rfl rfl rfl rfl ?_));exact iN)
               ·exfalso;simp [aA,aB,aH] at k5;omega
              ·have hpl:(dM (flat fT.fl s) (0+ed.a.toNat*1) [.bool true]).length=l.length:=(by rw [dC (by rw [hsl];show 0+ed.a.toNat*1+1≤l.length;omega)];exact hsl);have k4:(0+ed.b.toNat*1+1).ble (dM (flat fT.fl s) (0+ed.a.toNat*1) [.bool true]).length=false:=k4;rw [hpl] at k4;exact eP k4 (by omega)
             ·exfalso;simp [aA,aB] at k3;omega
            ·rw [hsl] at k2;exact eP k2 (by show 0+ed.a.toNat*1+1≤l.length;omega)
           ·exfalso;simp [aA,aB] at k1;omega
         ·exfalso;simp [aA,aB] at h5;omega
        ·exfalso;simp [aA,aB] at h4;omega
       ·have hge:t=m.length:=(by simp [aA,aB] at h3;omega);have hcn:dJ l m (i+1)=s:=by
         show mO m (dJ l m i) m.length=s;rw [← hge];exact hs0
        ((conv=>whnf);refine bm (fun h4=>?_) (fun h4=>?_))
        ·(conv=>whnf);refine⟨l.length - (i+1),by omega,?_⟩;refine aL (e0:=rR l.length (j+1)) (h0:=bJ l m c1 c2 n s) (n0:=4) ⟨i+1,j+1,by omega,by omega,rfl,rfl,by rw [hcn];rfl,rfl⟩ ?_ ?_ (by decide)
         ·unfold rR;((repeat' refine iE rfl rfl ?_);exact iN)
         ·unfold bJ cG aW aC;((repeat'(first|refine iF rfl rfl ?_|refine iC rfl rfl rfl ?_|refine iJ rfl rfl rfl rfl ?_));exact iN)
        ·exfalso;simp [aA,aB,aH] at h4;omega
     ·have hge:i=l.length:=(by simp [aA,aB] at h2;omega);have hcon:JG l m=(dJ l m i).all id:=(by rw [hge];rfl);generalize dJ l m i=s at cl hcon;rw [hcon];clear hcon;(conv=>whnf);refine⟨fun q e h nx=>∃ (t:Nat) (z:Int),z=t∧t≤l.length∧q=l.length - t∧s.all id=(s.drop t).all id∧e=IE l.length z∧h=bJ l m c1 c2 n s∧nx=4,⟨l.length,?_⟩,?_⟩
      ·refine aL (e0:=IE l.length 0) (h0:=bJ l m c1 c2 n s) (n0:=4) ⟨0,0,rfl,Nat.zero_le _,rfl,rfl,rfl,rfl,rfl⟩ ?_ ?_ (by decide)
       ·unfold IE;((repeat' refine iE rfl rfl ?_);exact iN)
       ·unfold bJ cG aW aC;((repeat'(first|refine iF rfl rfl ?_|refine iC rfl rfl rfl ?_|refine iJ rfl rfl rfl rfl ?_));exact iN)
      ·rintro q e h nx ⟨t,z,hz,ht,rfl,hall,rfl,rfl,rfl⟩;unfold IE bJ cG aW aC;((conv=>whnf);refine bm (fun h3=>?_) (fun h3=>?_))
       ·have htl:t<l.length:=(by simp [aA,aB] at h3;omega);have hd:s.drop t=cV s t::s.drop (t+1):=(by rw [rC (by omega)];exact List.drop_eq_getElem_cons (by omega));rw [hd,List.all_cons] at hall;((conv=>whnf);refine bm (fun h4=>?_) (fun h4=>?_))
        ·(conv=>whnf);refine fY (M7 s (i:=t) (by omega) ?_) ?_
         ·show _+Int.toNat z*1=_;omega
         ((conv=>whnf);refine bm (fun h5=>?_) (fun h5=>?_))
         ·have h5:cV s t=false:=(by simpa [aA,aB] using h5);(conv=>whnf);rw [hall,h5];rfl
         ·have h5:cV s t=true:=(by simpa [aA,aB] using h5);((conv=>whnf);refine bm (fun h6=>?_) (fun h6=>?_))
          ·(conv=>whnf);refine⟨l.length - (t+1),by omega,?_⟩;refine aL (e0:=IE l.length (z+1)) (h0:=bJ l m c1 c2 n s) (n0:=4) ⟨t+1,z+1,by omega,by omega,rfl,by rw [hall,h5];rfl,rfl,rfl,rfl⟩ ?_ ?_ (by decide)
           ·unfold IE;((repeat' refine iE rfl rfl ?_);exact iN)
           ·unfold bJ cG aW aC;((repeat'(first|refine iF rfl rfl ?_|refine iC rfl rfl rfl ?_|refine iJ rfl rfl rfl rfl ?_));exact iN)
          ·exfalso;simp [aA,aB,aH] at h6;omega
        ·exfalso;simp [aA,aB] at h4;omega
       ·have hgt:t=l.length:=(by simp [aA,aB] at h3;omega);(conv=>whnf);rw [hall,hgt,List.drop_eq_nil_of_le (by omega)];rfl
def cC (l:List Pt)(m:List Ed)(i:Nat):Sg:=(dQ l (cN m i).a,dQ l (cN m i).b)
def sgS:MS:=sMD fun l m _ d=>(oE l m&&(decide (0≤d)&&decide (d<m.length)),sgv (cC l m d.toNat))
def aCo:Nat × XF:=(74,mX aP aR sgS)
theorem aHS:cJ Go.Proofs.Tryz.prog aCo.1 aCo.2:=sS aP aR (aK (xl:=[]) .nil) fun l m n r v hs=>by
 obtain⟨d,rfl,hd,rfl⟩:=y9 hs;clear hs;simp only [Bool.and_eq_true,decide_eq_true_eq] at hd;obtain⟨hM,h0,hd⟩:=hd;have he:=rG hM (i:=d.toNat) (by omega);refine⟨rfl,rfl,fun c1 c2=>?_⟩;((conv=>whnf);refine bm (fun h1=>?_) (fun h1=>?_))
 ·(conv=>whnf);refine fY (B8 m 0 (i:=d.toNat) (by omega) rfl (by decide) ?_) ?_
  ·show _+Int.toNat d*5+0=_;omega
  ((conv=>whnf);refine bm (fun h2=>?_) (fun h2=>?_))
  ·(conv=>whnf);refine mR (jE l (i:=(cN m d.toNat).a.toNat) (by omega) ?_) ?_
   ·show _+Int.toNat (cN m d.toNat).a*2=_;omega
   ((conv=>whnf);refine bm (fun h3=>?_) (fun h3=>?_))
   ·(conv=>whnf);refine fY (B8 m 1 (i:=d.toNat) (by omega) rfl (by decide) ?_) ?_
    ·show _+Int.toNat d*5+1=_;omega
    ((conv=>whnf);refine bm (fun h4=>?_) (fun h4=>?_))
    ·(conv=>whnf);refine mR (jE l (i:=(cN m d.toNat).b.toNat) (by omega) ?_) ?_
     ·show _+Int.toNat (cN m d.toNat).b*2=_;omega
     (conv=>whnf);rfl
    ·exfalso;simp [aA,aB] at h4;omega
   ·exfalso;simp [aA,aB] at h3;omega
  ·exfalso;simp [aA,aB] at h2;omega
 ·exfalso;simp [aA,aB] at h1;omega
def W9:Nat × XF:=(98,mX aP aR sgS)
theorem aID:cJ Go.Proofs.Tryz.prog W9.1 W9.2:=sS aP aR (aK (xl:=[]) .nil) fun l m n r v hs=>by
 obtain⟨d,rfl,hd,rfl⟩:=y9 hs;clear hs;simp only [Bool.and_eq_true,decide_eq_true_eq] at hd;obtain⟨hM,h0,hd⟩:=hd;have he:=rG hM (i:=d.toNat) (by omega);refine⟨rfl,rfl,fun c1 c2=>?_⟩;((conv=>whnf);refine bm (fun h1=>?_) (fun h1=>?_))
 ·(conv=>whnf);refine fY (B8 m 0 (i:=d.toNat) (by omega) rfl (by decide) ?_) ?_
  ·show _+Int.toNat d*5+0=_;omega
  ((conv=>whnf);refine bm (fun h2=>?_) (fun h2=>?_))
  ·(conv=>whnf);refine mR (jE l (i:=(cN m d.toNat).a.toNat) (by omega) ?_) ?_
   ·show _+Int.toNat (cN m d.toNat).a*2=_;omega
   ((conv=>whnf);refine bm (fun h3=>?_) (fun h3=>?_))
   ·(conv=>whnf);refine fY (B8 m 1 (i:=d.toNat) (by omega) rfl (by decide) ?_) ?_
    ·show _+Int.toNat d*5+1=_;omega
    ((conv=>whnf);refine bm (fun h4=>?_) (fun h4=>?_))
    ·(conv=>whnf);refine mR (jE l (i:=(cN m d.toNat).b.toNat) (by omega) ?_) ?_
     ·show _+Int.toNat (cN m d.toNat).b*2=_;omega
     (conv=>whnf);rfl
    ·exfalso;simp [aA,aB] at h4;omega
   ·exfalso;simp [aA,aB] at h3;omega
  ·exfalso;simp [aA,aB] at h2;omega
 ·exfalso;simp [aA,aB] at h1;omega
end Go.Aw
end

noncomputable section
namespace Go.Aw
def nU (f:Nat→Bool)(n:Nat):Bool:=(List.range n).all f
theorem fD {f:Nat→Bool}{n i:Nat}(hi:i<n)(h:f i=false):nU f n=false:=by
 unfold nU;rw [List.all_eq_false];exact⟨i,List.mem_range.2 hi,by rw [h];exact Bool.false_ne_true⟩
theorem eS {f:Nat→Bool}{n:Nat}(h:∀ i,i<n→f i=true):nU f n=true:=by
 unfold nU;rw [List.all_eq_true];exact fun i hi=>h i (List.mem_range.1 hi)
theorem gG {f:Nat→Bool}{n i:Nat}(h:nU f n=true)(hi:i<n):f i=true:=List.all_eq_true.1 h i (List.mem_range.2 hi)
def CK (l:List Pt)(i:Nat):Bool:=aX (dL l i)&&(decide (i=0) || fP (dL l (i - 1)) (dL l i))
def bfE (d e:Ed):Bool:=decide (d.a<e.a) || (decide (d.a=e.a)&&decide (d.b<e.b))
def HG (l:List Pt)(m:List Ed)(i:Nat):Bool :=
 decide (0≤(cN m i).a)&&decide ((cN m i).a<(cN m i).b)&&decide ((cN m i).b<l.length)&&decide (-1≤(cN m i).n)&&decide ((cN m i).n<200)&&(decide (i=0) || bfE (cN m (i - 1)) (cN m i))
def mN (m:List Ed)(s:List Bool):Nat→List Bool
 |0=>s
 |i+1=>((mN m s i).set (cN m i).a.toNat true).set (cN m i).b.toNat true
theorem x6 (m:List Ed)(s:List Bool):∀ i,(mN m s i).length=s.length
 |0=>rfl
 |i+1=>by unfold mN;rw [List.length_set,List.length_set];exact x6 m s i
def C5 (l:List Pt)(m:List Ed)(i k:Nat):Bool:=decide (fI (cC l m i) (cC l m k)=0) || decide (fI (cC l m i) (cC l m k)=1)
def WO (l:List Pt)(m:List Ed)(n:Int):Bool:=decide (l.length≤400)&&decide (3≤m.length)&&decide (m.length≤400)&&decide (1≤n)&&decide (n≤100)
def cY (l:List Pt)(m:List Ed)(n:Int):Bool:=WO l m n&&(nU (CK l) l.length&&(nU (HG l m) m.length&&(mN m (List.replicate l.length false) m.length).all id))
def iA (l:List Pt)(m:List Ed)(n:Int):Bool:=cY l m n&&nU (fun i=>nU (fun k=>C5 l m i k) i) m.length
theorem LZ {l:List Pt}{m:List Ed}(hl:l.length≤1000)(hm:m.length≤1000)(h1:∀ i,i<l.length→CK l i=true)(h2:∀ i,i<m.length→HG l m i=true):oE l m=true:=by
 simp only [oE,Bool.and_eq_true,decide_eq_true_eq];refine⟨⟨⟨List.all_eq_true.2 fun p hp=>?_,List.all_eq_true.2 fun e he=>?_⟩,hm⟩,hl⟩
 ·obtain⟨i,hi,rfl⟩:=List.getElem_of_mem hp;have:=h1 i hi;rw [CK,kE hi,Bool.and_eq_true] at this;exact oM this.1
 ·obtain⟨i,hi,rfl⟩:=List.getElem_of_mem he;have:=h2 i hi;rw [HG,JQ hi] at this;simp only [Bool.and_eq_true,decide_eq_true_eq] at this ⊢;omega
theorem aFK {l:List Pt}{m:List Ed}{n:Int}(h:WO l m n=false):iA l m n=false:=by simp [iA,cY,h]
theorem QT {l:List Pt}{m:List Ed}{n:Int}{i:Nat}(hi:i<l.length)(h:CK l i=false):iA l m n=false:=by simp [iA,cY,fD hi h]
theorem oT {l:List Pt}{m:List Ed}{n:Int}{i:Nat}(hi:i<m.length)(h:HG l m i=false):iA l m n=false:=by simp [iA,cY,fD hi h]
theorem aHe {l:List Pt}{m:List Ed}{n:Int}(h:(mN m (List.replicate l.length false) m.length).all id=false):iA l m n=false:=by simp [iA,cY,h]
theorem aB3 {l:List Pt}{m:List Ed}{n:Int}{i k:Nat}(hi:i<m.length)(hk:k<i)(h:C5 l m i k=false):iA l m n=false:=by
 have:nU (fun k=>C5 l m i k) i=false:=fD hk h;have:nU (fun i=>nU (fun k=>C5 l m i k) i) m.length=false:=fD hi this;simp [iA,this]
theorem aH3 {l:List Pt}{m:List Ed}{n:Int}(h:WO l m n=false):cY l m n=false:=by simp [cY,h]
theorem aAp {l:List Pt}{m:List Ed}{n:Int}{i:Nat}(hi:i<l.length)(h:CK l i=false):cY l m n=false:=by simp [cY,fD hi h]
theorem A1 {l:List Pt}{m:List Ed}{n:Int}{i:Nat}(hi:i<m.length)(h:HG l m i=false):cY l m n=false:=by simp [cY,fD hi h]
end Go.Aw
end
