/-
  Parts of the proof, put together. No condition.
-/
import Derived.Test.YtjahkcbdecgbhaaGreatQAu
import Derived.Test.YtjahkcbdecgbhaaGreatQAz
set_option linter.unusedSimpArgs false
set_option linter.unusedVariables false
noncomputable section
namespace Go.Aw
set_option maxRecDepth 100000
def ckS (l:List Pt)(m:List Ed)(n:Int):List Value→Option (Bool × Value)
 |[]=>some (decide (l.length≤1000)&&decide (m.length≤1000),iv (if G8 l m n=true then 0 else 1))
 |_=>none
def aKq:Nat × XF:=(18,mX aP aR ckS)
def LC:List Bool→Nat→Int
 |[],_=>-1
 |b::r,i=>if b=false then i else LC r (i+1)
theorem OM:∀ (l:List Bool) (i:Nat),decide (0≤LC l i)=!(l.all id)
 |[],i=>rfl
 |b::r,i=>by
  cases b with
  |false=>simp [LC]
  |true=>simpa [LC] using OM r (i+1)
def ixS (l:List Bool):List Value→Option (Bool × Value)
 |[.bool false]=>some (decide (l.length≤1000000),iv (LC l 0))
 |_=>none
theorem aDK {l:List Bool}{r:List Value}{v:Value}(hs:ixS l r=some (true,v)):r=[.bool false]∧l.length≤1000000∧v=iv (LC l 0):=by
 unfold ixS at hs;split at hs
 ·injection hs with hs;injection hs with h1 h2;exact⟨rfl,by simpa using h1,h2.symm⟩
 ·cases hs
def WN (l:List Bool)(c:Nat)(j:Int):List (Nat × Value):=[(0,.slice (some ⟨0,0,none⟩) l.length c),(1,.bool false),(7,iv l.length),(8,iv j)]
def hBo (l:List Bool):Heap:=[(0,.cells false true 1 (flat fT.fl l))]
def aBv:Nat × XF:=(241,lX fT ixS)
theorem aIU:cJ Go.Proofs.Tryz.prog aBv.1 aBv.2:=vH fT (aK (xl:=[]) .nil) fun l r v hs=>by
 obtain⟨rfl,hlen,rfl⟩:=aDK hs;refine⟨rfl,rfl,fun c=>?_⟩;(conv=>whnf);refine⟨fun q e h nx=>∃ (i:Nat) (j:Int),j=i∧i≤l.length∧q=l.length - i∧LC l 0=LC (l.drop i) i∧e=WN l c j∧h=hBo l∧nx=1,⟨l.length,?_⟩,?_⟩
 ·refine aL (e0:=WN l c 0) (h0:=hBo l) (n0:=1) ⟨0,0,rfl,Nat.zero_le _,rfl,rfl,rfl,rfl,rfl⟩ ?_ ?_ (by decide)
  ·unfold WN;((repeat' refine iE rfl rfl ?_);exact iN)
  ·unfold hBo;((repeat'(first|refine iF rfl rfl ?_|refine iC rfl rfl rfl ?_|refine iJ rfl rfl rfl rfl ?_));exact iN)
 ·rintro q e h nx ⟨i,j,hj,hi,rfl,hb,rfl,rfl,rfl⟩;unfold WN hBo;((conv=>whnf);refine bm (fun h1=>?_) (fun h1=>?_))
  ·have hlt:i<l.length:=(by simp [aA,aB] at h1;omega);have hd:l.drop i=cV l i::l.drop (i+1):=(by rw [rC hlt];exact List.drop_eq_getElem_cons hlt);rw [hd,LC] at hb;((conv=>whnf);refine bm (fun h2=>?_) (fun h2=>?_))
   ·(conv=>whnf);refine fY (M7 l (i:=i) hlt ?_) ?_
    ·show _+Int.toNat j*1=_;omega
    ((conv=>whnf);refine bm (fun h3=>?_) (fun h3=>?_))
    ·have h3:cV l i=false:=(by simpa [aA,aB] using h3);(conv=>whnf);rw [hb,if_pos h3,hj]
    ·have h3:¬ cV l i=false:=(by simpa [aA,aB] using h3);((conv=>whnf);refine bm (fun h4=>?_) (fun h4=>?_))
     ·(conv=>whnf);refine⟨l.length - (i+1),by omega,?_⟩;refine aL (e0:=WN l c (j+1)) (h0:=hBo l) (n0:=1) ⟨i+1,j+1,by omega,hlt,rfl,by rw [hb,if_neg h3],rfl,rfl,rfl⟩ ?_ ?_ (by decide)
      ·unfold WN;((repeat' refine iE rfl rfl ?_);exact iN)
      ·unfold hBo;((repeat'(first|refine iF rfl rfl ?_|refine iC rfl rfl rfl ?_|refine iJ rfl rfl rfl rfl ?_));exact iN)
     ·exfalso;simp [aA,aB,aH] at h4;omega
   ·exfalso;simp [aA,aB] at h2;omega
  ·have hge:l.length≤i:=(by simp [aA,aB] at h1;omega);(conv=>whnf);rw [hb,List.drop_eq_nil_of_le hge];rfl
def ctS (l:List Bool):List Value→Option (Bool × Value)
 |[.bool false]=>some (decide (l.length≤1000000),.bool (!(l.all id)))
 |_=>none
theorem aDZ {l:List Bool}{r:List Value}{v:Value}(hs:ctS l r=some (true,v)):r=[.bool false]∧l.length≤1000000∧v=.bool (!(l.all id)):=by
 unfold ctS at hs;split at hs
 ·injection hs with hs;injection hs with h1 h2;exact⟨rfl,by simpa using h1,h2.symm⟩
 ·cases hs
def U4:Nat × XF:=(208,lX fT ctS)
theorem aES:cJ Go.Proofs.Tryz.prog U4.1 U4.2:=vH fT (aK (xl:=[aBv]) (.cons aIU .nil)) fun l r v hs=>by
 obtain⟨rfl,hlen,rfl⟩:=aDZ hs;refine⟨rfl,rfl,fun c=>?_⟩;(conv=>whnf);refine⟨l,aD fT rfl,?_⟩;((conv=>whnf);refine bm (fun h1=>?_) (fun h1=>?_))
 ·(conv=>whnf);rw [← OM l 0];rfl
 ·exact absurd hlen (by simpa using h1)
theorem RM (n:Nat):rep n [.bool false]=flat fT.fl (List.replicate n false):=by
 induction n with
 |zero=>rfl
 |succ n ih=>simp only [List.replicate_succ,flat,← ih];rfl
theorem aGi (n:Nat):rep n [iv 0]=flat aO.fl (List.replicate n 0):=by
 induction n with
 |zero=>rfl
 |succ n ih=>simp only [List.replicate_succ,flat,← ih];rfl
theorem xU (a b:Pt):fP a b=decide (kJ a b<0):=by
 unfold fP kJ X7 jA;by_cases h1:a.1<b.1
 ·simp [h1]
 ·by_cases h2:b.1<a.1
  ·have h3:¬ a.1=b.1:=(by omega);simp [h1,h2,h3]
  ·have h3:a.1=b.1:=(by omega);simp only [h1,h2,if_false,h3];by_cases h4:a.2<b.2 <;> by_cases h5:b.2<a.2 <;> simp [h4,h5]
theorem TR (d e:Ed):bfE d e=decide (X7 (jA d.a e.a) (jA d.b e.b)<0):=xU (d.a,d.b) (e.a,e.b)
def liS (l:List Pt)(m:List Ed)(n:Int):List Value→Option (Bool × Value)
 |[]=>some (decide (l.length≤1000)&&decide (m.length≤1000),.bool (cY l m n))
 |_=>none
theorem aDs {l:List Pt}{m:List Ed}{n:Int}{r:List Value}{v:Value}(h:liS l m n r=some (true,v)):r=[]∧l.length≤1000∧m.length≤1000∧v=.bool (cY l m n):=by
 unfold liS at h;split at h
 ·injection h with h;injection h with h1 h2;simp only [Bool.and_eq_true,decide_eq_true_eq] at h1;exact⟨rfl,h1.1,h1.2,h2.symm⟩
 ·cases h
def NO (N c:Nat)(j:Int):List (Nat × Value):=[(1,.pointer (some ⟨2,0,none⟩)),(35,.slice (some ⟨0,0,none⟩) N c),(36,iv N),(37,iv j)]
def BN (N M c:Nat)(j:Int):List (Nat × Value):=[(1,.pointer (some ⟨2,0,none⟩)),(5,.slice (some ⟨3,0,none⟩) N N),(66,.slice (some ⟨1,0,none⟩) M c),(67,iv M),(68,iv j)]
def U0:Nat × XF:=(152,mX aP aR liS)
theorem aIC:cJ Go.Proofs.Tryz.prog U0.1 U0.2:=sS aP aR (aK (xl:=[X17,aGn,SA,YU,U4]) (.cons x17 (.cons aJ1 (.cons VS (.cons aGC (.cons aES .nil)))))) fun l m n r v hs=>by
 obtain⟨rfl,hl,hm,rfl⟩:=aDs hs;clear hs;refine⟨rfl,rfl,fun c1 c2=>?_⟩;have hszf:¬ (l.length≤400∧3≤m.length∧m.length≤400∧1≤n∧n≤100)→cY l m n=false:=fun h=>aH3 (by
  cases hz:WO l m n with
  |false=>rfl
  |true=>simp only [WO,Bool.and_eq_true,decide_eq_true_eq] at hz;exact absurd ⟨hz.1.1.1.1,hz.1.1.1.2,hz.1.1.2,hz.1.2,hz.2⟩ h)
 ((conv=>whnf);refine bm (fun a1=>?_) (fun a1=>?_))
 ·have a1:¬ 400<l.length:=(by simp [aA,aB] at a1;omega);((conv=>whnf);refine bm (fun a2=>?_) (fun a2=>?_))
  ·have a2:¬ m.length<3:=(by simp [aA,aB] at a2;omega);((conv=>whnf);refine bm (fun a3=>?_) (fun a3=>?_))
   ·have a3:¬ 400<m.length:=(by simp [aA,aB] at a3;omega);((conv=>whnf);refine bm (fun a4=>?_) (fun a4=>?_))
    ·have a4:¬ n<1:=(by simp [aA,aB] at a4;omega);((conv=>whnf);refine bm (fun a5=>?_) (fun a5=>?_))
     ·have a5:100<n:=(by simp [aA,aB] at a5;omega);(conv=>whnf);rw [hszf (by omega)]
     ·have a5:¬ 100<n:=(by simp [aA,aB] at a5;omega);have hsz:WO l m n=true:=by
       simp only [WO,Bool.and_eq_true,decide_eq_true_eq];omega
      clear hszf;(conv=>whnf);refine⟨fun q e h nx=>∃ (i:Nat) (j:Int),j=i∧i≤l.length∧q=l.length - i∧(∀ t,t<i→CK l t=true)∧e=NO l.length c1 j∧h=cG l m c1 c2 n∧nx=3,⟨l.length,?_⟩,?_⟩
      ·refine aL (e0:=NO l.length c1 0) (h0:=cG l m c1 c2 n) (n0:=3) ⟨0,0,rfl,Nat.zero_le _,rfl,fun t ht=>absurd ht (Nat.not_lt_zero t),rfl,rfl,rfl⟩ ?_ ?_ (by decide)
       ·unfold NO;((repeat' refine iE rfl rfl ?_);exact iN)
       ·unfold cG aW aC;((repeat'(first|refine iF rfl rfl ?_|refine iC rfl rfl rfl ?_|refine iJ rfl rfl rfl rfl ?_));exact iN)
      ·rintro q e h nx ⟨i,j,hj,hi,rfl,hpt,rfl,rfl,rfl⟩;unfold NO cG aW aC;((conv=>whnf);refine bm (fun b1=>?_) (fun b1=>?_))
       ·have hlt:i<l.length:=(by simp [aA,aB] at b1;omega);((conv=>whnf);refine bm (fun b2=>?_) (fun b2=>?_))
        ·(conv=>whnf);refine mR (jE l (i:=i) hlt ?_) ?_
         ·show _+Int.toNat j*2=_;omega
         ((conv=>whnf);refine bm (fun b3=>?_) (fun b3=>?_))
         ·have hr:aX (dL l i)=true:=(by simpa [aA,aB] using b3);((conv=>whnf);refine bm (fun b4=>?_) (fun b4=>?_))
          ·have hi0:i≠0:=(by simp [aA,aB] at b4;omega);((conv=>whnf);refine bm (fun b5=>?_) (fun b5=>?_))
           ·((conv=>whnf);refine bm (fun b6=>?_) (fun b6=>?_))
            ·(conv=>whnf);refine mR (jE l (i:=i - 1) (by omega) ?_) ?_
             ·show _+Int.toNat (j - 1)*2=_;omega
             ((conv=>whnf);refine bm (fun b8=>?_) (fun b8=>?_))
             ·have b8:fP (dL l (i - 1)) (dL l i)=false:=by
               rw [xU];have:0≤kJ (dL l (i - 1)) (dL l i):=(by simpa [aA,aB] using b8);exact decide_eq_false (by omega)
              (conv=>whnf);rw [aAp hlt (show CK l i=false by rw [CK,hr,b8,decide_eq_false hi0];rfl)]
             ·have b8:fP (dL l (i - 1)) (dL l i)=true:=by
               rw [xU];have:¬ 0≤kJ (dL l (i - 1)) (dL l i):=(by simpa [aA,aB] using b8);exact decide_eq_true (by omega)
              have hyes:CK l i=true:=(by rw [CK,hr,b8];simp);((conv=>whnf);refine bm (fun b9=>?_) (fun b9=>?_))
              ·(conv=>whnf);refine⟨l.length - (i+1),by omega,?_⟩;refine aL (e0:=NO l.length c1 (j+1)) (h0:=cG l m c1 c2 n) (n0:=3) ⟨i+1,j+1,by omega,by omega,rfl,fun t ht=>?_,rfl,rfl,rfl⟩ ?_ ?_ (by decide)
               ·by_cases hti:t=i
                ·rw [hti];exact hyes
                ·exact hpt t (by omega)
               ·unfold NO;((repeat' refine iE rfl rfl ?_);exact iN)
               ·unfold cG aW aC;((repeat'(first|refine iF rfl rfl ?_|refine iC rfl rfl rfl ?_|refine iJ rfl rfl rfl rfl ?_));exact iN)
              ·exfalso;simp [aA,aB,aH] at b9;omega
            ·exfalso;simp [aA,aB] at b6;omega
           ·exfalso;simp [aA,aB,aH] at b5;omega
          ·have hi0:i=0:=(by simp [aA,aB] at b4;omega);have hyes:CK l i=true:=(by rw [CK,hr,hi0];rfl);((conv=>whnf);refine bm (fun b9=>?_) (fun b9=>?_))
           ·(conv=>whnf);refine⟨l.length - (i+1),by omega,?_⟩;refine aL (e0:=NO l.length c1 (j+1)) (h0:=cG l m c1 c2 n) (n0:=3) ⟨i+1,j+1,by omega,by omega,rfl,fun t ht=>?_,rfl,rfl,rfl⟩ ?_ ?_ (by decide)
            ·by_cases hti:t=i
             ·rw [hti];exact hyes
             ·exact hpt t (by omega)
            ·unfold NO;((repeat' refine iE rfl rfl ?_);exact iN)
            ·unfold cG aW aC;((repeat'(first|refine iF rfl rfl ?_|refine iC rfl rfl rfl ?_|refine iJ rfl rfl rfl rfl ?_));exact iN)
           ·exfalso;simp [aA,aB,aH] at b9;omega
         ·have hr:aX (dL l i)=false:=(by simpa [aA,aB] using b3);(conv=>whnf);rw [aAp hlt (show CK l i=false by rw [CK,hr];rfl)]
        ·exfalso;simp [aA,aB] at b2;omega
       ·have hge:i=l.length:=(by simp [aA,aB] at b1;omega);subst hge;clear b1 hi hj;((conv=>whnf);refine bm (fun m1=>?_) (fun m1=>?_))
        ·(conv=>whnf);refine⟨fun q e h nx=>∃ (i:Nat) (j:Int),j=i∧i≤m.length∧q=m.length - i∧(∀ t,t<i→HG l m t=true)∧e=BN l.length m.length c2 j∧h=bJ l m c1 c2 n (mN m (List.replicate l.length false) i)∧nx=4,⟨m.length,?_⟩,?_⟩
         ·refine aL (e0:=BN l.length m.length c2 0) (h0:=bJ l m c1 c2 n (List.replicate l.length false)) (n0:=4) ⟨0,0,rfl,Nat.zero_le _,rfl,fun t ht=>absurd ht (Nat.not_lt_zero t),rfl,rfl,rfl⟩ ?_ ?_ (by decide)
          ·unfold BN;((repeat' refine iE rfl rfl ?_);exact iN)
          ·unfold bJ cG aW aC;have hrep:=RM l.length;((repeat'(first|refine iW rfl rfl (bD (aI fT _) hrep) ?_|refine iF rfl rfl ?_|refine iC rfl rfl rfl ?_|refine iJ rfl rfl rfl rfl ?_));exact iN)
         ·rintro q e h nx ⟨i,j,hj,hi,rfl,hed0,rfl,rfl,rfl⟩;have rl:(mN m (List.replicate l.length false) i).length=l.length:=(by rw [x6,List.length_replicate]);have nxt:mN m (List.replicate l.length false) (i+1)=((mN m (List.replicate l.length false) i).set (cN m i).a.toNat true).set (cN m i).b.toNat true:=rfl;generalize hs0:mN m (List.replicate l.length false) i=s at rl nxt;have hsl:(flat fT.fl s).length=l.length:=(by rw [bF,rl];exact Nat.mul_one _);unfold BN bJ cG aW aC;((conv=>whnf);refine bm (fun d1=>?_) (fun d1=>?_))
          ·have hlt:i<m.length:=(by simp [aA,aB] at d1;omega);((conv=>whnf);refine bm (fun d2=>?_) (fun d2=>?_))
           ·(conv=>whnf);refine mR (A4 m (i:=i) hlt ?_) ?_
            ·show _+Int.toNat j*5=_;omega
            generalize hed:cN m i=ed at nxt;((conv=>whnf);refine bm (fun f1=>?_) (fun f1=>?_))
            ·have f1:0≤ed.a:=(by simp [aA,aB] at f1;omega);((conv=>whnf);refine bm (fun f2=>?_) (fun f2=>?_))
             ·have f2:ed.a<ed.b:=(by simp [aA,aB] at f2;omega);((conv=>whnf);refine bm (fun f3=>?_) (fun f3=>?_))
              ·have f3:ed.b<l.length:=(by simp [aA,aB] at f3;omega);((conv=>whnf);refine bm (fun f4=>?_) (fun f4=>?_))
               ·have f4 : -1≤ed.n:=(by simp [aA,aB] at f4;omega);((conv=>whnf);refine bm (fun f5=>?_) (fun f5=>?_))
                ·have f5:200≤ed.n:=(by simp [aA,aB] at f5;omega);(conv=>whnf);rw [A1 hlt (nT hed (by omega))]
                ·have f5:ed.n<200:=(by simp [aA,aB] at f5;omega);((conv=>whnf);refine bm (fun f6=>?_) (fun f6=>?_))
                 ·have f6:0<i:=(by simp [aA,aB] at f6;omega);((conv=>whnf);refine bm (fun f7=>?_) (fun f7=>?_))
                  ·((conv=>whnf);refine bm (fun f8=>?_) (fun f8=>?_))
                   ·(conv=>whnf);refine fY (B8 m 0 (i:=i - 1) (by omega) rfl (by decide) ?_) ?_
                    ·show _+Int.toNat (j - 1)*5+0=_;omega
                    ((conv=>whnf);refine bm (fun f9=>?_) (fun f9=>?_))
                    ·((conv=>whnf);refine bm (fun f10=>?_) (fun f10=>?_))
                     ·(conv=>whnf);refine fY (B8 m 1 (i:=i - 1) (by omega) rfl (by decide) ?_) ?_
                      ·show _+Int.toNat (j - 1)*5+1=_;omega
                      generalize hd0:cN m (i - 1)=dd;(conv=>whnf);refine⟨[jA dd.a ed.a,jA dd.b ed.b],⟨rfl,_,_,_,_,rfl,rfl⟩,?_⟩;((conv=>whnf);refine bm (fun f11=>?_) (fun f11=>?_))
                      ·have f11:bfE dd ed=false:=by
                        rw [TR];have:0≤X7 (jA dd.a ed.a) (jA dd.b ed.b):=(by simpa [aA,aB] using f11);exact decide_eq_false (by omega)
                       (conv=>whnf);rw [A1 hlt (QY hed hd0 (by omega) f11)]
                      ·have f11:bfE dd ed=true:=by
                        rw [TR];have:¬ 0≤X7 (jA dd.a ed.a) (jA dd.b ed.b):=(by simpa [aA,aB] using f11);exact decide_eq_true (by omega)
                       have hyes:HG l m i=true:=yZ hed ⟨f1,f2,f3,f4,f5⟩ (by rw [hd0,f11,Bool.or_true]);((conv=>whnf);refine bm (fun k1=>?_) (fun k1=>?_))
                       ·((conv=>whnf);refine bm (fun k2=>?_) (fun k2=>?_))
                        ·((conv=>whnf);refine bm (fun k3=>?_) (fun k3=>?_))
                         ·((conv=>whnf);refine bm (fun k4=>?_) (fun k4=>?_))
                          ·((conv=>whnf);refine bm (fun k5=>?_) (fun k5=>?_))
                           ·(conv=>whnf);refine⟨m.length - (i+1),by omega,?_⟩;refine aL (e0:=BN l.length m.length c2 (j+1)) (h0:=bJ l m c1 c2 n (mN m (List.replicate l.length false) (i+1))) (n0:=4) ⟨i+1,j+1,by omega,by omega,rfl,fun t ht=>?_,rfl,rfl,rfl⟩ ?_ ?_ (by decide)
                            ·by_cases hti:t=i
                             ·rw [hti];exact hyes
                             ·exact hed0 t (by omega)
                            ·unfold BN;((repeat' refine iE rfl rfl ?_);exact iN)
                            ·unfold bJ cG aW aC;have bV:=Q5 (s:=s) (a:=ed.a.toNat) (b:=ed.b.toNat) (o1:=0+ed.a.toNat*1) (o2:=0+ed.b.toNat*1) (by omega) (by omega) (by omega) (by omega);rw [nxt];((repeat'(first|refine iW rfl rfl (bD (aI fT _) bV) ?_|refine iF rfl rfl ?_|refine iC rfl rfl rfl ?_|refine iJ rfl rfl rfl rfl ?_));exact iN)
                           ·exfalso;simp [aA,aB,aH] at k5;omega
                          ·have hpl:(dM (flat fT.fl s) (0+ed.a.toNat*1) [.bool true]).length=l.length:=(by rw [dC (by rw [hsl];show 0+ed.a.toNat*1+1≤l.length;omega)];exact hsl);have k4:(0+ed.b.toNat*1+1).ble (dM (flat fT.fl s) (0+ed.a.toNat*1) [.bool true]).length=false:=k4;rw [hpl] at k4;exact eP k4 (by omega)
                         ·exfalso;simp [aA,aB] at k3;omega
                        ·rw [hsl] at k2;exact eP k2 (by show 0+ed.a.toNat*1+1≤l.length;omega)
                       ·exfalso;simp [aA,aB] at k1;omega
                     ·exfalso;simp [aA,aB] at f10;omega
                    ·exfalso;simp [aA,aB,aH] at f9;omega
                   ·exfalso;simp [aA,aB] at f8;omega
                  ·exfalso;simp [aA,aB,aH] at f7;omega
                 ·have f6:i=0:=(by simp [aA,aB] at f6;omega);have hyes:HG l m i=true:=yZ hed ⟨f1,f2,f3,f4,f5⟩ (by simp [f6]);((conv=>whnf);refine bm (fun k1=>?_) (fun k1=>?_))
                  ·((conv=>whnf);refine bm (fun k2=>?_) (fun k2=>?_))
                   ·((conv=>whnf);refine bm (fun k3=>?_) (fun k3=>?_))
                    ·((conv=>whnf);refine bm (fun k4=>?_) (fun k4=>?_))
                     ·((conv=>whnf);refine bm (fun k5=>?_) (fun k5=>?_))
                      ·(conv=>whnf);refine⟨m.length - (i+1),by omega,?_⟩;refine aL (e0:=BN l.length m.length c2 (j+1)) (h0:=bJ l m c1 c2 n (mN m (List.replicate l.length false) (i+1))) (n0:=4) ⟨i+1,j+1,by omega,by omega,rfl,fun t ht=>?_,rfl,rfl,rfl⟩ ?_ ?_ (by decide)
                       ·by_cases hti:t=i
                        ·rw [hti];exact hyes
                        ·exact hed0 t (by omega)
                       ·unfold BN;((repeat' refine iE rfl rfl ?_);exact iN)
                       ·unfold bJ cG aW aC;have bV:=Q5 (s:=s) (a:=ed.a.toNat) (b:=ed.b.toNat) (o1:=0+ed.a.toNat*1) (o2:=0+ed.b.toNat*1) (by omega) (by omega) (by omega) (by omega);rw [nxt];((repeat'(first|refine iW rfl rfl (bD (aI fT _) bV) ?_|refine iF rfl rfl ?_|refine iC rfl rfl rfl ?_|refine iJ rfl rfl rfl rfl ?_));exact iN)
                      ·exfalso;simp [aA,aB,aH] at k5;omega
                     ·have hpl:(dM (flat fT.fl s) (0+ed.a.toNat*1) [.bool true]).length=l.length:=(by rw [dC (by rw [hsl];show 0+ed.a.toNat*1+1≤l.length;omega)];exact hsl);have k4:(0+ed.b.toNat*1+1).ble (dM (flat fT.fl s) (0+ed.a.toNat*1) [.bool true]).length=false:=k4;rw [hpl] at k4;exact eP k4 (by omega)
                    ·exfalso;simp [aA,aB] at k3;omega
                   ·rw [hsl] at k2;exact eP k2 (by show 0+ed.a.toNat*1+1≤l.length;omega)
                  ·exfalso;simp [aA,aB] at k1;omega
               ·have f4:¬ -1≤ed.n:=(by simp [aA,aB] at f4;omega);(conv=>whnf);rw [A1 hlt (nT hed (by omega))]
              ·have f3:¬ ed.b<l.length:=(by simp [aA,aB] at f3;omega);(conv=>whnf);rw [A1 hlt (nT hed (by omega))]
             ·have f2:¬ ed.a<ed.b:=(by simp [aA,aB] at f2;omega);(conv=>whnf);rw [A1 hlt (nT hed (by omega))]
            ·have f1:¬ 0≤ed.a:=(by simp [aA,aB] at f1;omega);(conv=>whnf);rw [A1 hlt (nT hed (by omega))]
           ·exfalso;simp [aA,aB] at d2;omega
          ·have hge:i=m.length:=(by simp [aA,aB] at d1;omega);subst hge;(conv=>whnf);refine⟨s,⟨rl.symm,_,_,_,_,rfl,by rw [List.drop_zero,List.take_length]⟩,?_⟩;((conv=>whnf);refine bm (fun g1=>?_) (fun g1=>?_))
           ·(conv=>whnf);rw [cY,hsz,eS hpt,eS hed0,hs0];show Value.bool (!(!(s.all id)))=_;rw [Bool.not_not];rfl
           ·exfalso;have g1:decide (s.length≤1000000)=false:=g1;simp at g1;omega
        ·exfalso;simp [aA,aB] at m1;omega
    ·have a4:n<1:=(by simp [aA,aB] at a4;omega);(conv=>whnf);rw [hszf (by omega)]
   ·have a3:400<m.length:=(by simp [aA,aB] at a3;omega);(conv=>whnf);rw [hszf (by omega)]
  ·have a2:m.length<3:=(by simp [aA,aB] at a2;omega);(conv=>whnf);rw [hszf (by omega)]
 ·have a1:400<l.length:=(by simp [aA,aB] at a1;omega);(conv=>whnf);rw [hszf (by omega)]
end Go.Aw
end

noncomputable section
namespace Go.Aw
theorem apart {F1 F2 G1 G2 s1 s2 t1 t2 c:Int}(hi:G1*s2 - G2*s1=F2*t1 - F1*t2)(hd:G1 - G2=F2 - F1)(hF:F1*F2<0)(hG:G1*G2<0)
  (h1:s1≤c) (h2:s2≤c) (h3:c+1≤t1) (h4:c+1≤t2):False:=by
 have key:∀ {F1 F2 G1 G2 s1 s2 t1 t2:Int},G1*s2 - G2*s1=F2*t1 - F1*t2→G1 - G2=F2 - F1→F1<0→0<F2→0<G1→G2<0→s1≤c→s2≤c→c+1≤t1→c+1≤t2→False:=by
  intro F1 F2 G1 G2 s1 s2 t1 t2 hi hd f1 f2 g1 g2 h1 h2 h3 h4;have e1:=Int.mul_le_mul_of_nonneg_left h2 (Int.le_of_lt g1);have e2:=Int.mul_le_mul_of_nonneg_left h1 (show 0≤-G2 by omega);have e3:=Int.mul_le_mul_of_nonneg_left h3 (Int.le_of_lt f2);have e4:=Int.mul_le_mul_of_nonneg_left h4 (show 0≤-F1 by omega);have d:(G1 - G2)*c=(F2 - F1)*c:=(by rw [hd]);simp only [Int.mul_add,Int.mul_one,Int.neg_mul,Int.sub_mul] at e1 e2 e3 e4 d;omega
 rcases Int.lt_or_le F1 0 with f1|f1
 ·have f2:0<F2:=by
   rcases Int.lt_or_le 0 F2 with h|h
   ·exact h
   ·have:=Int.mul_nonneg_of_nonpos_of_nonpos (Int.le_of_lt f1) h;omega
  rcases Int.lt_or_le G1 0 with g1|g1
  ·have g2:0<G2:=by
    rcases Int.lt_or_le 0 G2 with h|h
    ·exact h
    ·have:=Int.mul_nonneg_of_nonpos_of_nonpos (Int.le_of_lt g1) h;omega
   omega
  ·have g1':0<G1:=by
    rcases Int.lt_or_le 0 G1 with h|h
    ·exact h
    ·have:G1=0:=(by omega);rw [this] at hG;omega
   have g2:G2<0:=by
    rcases Int.lt_or_le G2 0 with h|h
    ·exact h
    ·have:=Int.mul_nonneg g1 h;omega
   exact key hi hd f1 f2 g1' g2 h1 h2 h3 h4
 ·have f1':0<F1:=by
   rcases Int.lt_or_le 0 F1 with h|h
   ·exact h
   ·have:F1=0:=(by omega);rw [this] at hF;omega
  have f2:F2<0:=by
   rcases Int.lt_or_le F2 0 with h|h
   ·exact h
   ·have:=Int.mul_nonneg f1 h;omega
  rcases Int.lt_or_le G1 0 with g1|g1
  ·have g2:0<G2:=by
    rcases Int.lt_or_le 0 G2 with h|h
    ·exact h
    ·have:=Int.mul_nonneg_of_nonpos_of_nonpos (Int.le_of_lt g1) h;omega
   exact key (F1:=F2) (F2:=F1) (G1:=G2) (G2:=G1) (s1:=s2) (s2:=s1) (t1:=t2) (t2:=t1) (by omega) (by omega) f2 f1' g2 g1 h2 h1 h4 h3
  ·have g2:G2<0:=by
    rcases Int.lt_or_le G2 0 with h|h
    ·exact h
    ·have:=Int.mul_nonneg g1 h;omega
   omega
theorem OA {a b:Int}(h:XJ a*XJ b<0):a*b<0:=by
 unfold XJ at h
 split at h <;> split at h <;> first
  |omega
  |(exact Int.mul_neg_of_neg_of_pos (by omega) (by omega))
  |(exact Int.mul_neg_of_pos_of_neg (by omega) (by omega))
  |(split at h <;> first|omega|(exact Int.mul_neg_of_neg_of_pos (by omega) (by omega))|(exact Int.mul_neg_of_pos_of_neg (by omega) (by omega)))
theorem aAl (s t:Sg):bC t.1 t.2 s.1 - bC t.1 t.2 s.2=bC s.1 s.2 t.2 - bC s.1 s.2 t.1:=by
 obtain⟨⟨a,b⟩,⟨c,d⟩⟩:=s;obtain⟨⟨e,f⟩,⟨g,h⟩⟩:=t;simp only [bC,Int.sub_mul,Int.mul_sub,Int.mul_comm,Int.mul_left_comm,Int.mul_assoc];omega
theorem YN (s t:Sg):bC t.1 t.2 s.1*s.2.1 - bC t.1 t.2 s.2*s.1.1=bC s.1 s.2 t.2*t.1.1 - bC s.1 s.2 t.1*t.2.1:=by
 obtain⟨⟨a,b⟩,⟨c,d⟩⟩:=s;obtain⟨⟨e,f⟩,⟨g,h⟩⟩:=t;simp only [bC,Int.sub_mul,Int.mul_sub,Int.mul_comm,Int.mul_left_comm,Int.mul_assoc];omega
theorem Z7 (s t:Sg):bC t.1 t.2 s.1*s.2.2 - bC t.1 t.2 s.2*s.1.2=bC s.1 s.2 t.2*t.1.2 - bC s.1 s.2 t.1*t.2.2:=by
 obtain⟨⟨a,b⟩,⟨c,d⟩⟩:=s;obtain⟨⟨e,f⟩,⟨g,h⟩⟩:=t;simp only [bC,Int.sub_mul,Int.mul_sub,Int.mul_comm,Int.mul_left_comm,Int.mul_assoc];omega
theorem UD {a b c d:Int}(h:apI a b c d=true):(∃ k,a≤k∧b≤k∧k+1≤c∧k+1≤d)∨(∃ k,c≤k∧d≤k∧k+1≤a∧k+1≤b):=by
 unfold apI mxI mnI at h;simp only [Bool.or_eq_true,decide_eq_true_eq] at h;rcases h with h|h
 ·refine .inl ⟨if b > a then b else a,?_⟩;split at h <;> split at h <;> omega
 ·refine .inr ⟨if d > c then d else c,?_⟩;split at h <;> split at h <;> omega
theorem XG {s t:Sg}(h:AU s t=true):¬ (bA s.1 s.2 t.1*bA s.1 s.2 t.2<0∧bA t.1 t.2 s.1*bA t.1 t.2 s.2<0):=by
 rintro ⟨h1,h2⟩;have h1:=OA h1;have h2:=OA h2;have d1:=aAl s t;have d2:=aAl t s;unfold AU at h;rw [Bool.or_eq_true] at h;rcases h with h|h
 ·rcases UD h with ⟨k,a1,a2,a3,a4⟩|⟨k,a1,a2,a3,a4⟩
  ·exact apart (YN s t) d1 h1 h2 a1 a2 a3 a4
  ·exact apart (YN t s) d2 h2 h1 a1 a2 a3 a4
 ·rcases UD h with ⟨k,a1,a2,a3,a4⟩|⟨k,a1,a2,a3,a4⟩
  ·exact apart (Z7 s t) d1 h1 h2 a1 a2 a3 a4
  ·exact apart (Z7 t s) d2 h2 h1 a1 a2 a3 a4
theorem aDk {s t:Sg}(h:AU s t=true)(p:Pt):¬ (pD p s=true∧pD p t=true):=by
 rintro ⟨h1,h2⟩;simp only [pD,V0,Bool.and_eq_true,decide_eq_true_eq] at h1 h2;obtain⟨⟨⟨x1,x2⟩,y1,y2⟩,_⟩:=h1;obtain⟨⟨⟨x3,x4⟩,y3,y4⟩,_⟩:=h2;unfold AU at h;rw [Bool.or_eq_true] at h;rcases h with h|h
 ·rcases UD h with ⟨k,a1,a2,a3,a4⟩|⟨k,a1,a2,a3,a4⟩ <;>
   (split at x1 <;> split at x2 <;> split at x3 <;> split at x4 <;> omega)
 ·rcases UD h with ⟨k,a1,a2,a3,a4⟩|⟨k,a1,a2,a3,a4⟩ <;>
   (split at y1 <;> split at y2 <;> split at y3 <;> split at y4 <;> omega)
theorem aA5 {s t:Sg}(h:AU s t=true):fI s t=0:=by
 unfold fI;split
 ·rename_i hr;rw [SZ s t hr.1 hr.2];have he:pJ s t=[]:=by
   unfold pJ;have:∀ p,lT s t [] p=[]:=fun p=>by
    unfold lT;rw [if_neg (fun hh=>aDk h p ⟨hh.1,hh.2.1⟩)]
   rw [this,this,this,this]
  unfold oL;rw [he];exact if_neg (XG h)
 ·rfl
theorem YY (s t:Sg):F6 s t=fI s t:=by
 unfold F6;split
 ·rename_i h;rw [aA5 h]
 ·rfl
end Go.Aw
end

noncomputable section
namespace Go.Aw
set_option maxRecDepth 100000
def CD (v:Pt):Bool:=decide (v.2<0) || (decide (v.2=0)&&decide (v.1<0))
def aGf:Nat × XF:=(242,gX (s1 cP fun v=>(true,.bool (CD v))))
theorem aKe:cJ Go.Proofs.Tryz.prog aGf.1 aGf.2:=x1 cP (xl:=[]) .nil (fun _=>rfl) fun a _=>by
 obtain⟨ax,ay⟩:=a;unfold cT
 repeat' ((conv=>whnf);refine bm (fun h=>?_) (fun h=>?_))
 all_goals (conv=>whnf)
 all_goals (simp only [jS,IB,fC,iZ,beq_iff_eq,beq_eq_false_iff_ne,ne_eq,Bool.not_eq_false,Bool.not_eq_true,decide_eq_true_eq,decide_eq_false_iff_not] at *)
 all_goals (show _=Value.bool (CD _);unfold CD;simp_all)
def crP (w v:Pt):Int:=w.1*v.2 - w.2*v.1
def QQ (w v:Pt):Int:=if CD w=CD v then jA 0 (crP w v) else if CD v=true then -1 else 1
def aFQ:Nat × XF:=(210,gX (s2 cP cP fun w v=>(wide w&&wide v,iv (QQ w v))))
theorem aJD:cJ Go.Proofs.Tryz.prog aFQ.1 aFQ.2:=x2 cP cP (xl:=[aGf,SA]) (.cons aKe (.cons VS .nil)) (fun _ _=>rfl) fun w v hp=>by
 obtain⟨wx,wy⟩:=w;obtain⟨vx,vy⟩:=v;simp only [wide,Bool.and_eq_true,decide_eq_true_eq] at hp;have m1:=u9 (a:=wx) (b:=vy) (A:=1000000) (B:=1000000) (by omega) (by omega) (by omega) (by omega);have m2:=u9 (a:=wy) (b:=vx) (A:=1000000) (B:=1000000) (by omega) (by omega) (by omega) (by omega);unfold cT
 repeat' ((conv=>whnf);refine bm (fun h=>?_) (fun h=>?_))
 all_goals (conv=>whnf)
 all_goals first
  |(exfalso;simp [aA,aB,aH] at h;omega)
  |(show iv _=iv (QQ _ _);unfold QQ;simp [aA,aB] at *;simp_all;done)
  |(show iv _=iv (QQ _ _);unfold QQ crP;simp [aA,aB] at *;simp_all)
  |trace_state
structure Dt where
 dx:Int
 dy:Int
 no:Int
 fr:Int
 tt:Int
def rN:El Dt:=⟨fun e=>[iv e.dx,iv e.dy,iv e.no,iv e.fr,iv e.tt],5,fun _=>rfl,fun _=>rfl,by decide⟩
def bX (m:List Dt)(i:Nat):Dt:=m.getD i ⟨0,0,0,0,0⟩
theorem oU {m:List Dt}{i:Nat}(h:i<m.length):bX m i=m[i]:=by
 unfold bX;rw [List.getD_eq_getElem?_getD,List.getElem?_eq_getElem h];rfl
theorem aEX (m:List Dt){i o:Nat}(hi:i<m.length)(ho:o=i*5):nW (flat rN.fl m) o 5=some [iv (bX m i).dx,iv (bX m i).dy,iv (bX m i).no,iv (bX m i).fr,iv (bX m i).tt]:=by
 rw [oU hi];exact qB rN m hi ho
def eL (d:Dt):Pt:=(d.dx,d.dy)
theorem SF (m:List Dt){i o:Nat}(hi:i<m.length)(ho:o=i*5):nW (flat rN.fl m) o 2=some [iv (eL (bX m i)).1,iv (eL (bX m i)).2]:=by
 have h1:nth (flat rN.fl m) o=some (iv (bX m i).dx):=by
  rw [oU hi];exact kL rN m hi (k:=0) rfl (by decide) (by rw [ho];rfl)
 have h2:nth (flat rN.fl m) (o+1)=some (iv (bX m i).dy):=by
  rw [oU hi];exact kL rN m hi (k:=1) rfl (by decide) (by rw [ho];rfl)
 simp only [nW,h1,h2];rfl
def n9 (h:Heap)(p:Nat)(D:List Dt):Prop:=∃ b c k0 k1 wr g sz r0 wr1 g1 sz1 r1 wr2 g2 sz2 cs n0 c0 n1 c1 F cc,
 look h p=some (.cells wr g sz (.pointer (some ⟨b,0,none⟩)::r0)) ∧
 look h b=some (.cells wr1 g1 sz1 (.slice (some ⟨k0,0,none⟩) n0 c0::.slice (some ⟨k1,0,none⟩) n1 c1::iv F::.slice (some ⟨c,0,none⟩) D.length cc::r1)) ∧
 look h c=some (.cells wr2 g2 sz2 cs)∧cs.take (flat rN.fl D).length=flat rN.fl D
def fJ (D:List Dt):Bool:=D.all fun d=>wide (eL d)
def ZN (D:List Dt)(x y:Int):Int:=QQ (eL (bX D x.toNat)) (eL (bX D y.toNat))
def sZ (D:List Dt)(x y:Int):Bool:=decide (0≤x)&&decide (x<D.length)&&(decide (0≤y)&&decide (y<D.length))&&fJ D
def TD:Nat × XF:=(209,fun args h nx K=>∃ x y p D,args=[iv x,iv y,.pointer (some ⟨p,0,none⟩)]∧n9 h p D∧dI (sZ D x y) (K (iv (ZN D x y)) h nx))
def aF5 (D:List Dt)(n0 c0 n1 c1:Nat)(F:Int)(cc:Nat):Heap:=[(0,.cells false false 1 [.pointer (some ⟨1,0,none⟩)]),(1,.cells false false 1 [.slice (some ⟨3,0,none⟩) n0 c0,.slice (some ⟨4,0,none⟩) n1 c1,iv F,.slice (some ⟨2,0,none⟩) D.length cc]),(2,.cells false true 5 (flat rN.fl D))]
def aKY (p b c k0 k1:Nat):Nat→Nat
 |0=>p
 |1=>b
 |2=>c
 |3=>k0
 |_=>k1
theorem aFF {h:Heap}{p nx:Nat}{D:List Dt}(hd:n9 h p D)(x y:Int):∃ n0 c0 n1 c1 F cc,In [iv x,iv y,.pointer (some ⟨0,0,none⟩)] (aF5 D n0 c0 n1 c1 F cc) 5 [iv x,iv y,.pointer (some ⟨p,0,none⟩)] h nx:=by
 obtain⟨b,c,k0,k1,wr,g,sz,r0,wr1,g1,sz1,r1,wr2,g2,sz2,cs,n0,c0,n1,c1,F,cc,h1,h2,h3,h4⟩:=hd;refine⟨n0,c0,n1,c1,F,cc,wQ (aKY p b c k0 k1) rfl ?_ ?_⟩
 ·refine List.forall_mem_cons.2 ⟨bU rfl,List.forall_mem_cons.2 ⟨bU rfl,List.forall_mem_cons.2 ⟨⟨by decide,rfl⟩,fun _ h=>by cases h⟩⟩⟩
 ·intro k o hk;unfold aF5 at hk;rw [aE] at hk;split at hk
  ·rename_i hb;injection hk with hk;subst hk;rw [← beq_true hb]
   refine⟨by decide,false,1,_,rfl,by decide,(fun h=>by cases h),List.forall_mem_cons.2 ⟨⟨by decide,rfl⟩,fun _ h=>by cases h⟩,wr,g,sz,_,h1,rfl⟩
  rw [aE] at hk;split at hk
  ·rename_i hb;injection hk with hk;subst hk;rw [← beq_true hb]
   refine⟨by decide,false,1,_,rfl,by decide,(fun h=>by cases h),?_,wr1,g1,sz1,_,h2,rfl⟩;refine List.forall_mem_cons.2 ⟨⟨by decide,fun h=>by cases h⟩,List.forall_mem_cons.2 ⟨⟨by decide,fun h=>by cases h⟩,List.forall_mem_cons.2 ⟨cR rfl,List.forall_mem_cons.2 ⟨⟨by decide,fun h=>by cases h⟩,fun _ h=>by cases h⟩⟩⟩⟩
  rw [aE] at hk;split at hk
  ·rename_i hb;injection hk with hk;subst hk;rw [← beq_true hb]
   exact⟨by decide,true,5,_,rfl,by decide,fun _=>aI rN D,fun v hv=>cR (a8 (aI rN D) hv),wr2,g2,sz2,cs,h3,by rw [h4];exact (bZ (aI rN D)).symm⟩
  ·exact bS hk
theorem aEJ:cJ Go.Proofs.Tryz.prog TD.1 TD.2:=by
 refine (gF (S:=fun args0 h0 n0 v1 h1 m=>∃ x y D n1 c1 n2 c2 F cc,sZ D x y=true∧args0=[iv x,iv y,.pointer (some ⟨0,0,none⟩)]∧h0=aF5 D n1 c1 n2 c2 F cc∧n0=5∧v1=iv (ZN D x y)∧h1=[]∧m=0) (aK (xl:=[aFQ]) (.cons aJD .nil)) ?_).mono ?_ ?_
 ·rintro args0 h0 n0 v1 h1 m ⟨x,y,D,n1,c1,n2,c2,F,cc,hok,rfl,rfl,rfl,rfl,rfl,rfl⟩;refine⟨rfl,fun u _ _=>u=iv (ZN D x y),?_,fun v h nx e=>by rw [e];exact kK rfl⟩;simp only [sZ,Bool.and_eq_true,decide_eq_true_eq] at hok;obtain⟨⟨⟨h0,h1⟩,h2,h3⟩,hw⟩:=hok;have wx:wide (eL (bX D x.toNat))=true:=by
   rw [oU (by omega)];exact List.all_eq_true.1 hw _ (List.getElem_mem _)
  have wy:wide (eL (bX D y.toNat))=true:=by
   rw [oU (by omega)];exact List.all_eq_true.1 hw _ (List.getElem_mem _)
  ((conv=>whnf);refine bm (fun a1=>?_) (fun a1=>?_))
  ·(conv=>whnf);refine mR (SF D (i:=x.toNat) (by omega) ?_) ?_
   ·show _+Int.toNat x*5=_;omega
   ((conv=>whnf);refine bm (fun a2=>?_) (fun a2=>?_))
   ·(conv=>whnf);refine mR (SF D (i:=y.toNat) (by omega) ?_) ?_
    ·show _+Int.toNat y*5=_;omega
    ((conv=>whnf);refine bm (fun a3=>?_) (fun a3=>?_))
    ·(conv=>whnf);rfl
    ·exfalso;have a3:(wide (eL (bX D x.toNat))&&wide (eL (bX D y.toNat)))=false:=a3;rw [wx,wy] at a3;cases a3
   ·exfalso;simp [aA,aB] at a2;omega
  ·exfalso;simp [aA,aB] at a1;omega
 ·rintro args h nx K ⟨x,y,p,D,rfl,hd,hx⟩;obtain⟨hb,hx⟩:=aG.1 hx;obtain⟨n0,c0,n1,c1,F,cc,i⟩:=aFF (nx:=nx) hd x y;refine⟨_,_,5,_,[],0,⟨x,y,D,n0,c0,n1,c1,F,cc,hb,rfl,rfl,rfl,rfl,rfl,rfl⟩,i,?_⟩;exact hx
 ·rintro args h nx K ⟨x,y,p,D,rfl,hd,hx⟩;obtain⟨hb,hx⟩:=aG.1 hx;exact⟨_,_,_,hx,fun K' hk'=>⟨x,y,p,D,rfl,hd,aJ hb hk'⟩⟩
end Go.Aw
end

noncomputable section
namespace Go.Aw
open Go.RowKit
section
variable {α:Type}(E:El α)
theorem aAd {ι ι':Nat→Loc}{B:Nat}{w:World}{sz:Nat}{cs:List Value}{loc:Loc}(hg:c9 cs=true)(h:j9 ι B w (.cells true false sz cs) loc):j9 ι' B w (.cells true false sz cs) loc:=by
 cases loc with
 |nil p=>exact h
 |lay b o e =>
  obtain⟨x1,x2,arr,t,x3,x4,x5⟩:=h;refine⟨x1,x2,arr,t,x3,x4,fun i v hv=>?_⟩;rw [x5 i v hv,lL (a8 hg (List.mem_of_getElem? hv)),lL (a8 hg (List.mem_of_getElem? hv))]
end
end Go.Aw
end
