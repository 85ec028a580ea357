/-
  Parts of the proof, put together. No condition.
-/
import Derived.Test.YtjahkcbdecgbhaaGreatQAy
set_option linter.unusedSimpArgs false
set_option linter.unusedVariables false
noncomputable section
namespace Go.Aw
set_option maxRecDepth 100000
theorem nT {l:List Pt}{m:List Ed}{i:Nat}{ed:Ed}(hed:cN m i=ed)(h:¬ (0≤ed.a∧ed.a<ed.b∧ed.b<l.length∧-1≤ed.n∧ed.n<200)):HG l m i=false:=by
 cases hb:HG l m i with
 |false=>rfl
 |true =>
  rw [HG,hed] at hb;simp only [Bool.and_eq_true,decide_eq_true_eq] at hb;exact absurd ⟨hb.1.1.1.1.1,hb.1.1.1.1.2,hb.1.1.1.2,hb.1.1.2,hb.1.2⟩ h
theorem QY {l:List Pt}{m:List Ed}{i:Nat}{ed d:Ed}(hed:cN m i=ed)(hd:cN m (i - 1)=d)(hi:i≠0)(h:bfE d ed=false):HG l m i=false:=by
 rw [HG,hed,hd,h,decide_eq_false hi,Bool.or_false,Bool.and_false]
theorem yZ {l:List Pt}{m:List Ed}{i:Nat}{ed:Ed}(hed:cN m i=ed)(h:0≤ed.a∧ed.a<ed.b∧ed.b<l.length∧-1≤ed.n∧ed.n<200)(ho:(decide (i=0) || bfE (cN m (i - 1)) ed)=true):HG l m i=true:=by
 rw [HG,hed,ho];simp only [Bool.and_eq_true,decide_eq_true_eq,and_true];omega
def plS (l:List Pt)(m:List Ed)(n:Int):List Value→Option (Bool × Value)
 |[]=>some (decide (l.length≤1000)&&decide (m.length≤1000),.bool (iA l m n))
 |_=>none
theorem aCY {l:List Pt}{m:List Ed}{n:Int}{r:List Value}{v:Value}(h:plS l m n r=some (true,v)):r=[]∧l.length≤1000∧m.length≤1000∧v=.bool (iA l m n):=by
 unfold plS at h;split at h
 ·injection h with h;injection h with h1 h2;simp only [Bool.and_eq_true,decide_eq_true_eq] at h1;exact⟨rfl,h1.1,h1.2,h2.symm⟩
 ·cases h
def GQ (s:Value)(j:Int):List (Nat × Value):=[(1,.pointer (some ⟨2,0,none⟩)),(3,s),(4,iv j)]
def UG (z:Int):List (Nat × Value):=[(1,.pointer (some ⟨2,0,none⟩)),(3,.slice none 0 0),(6,iv z)]
def vK (N:Nat)(j:Int):List (Nat × Value):=[(1,.pointer (some ⟨2,0,none⟩)),(3,.slice (some ⟨3,0,none⟩) N N),(6,iv j)]
def I7 (N:Nat)(j:Int):List (Nat × Value):=[(1,.pointer (some ⟨2,0,none⟩)),(3,.slice (some ⟨3,0,none⟩) N N),(9,iv j)]
def sY (j:Int):List (Nat × Value):=[(1,.pointer (some ⟨2,0,none⟩)),(10,iv j)]
def BI (j k:Int):List (Nat × Value):=(11,iv k)::sY j
def aBb:Nat × XF:=(156,mX aP aR plS)
theorem aHO:cJ Go.Proofs.Tryz.prog aBb.1 aBb.2:=sS aP aR (aK (xl:=[X18,aGg,aCo,X25]) (.cons x18 (.cons aK1 (.cons aHS (.cons x25 .nil))))) fun l m n r v hs=>by
 obtain⟨rfl,hl,hm,rfl⟩:=aCY hs;clear hs;refine⟨rfl,rfl,fun c1 c2=>?_⟩;have hszf:¬ (l.length≤400∧3≤m.length∧m.length≤400∧1≤n∧n≤100)→iA l m n=false:=fun h=>aFK (by
  cases hz:WO l m n with
  |false=>rfl
  |true=>simp only [WO,Bool.and_eq_true,decide_eq_true_eq] at hz;exact absurd ⟨hz.1.1.1.1,hz.1.1.1.2,hz.1.1.2,hz.1.2,hz.2⟩ h)
 ((conv=>whnf);refine bm (fun a1=>?_) (fun a1=>?_))
 ·have a1:¬ 400<l.length:=(by simp [aA,aB] at a1;omega);((conv=>whnf);refine bm (fun a2=>?_) (fun a2=>?_))
  ·have a2:¬ m.length<3:=(by simp [aA,aB] at a2;omega);((conv=>whnf);refine bm (fun a3=>?_) (fun a3=>?_))
   ·have a3:¬ 400<m.length:=(by simp [aA,aB] at a3;omega);((conv=>whnf);refine bm (fun a4=>?_) (fun a4=>?_))
    ·have a4:¬ n<1:=(by simp [aA,aB] at a4;omega);((conv=>whnf);refine bm (fun a5=>?_) (fun a5=>?_))
     ·have a5:100<n:=(by simp [aA,aB] at a5;omega);(conv=>whnf);rw [hszf (by omega)]
     ·have a5:¬ 100<n:=(by simp [aA,aB] at a5;omega);have hsz:WO l m n=true:=by
       simp only [WO,Bool.and_eq_true,decide_eq_true_eq];omega
      clear hszf;(conv=>whnf)
      refine⟨fun q e h nx=>∃ (i:Nat) (j:Int),j=i∧i≤l.length∧q=l.length - i∧(∀ t,t<i→CK l t=true) ∧
       ((i=0∧e=GQ (.slice none 0 0) j∧h=cG l m c1 c2 n∧nx=3)∨(0<i∧e=GQ (.slice (some ⟨3,0,none⟩) i i) j∧h=bJ l m c1 c2 n (List.replicate i false)∧nx=4)),⟨l.length,?_⟩,?_⟩
      ·refine aL (e0:=GQ (.slice none 0 0) 0) (h0:=cG l m c1 c2 n) (n0:=3) ⟨0,0,rfl,Nat.zero_le _,rfl,fun t ht=>absurd ht (Nat.not_lt_zero t),.inl ⟨rfl,rfl,rfl,rfl⟩⟩ ?_ ?_ (by decide)
       ·unfold GQ;((repeat' refine iE rfl rfl ?_);exact iN)
       ·unfold cG aW aC;((repeat'(first|refine iF rfl rfl ?_|refine iC rfl rfl rfl ?_|refine iJ rfl rfl rfl rfl ?_));exact iN)
      ·rintro q e h nx ⟨i,j,hj,hi,rfl,hpt,⟨hi0,rfl,rfl,rfl⟩|⟨hip,rfl,rfl,rfl⟩⟩
       ·subst hi0;unfold GQ cG aW aC;((conv=>whnf);refine bm (fun b1=>?_) (fun b1=>?_))
        ·have hlt:0<l.length:=(by simp [aA,aB] at b1;omega);((conv=>whnf);refine bm (fun b2=>?_) (fun b2=>?_))
         ·(conv=>whnf);refine mR (jE l (i:=0) hlt ?_) ?_
          ·show _+Int.toNat j*2=_;omega
          ((conv=>whnf);refine bm (fun b3=>?_) (fun b3=>?_))
          ·have hr:aX (dL l 0)=true:=(by simpa [aA,aB] using b3);((conv=>whnf);refine bm (fun b4=>?_) (fun b4=>?_))
           ·exfalso;simp [aA,aB] at b4;omega
           ·((conv=>whnf);refine bm (fun b5=>?_) (fun b5=>?_))
            ·(conv=>whnf);refine⟨l.length - 1,by omega,?_⟩
             refine gC (e0:=GQ (.slice (some ⟨3,0,none⟩) 1 1) (j+1)) (h0:=bJ l m c1 c2 n [false]) (n0:=4) 3 4 (by decide) (by decide)
              ⟨1,j+1,by omega,by omega,rfl,fun t ht=>by rw [show t=0 by omega,CK,hr];rfl,.inr ⟨Nat.one_pos,rfl,rfl,rfl⟩⟩ ?_ ?_ ?_
             ·unfold GQ;((repeat' refine iE rfl rfl ?_);exact iN)
             ·unfold bJ cG aW aC;((repeat'(first|refine iF rfl rfl ?_|refine iC rfl rfl rfl ?_|refine iJ rfl rfl rfl rfl ?_));exact iN)
             ·unfold bJ cG aC;((repeat' refine iK rfl ?_);exact iN)
            ·exfalso;simp [aA,aB,aH] at b5;omega
          ·have hr:aX (dL l 0)=false:=(by simpa [aA,aB] using b3);(conv=>whnf);rw [QT hlt (show CK l 0=false by rw [CK,hr];rfl)]
         ·exfalso;simp [aA,aB] at b2;omega
        ·have h0:l.length=0:=(by simp [aA,aB] at b1;omega);have hno:∀ ed,cN m 0=ed→HG l m 0=false:=fun ed hed=>nT hed (by omega);(conv=>whnf);refine⟨fun q e h nx=>∃ z:Int,z=0∧e=UG z∧h=cG l m c1 c2 n∧nx=3,⟨0,?_⟩,?_⟩
         ·refine aL (e0:=UG 0) (h0:=cG l m c1 c2 n) (n0:=3) ⟨0,rfl,rfl,rfl,rfl⟩ ?_ ?_ (by decide)
          ·unfold UG;((repeat' refine iE rfl rfl ?_);exact iN)
          ·unfold cG aW aC;((repeat'(first|refine iF rfl rfl ?_|refine iC rfl rfl rfl ?_|refine iJ rfl rfl rfl rfl ?_));exact iN)
         ·rintro q e h nx ⟨z,hz,rfl,rfl,rfl⟩;unfold UG cG aW aC;((conv=>whnf);refine bm (fun d1=>?_) (fun d1=>?_))
          ·((conv=>whnf);refine bm (fun d2=>?_) (fun d2=>?_))
           ·(conv=>whnf);refine mR (A4 m (i:=0) (by omega) ?_) ?_
            ·show _+Int.toNat z*5=_;omega
            generalize hed:cN m 0=ed;have hbad:=hno ed hed;((conv=>whnf);refine bm (fun f1=>?_) (fun f1=>?_))
            ·((conv=>whnf);refine bm (fun f2=>?_) (fun f2=>?_))
             ·((conv=>whnf);refine bm (fun f3=>?_) (fun f3=>?_))
              ·exfalso;simp [aA,aB] at f1 f2 f3;omega
              ·(conv=>whnf);rw [oT (by omega) hbad]
             ·(conv=>whnf);rw [oT (by omega) hbad]
            ·(conv=>whnf);rw [oT (by omega) hbad]
           ·exfalso;simp [aA,aB] at d2;omega
          ·exfalso;simp [aA,aB] at d1;omega
       ·unfold GQ bJ cG aW aC;((conv=>whnf);refine bm (fun b1=>?_) (fun b1=>?_))
        ·have hlt:i<l.length:=(by simp [aA,aB] at b1;omega);have hll:(flat fT.fl (List.replicate i false)).length=i:=(by rw [bF,List.length_replicate];exact Nat.mul_one _);((conv=>whnf);refine bm (fun b0=>?_) (fun b0=>?_))
         ·exfalso;have:=Nat.le_of_ble_eq_true b0;omega
         ·((conv=>whnf);refine bm (fun b00=>?_) (fun b00=>?_))
          ·((conv=>whnf);refine bm (fun b2=>?_) (fun b2=>?_))
           ·(conv=>whnf);refine mR (jE l (i:=i) hlt ?_) ?_
            ·show _+Int.toNat j*2=_;omega
            ((conv=>whnf);refine bm (fun b3=>?_) (fun b3=>?_))
            ·have hr:aX (dL l i)=true:=(by simpa [aA,aB] using b3);((conv=>whnf);refine bm (fun b4=>?_) (fun b4=>?_))
             ·((conv=>whnf);refine bm (fun b5=>?_) (fun b5=>?_))
              ·((conv=>whnf);refine bm (fun b6=>?_) (fun b6=>?_))
               ·(conv=>whnf);refine mR (jE l (i:=i - 1) (by omega) ?_) ?_
                ·show _+Int.toNat (j - 1)*2=_;omega
                ((conv=>whnf);refine bm (fun b7=>?_) (fun b7=>?_))
                ·(conv=>whnf);refine mR (jE l (i:=i) hlt ?_) ?_
                 ·show _+Int.toNat j*2=_;omega
                 ((conv=>whnf);refine bm (fun b8=>?_) (fun b8=>?_))
                 ·have b8:fP (dL l (i - 1)) (dL l i)=false:=(by simpa [aA,aB] using b8);(conv=>whnf);rw [QT hlt (show CK l i=false by rw [CK,hr,b8,decide_eq_false (show ¬ i=0 by omega)];rfl)]
                 ·have b8:fP (dL l (i - 1)) (dL l i)=true:=(by simpa [aA,aB] using b8);((conv=>whnf);refine bm (fun b9=>?_) (fun b9=>?_))
                  ·(conv=>whnf);refine⟨l.length - (i+1),by omega,?_⟩
                   refine gC (e0:=GQ (.slice (some ⟨3,0,none⟩) (i+1) (i+1)) (j+1)) (h0:=bJ l m c1 c2 n (List.replicate i false++[false])) (n0:=4) 3 5 (by decide) (by decide)
                    ⟨i+1,j+1,by omega,by omega,rfl,fun t ht=>?_,.inr ⟨Nat.succ_pos _,rfl,by rw [List.replicate_succ'];rfl,rfl⟩⟩ ?_ ?_ ?_
                   ·by_cases hti:t=i
                    ·rw [hti,CK,hr,b8];simp
                    ·exact hpt t (by omega)
                   ·unfold GQ;((repeat' refine iE rfl rfl ?_);exact iN)
                   ·unfold bJ cG aW aC;((repeat'(first|refine iW rfl rfl (bD (aI fT _) (fA fT (List.replicate i false) false (by rw [List.length_replicate]))) ?_|refine iF rfl rfl ?_|refine iC rfl rfl rfl ?_|refine iJ rfl rfl rfl rfl ?_));exact iN)
                   ·unfold bJ cG aC;((repeat' refine iK rfl ?_);exact iN)
                  ·exfalso;simp [aA,aB,aH] at b9;omega
                ·exfalso;simp [aA,aB] at b7;omega
               ·exfalso;simp [aA,aB] at b6;omega
              ·exfalso;simp [aA,aB,aH] at b5;omega
             ·exfalso;simp [aA,aB] at b4;omega
            ·have hr:aX (dL l i)=false:=(by simpa [aA,aB] using b3);(conv=>whnf);rw [QT hlt (show CK l i=false by rw [CK,hr];rfl)]
           ·exfalso;simp [aA,aB] at b2;omega
          ·exact oZ (s:=1) (by omega) (by omega) b00
        ·have hge:i=l.length:=(by simp [aA,aB] at b1;omega);subst hge;clear b1 hi hip hj;(conv=>whnf);refine⟨fun q e h nx=>∃ (i:Nat) (j:Int),j=i∧i≤m.length∧q=m.length - i∧(∀ t,t<i→HG l m t=true)∧e=vK l.length j∧h=bJ l m c1 c2 n (mN m (List.replicate l.length false) i)∧nx=4,⟨m.length,?_⟩,?_⟩
         ·refine aL (e0:=vK l.length 0) (h0:=bJ l m c1 c2 n (List.replicate l.length false)) (n0:=4) ⟨0,0,rfl,Nat.zero_le _,rfl,fun t ht=>absurd ht (Nat.not_lt_zero t),rfl,rfl,rfl⟩ ?_ ?_ (by decide)
          ·unfold vK;((repeat' refine iE rfl rfl ?_);exact iN)
          ·unfold bJ cG aW aC;((repeat'(first|refine iF rfl rfl ?_|refine iC rfl rfl rfl ?_|refine iJ rfl rfl rfl rfl ?_));exact iN)
         ·rintro q e h nx ⟨i,j,hj,hi,rfl,hed0,rfl,rfl,rfl⟩;have rl:(mN m (List.replicate l.length false) i).length=l.length:=(by rw [x6,List.length_replicate]);have nxt:mN m (List.replicate l.length false) (i+1)=((mN m (List.replicate l.length false) i).set (cN m i).a.toNat true).set (cN m i).b.toNat true:=rfl;generalize hs0:mN m (List.replicate l.length false) i=s at rl nxt;have hsl:(flat fT.fl s).length=l.length:=(by rw [bF,rl];exact Nat.mul_one _);unfold vK bJ cG aW aC;((conv=>whnf);refine bm (fun d1=>?_) (fun d1=>?_))
          ·have hlt:i<m.length:=(by simp [aA,aB] at d1;omega);((conv=>whnf);refine bm (fun d2=>?_) (fun d2=>?_))
           ·(conv=>whnf);refine mR (A4 m (i:=i) hlt ?_) ?_
            ·show _+Int.toNat j*5=_;omega
            generalize hed:cN m i=ed at nxt;((conv=>whnf);refine bm (fun f1=>?_) (fun f1=>?_))
            ·have f1:0≤ed.a:=(by simp [aA,aB] at f1;omega);((conv=>whnf);refine bm (fun f2=>?_) (fun f2=>?_))
             ·have f2:ed.a<ed.b:=(by simp [aA,aB] at f2;omega);((conv=>whnf);refine bm (fun f3=>?_) (fun f3=>?_))
              ·have f3:ed.b<l.length:=(by simp [aA,aB] at f3;omega);((conv=>whnf);refine bm (fun f4=>?_) (fun f4=>?_))
               ·have f4 : -1≤ed.n:=(by simp [aA,aB] at f4;omega);((conv=>whnf);refine bm (fun f5=>?_) (fun f5=>?_))
                ·have f5:200≤ed.n:=(by simp [aA,aB] at f5;omega);(conv=>whnf);rw [oT hlt (nT hed (by omega))]
                ·have f5:ed.n<200:=(by simp [aA,aB] at f5;omega);((conv=>whnf);refine bm (fun f6=>?_) (fun f6=>?_))
                 ·have f6:0<i:=(by simp [aA,aB] at f6;omega);((conv=>whnf);refine bm (fun f7=>?_) (fun f7=>?_))
                  ·((conv=>whnf);refine bm (fun f8=>?_) (fun f8=>?_))
                   ·(conv=>whnf);refine mR (A4 m (i:=i - 1) (by omega) ?_) ?_
                    ·show _+Int.toNat (j - 1)*5=_;omega
                    generalize hd0:cN m (i - 1)=dd;((conv=>whnf);refine bm (fun f9=>?_) (fun f9=>?_))
                    ·have f9:¬ ed.a<dd.a:=(by simp [aA,aB] at f9;omega);((conv=>whnf);refine bm (fun f10=>?_) (fun f10=>?_))
                     ·have f10:dd.a=ed.a:=(by simpa [aA,aB] using f10);((conv=>whnf);refine bm (fun f11=>?_) (fun f11=>?_))
                      ·have f11:ed.b≤dd.b:=(by simp [aA,aB] at f11;omega);(conv=>whnf);rw [oT hlt (QY hed hd0 (by omega) (by unfold bfE;simp;omega))]
                      ·have f11:dd.b<ed.b:=(by simp [aA,aB] at f11;omega);have hyes:HG l m i=true:=yZ hed ⟨f1,f2,f3,f4,f5⟩ (by rw [hd0];unfold bfE;simp;omega);((conv=>whnf);refine bm (fun k1=>?_) (fun k1=>?_))
                       ·((conv=>whnf);refine bm (fun k2=>?_) (fun k2=>?_))
                        ·((conv=>whnf);refine bm (fun k3=>?_) (fun k3=>?_))
                         ·((conv=>whnf);refine bm (fun k4=>?_) (fun k4=>?_))
                          ·((conv=>whnf);refine bm (fun k5=>?_) (fun k5=>?_))
                           ·(conv=>whnf);refine⟨m.length - (i+1),by omega,?_⟩;refine aL (e0:=vK l.length (j+1)) (h0:=bJ l m c1 c2 n (mN m (List.replicate l.length false) (i+1))) (n0:=4) ⟨i+1,j+1,by omega,by omega,rfl,fun t ht=>?_,rfl,rfl,rfl⟩ ?_ ?_ (by decide)
                            ·by_cases hti:t=i
                             ·rw [hti];exact hyes
                             ·exact hed0 t (by omega)
                            ·unfold vK;((repeat' refine iE rfl rfl ?_);exact iN)
                            ·unfold bJ cG aW aC;have bV:=Q5 (s:=s) (a:=ed.a.toNat) (b:=ed.b.toNat) (o1:=0+ed.a.toNat*1) (o2:=0+ed.b.toNat*1) (by omega) (by omega) (by omega) (by omega);rw [nxt];((repeat'(first|refine iW rfl rfl (bD (aI fT _) bV) ?_|refine iF rfl rfl ?_|refine iC rfl rfl rfl ?_|refine iJ rfl rfl rfl rfl ?_));exact iN)
                           ·exfalso;simp [aA,aB,aH] at k5;omega
                          ·have hpl:(dM (flat fT.fl s) (0+ed.a.toNat*1) [.bool true]).length=l.length:=(by rw [dC (by rw [hsl];show 0+ed.a.toNat*1+1≤l.length;omega)];exact hsl);have k4:(0+ed.b.toNat*1+1).ble (dM (flat fT.fl s) (0+ed.a.toNat*1) [.bool true]).length=false:=k4;rw [hpl] at k4;exact eP k4 (by omega)
                         ·exfalso;simp [aA,aB] at k3;omega
                        ·rw [hsl] at k2;exact eP k2 (by show 0+ed.a.toNat*1+1≤l.length;omega)
                       ·exfalso;simp [aA,aB] at k1;omega
                     ·have f10:¬ dd.a=ed.a:=(by simpa [aA,aB] using f10);have hyes:HG l m i=true:=yZ hed ⟨f1,f2,f3,f4,f5⟩ (by rw [hd0];unfold bfE;simp;omega);((conv=>whnf);refine bm (fun k1=>?_) (fun k1=>?_))
                      ·((conv=>whnf);refine bm (fun k2=>?_) (fun k2=>?_))
                       ·((conv=>whnf);refine bm (fun k3=>?_) (fun k3=>?_))
                        ·((conv=>whnf);refine bm (fun k4=>?_) (fun k4=>?_))
                         ·((conv=>whnf);refine bm (fun k5=>?_) (fun k5=>?_))
                          ·(conv=>whnf);refine⟨m.length - (i+1),by omega,?_⟩;refine aL (e0:=vK l.length (j+1)) (h0:=bJ l m c1 c2 n (mN m (List.replicate l.length false) (i+1))) (n0:=4) ⟨i+1,j+1,by omega,by omega,rfl,fun t ht=>?_,rfl,rfl,rfl⟩ ?_ ?_ (by decide)
                           ·by_cases hti:t=i
                            ·rw [hti];exact hyes
                            ·exact hed0 t (by omega)
                           ·unfold vK;((repeat' refine iE rfl rfl ?_);exact iN)
                           ·unfold bJ cG aW aC;have bV:=Q5 (s:=s) (a:=ed.a.toNat) (b:=ed.b.toNat) (o1:=0+ed.a.toNat*1) (o2:=0+ed.b.toNat*1) (by omega) (by omega) (by omega) (by omega);rw [nxt];((repeat'(first|refine iW rfl rfl (bD (aI fT _) bV) ?_|refine iF rfl rfl ?_|refine iC rfl rfl rfl ?_|refine iJ rfl rfl rfl rfl ?_));exact iN)
                          ·exfalso;simp [aA,aB,aH] at k5;omega
                         ·have hpl:(dM (flat fT.fl s) (0+ed.a.toNat*1) [.bool true]).length=l.length:=(by rw [dC (by rw [hsl];show 0+ed.a.toNat*1+1≤l.length;omega)];exact hsl);have k4:(0+ed.b.toNat*1+1).ble (dM (flat fT.fl s) (0+ed.a.toNat*1) [.bool true]).length=false:=k4;rw [hpl] at k4;exact eP k4 (by omega)
                        ·exfalso;simp [aA,aB] at k3;omega
                       ·rw [hsl] at k2;exact eP k2 (by show 0+ed.a.toNat*1+1≤l.length;omega)
                      ·exfalso;simp [aA,aB] at k1;omega
                    ·have f9:ed.a<dd.a:=(by simp [aA,aB] at f9;omega);(conv=>whnf);rw [oT hlt (QY hed hd0 (by omega) (by unfold bfE;simp;omega))]
                   ·exfalso;simp [aA,aB] at f8;omega
                  ·exfalso;simp [aA,aB,aH] at f7;omega
                 ·have f6:i=0:=(by simp [aA,aB] at f6;omega);have hyes:HG l m i=true:=yZ hed ⟨f1,f2,f3,f4,f5⟩ (by simp [f6]);((conv=>whnf);refine bm (fun k1=>?_) (fun k1=>?_))
                  ·((conv=>whnf);refine bm (fun k2=>?_) (fun k2=>?_))
                   ·((conv=>whnf);refine bm (fun k3=>?_) (fun k3=>?_))
                    ·((conv=>whnf);refine bm (fun k4=>?_) (fun k4=>?_))
                     ·((conv=>whnf);refine bm (fun k5=>?_) (fun k5=>?_))
                      ·(conv=>whnf);refine⟨m.length - (i+1),by omega,?_⟩;refine aL (e0:=vK l.length (j+1)) (h0:=bJ l m c1 c2 n (mN m (List.replicate l.length false) (i+1))) (n0:=4) ⟨i+1,j+1,by omega,by omega,rfl,fun t ht=>?_,rfl,rfl,rfl⟩ ?_ ?_ (by decide)
                       ·by_cases hti:t=i
                        ·rw [hti];exact hyes
                        ·exact hed0 t (by omega)
                       ·unfold vK;((repeat' refine iE rfl rfl ?_);exact iN)
                       ·unfold bJ cG aW aC;have bV:=Q5 (s:=s) (a:=ed.a.toNat) (b:=ed.b.toNat) (o1:=0+ed.a.toNat*1) (o2:=0+ed.b.toNat*1) (by omega) (by omega) (by omega) (by omega);rw [nxt];((repeat'(first|refine iW rfl rfl (bD (aI fT _) bV) ?_|refine iF rfl rfl ?_|refine iC rfl rfl rfl ?_|refine iJ rfl rfl rfl rfl ?_));exact iN)
                      ·exfalso;simp [aA,aB,aH] at k5;omega
                     ·have hpl:(dM (flat fT.fl s) (0+ed.a.toNat*1) [.bool true]).length=l.length:=(by rw [dC (by rw [hsl];show 0+ed.a.toNat*1+1≤l.length;omega)];exact hsl);have k4:(0+ed.b.toNat*1+1).ble (dM (flat fT.fl s) (0+ed.a.toNat*1) [.bool true]).length=false:=k4;rw [hpl] at k4;exact eP k4 (by omega)
                    ·exfalso;simp [aA,aB] at k3;omega
                   ·rw [hsl] at k2;exact eP k2 (by show 0+ed.a.toNat*1+1≤l.length;omega)
                  ·exfalso;simp [aA,aB] at k1;omega
               ·have f4:¬ -1≤ed.n:=(by simp [aA,aB] at f4;omega);(conv=>whnf);rw [oT hlt (nT hed (by omega))]
              ·have f3:¬ ed.b<l.length:=(by simp [aA,aB] at f3;omega);(conv=>whnf);rw [oT hlt (nT hed (by omega))]
             ·have f2:¬ ed.a<ed.b:=(by simp [aA,aB] at f2;omega);(conv=>whnf);rw [oT hlt (nT hed (by omega))]
            ·have f1:¬ 0≤ed.a:=(by simp [aA,aB] at f1;omega);(conv=>whnf);rw [oT hlt (nT hed (by omega))]
           ·exfalso;simp [aA,aB] at d2;omega
          ·have hge:i=m.length:=(by simp [aA,aB] at d1;omega);subst hge;clear d1 hi hj;have hM:oE l m=true:=LZ hl hm hpt hed0;(conv=>whnf);refine⟨fun q e h nx=>∃ (t:Nat) (z:Int),z=t∧t≤l.length∧q=l.length - t∧s.all id=(s.drop t).all id∧e=I7 l.length z∧h=bJ l m c1 c2 n s∧nx=4,⟨l.length,?_⟩,?_⟩
           ·refine aL (e0:=I7 l.length 0) (h0:=bJ l m c1 c2 n s) (n0:=4) ⟨0,0,rfl,Nat.zero_le _,rfl,rfl,rfl,rfl,rfl⟩ ?_ ?_ (by decide)
            ·unfold I7;((repeat' refine iE rfl rfl ?_);exact iN)
            ·unfold bJ cG aW aC;((repeat'(first|refine iF rfl rfl ?_|refine iC rfl rfl rfl ?_|refine iJ rfl rfl rfl rfl ?_));exact iN)
           ·rintro q e h nx ⟨t,z,hz,ht,rfl,hall,rfl,rfl,rfl⟩;unfold I7 bJ cG aW aC;((conv=>whnf);refine bm (fun h3=>?_) (fun h3=>?_))
            ·have htl:t<l.length:=(by simp [aA,aB] at h3;omega);have hd:s.drop t=cV s t::s.drop (t+1):=(by rw [rC (by omega)];exact List.drop_eq_getElem_cons (by omega));rw [hd,List.all_cons] at hall;((conv=>whnf);refine bm (fun h4=>?_) (fun h4=>?_))
             ·(conv=>whnf);refine fY (M7 s (i:=t) (by omega) ?_) ?_
              ·show _+Int.toNat z*1=_;omega
              ((conv=>whnf);refine bm (fun h5=>?_) (fun h5=>?_))
              ·have h5:cV s t=false:=(by simpa [aA,aB] using h5);(conv=>whnf);rw [aHe (by rw [hs0,hall,h5];rfl)]
              ·have h5:cV s t=true:=(by simpa [aA,aB] using h5);((conv=>whnf);refine bm (fun h6=>?_) (fun h6=>?_))
               ·(conv=>whnf);refine⟨l.length - (t+1),by omega,?_⟩;refine aL (e0:=I7 l.length (z+1)) (h0:=bJ l m c1 c2 n s) (n0:=4) ⟨t+1,z+1,by omega,by omega,rfl,by rw [hall,h5];rfl,rfl,rfl,rfl⟩ ?_ ?_ (by decide)
                ·unfold I7;((repeat' refine iE rfl rfl ?_);exact iN)
                ·unfold bJ cG aW aC;((repeat'(first|refine iF rfl rfl ?_|refine iC rfl rfl rfl ?_|refine iJ rfl rfl rfl rfl ?_));exact iN)
               ·exfalso;simp [aA,aB,aH] at h6;omega
             ·exfalso;simp [aA,aB] at h4;omega
            ·have hgt:t=l.length:=(by simp [aA,aB] at h3;omega);have hus:(mN m (List.replicate l.length false) m.length).all id=true:=by
              rw [hs0,hall,hgt,List.drop_eq_nil_of_le (by omega)];rfl
             have hlst:cY l m n=true:=by
              rw [cY,hsz,eS hpt,eS hed0,hus];rfl
             (conv=>whnf);refine⟨fun q e h nx=>∃ (i:Nat) (j:Int),j=i∧i≤m.length∧q=m.length - i∧(∀ t,t<i→∀ k,k<t→C5 l m t k=true)∧e=sY j∧h=cG l m c1 c2 n∧nx=4,⟨m.length,?_⟩,?_⟩
             ·refine aL (e0:=sY 0) (h0:=cG l m c1 c2 n) (n0:=4) ⟨0,0,rfl,Nat.zero_le _,rfl,fun t ht=>absurd ht (Nat.not_lt_zero t),rfl,rfl,rfl⟩ ?_ ?_ (by decide)
              ·unfold sY;((repeat' refine iE rfl rfl ?_);exact iN)
              ·unfold cG aW aC;((repeat'(first|refine iF rfl rfl ?_|refine iC rfl rfl rfl ?_|refine iJ rfl rfl rfl rfl ?_));exact iN)
             ·clear h3 hall ht hz hgt;rintro q e h nx ⟨i,j,hj,hi,rfl,hme,rfl,rfl,rfl⟩;unfold sY cG aW aC;((conv=>whnf);refine bm (fun h3=>?_) (fun h3=>?_))
              ·have hlt:i<m.length:=(by simp [aA,aB] at h3;omega);(conv=>whnf);refine⟨fun q e h nx=>∃ (k:Nat) (z:Int),z=k∧k≤i∧q=i - k∧(∀ t,t<k→C5 l m i t=true)∧e=BI j z∧h=cG l m c1 c2 n∧nx=4,⟨i,?_⟩,?_⟩
               ·refine aL (e0:=BI j 0) (h0:=cG l m c1 c2 n) (n0:=4) ⟨0,0,rfl,Nat.zero_le _,rfl,fun t ht=>absurd ht (Nat.not_lt_zero t),rfl,rfl,rfl⟩ ?_ ?_ (by decide)
                ·unfold BI sY;((repeat' refine iE rfl rfl ?_);exact iN)
                ·unfold cG aW aC;((repeat'(first|refine iF rfl rfl ?_|refine iC rfl rfl rfl ?_|refine iJ rfl rfl rfl rfl ?_));exact iN)
               ·rintro q e h nx ⟨k,z,hz,hk,rfl,hmk,rfl,rfl,rfl⟩;unfold BI sY cG aW aC;((conv=>whnf);refine bm (fun h4=>?_) (fun h4=>?_))
                ·have hkl:k<i:=(by simp [aA,aB] at h4;omega);have ej:j.toNat=i:=(by omega);have ez:z.toNat=k:=(by omega);(conv=>whnf);refine⟨l,m,aD aP rfl,aD aR rfl,?_⟩;((conv=>whnf);refine bm (fun h5=>?_) (fun h5=>?_))
                 ·(conv=>whnf);refine⟨l,m,aD aP rfl,aD aR rfl,?_⟩;((conv=>whnf);refine bm (fun h6=>?_) (fun h6=>?_))
                  ·(conv=>whnf);have em:fI (cC l m j.toNat) (cC l m z.toNat)=fI (cC l m i) (cC l m k):=(by rw [ej,ez]);((conv=>whnf);refine bm (fun h7=>?_) (fun h7=>?_))
                   ·have h7:¬ fI (cC l m i) (cC l m k)=0:=(by rw [← em];simpa [aA,aB] using h7);((conv=>whnf);refine bm (fun h8=>?_) (fun h8=>?_))
                    ·have h8:¬ fI (cC l m i) (cC l m k)=1:=(by rw [← em];simpa [aA,aB] using h8);(conv=>whnf);rw [aB3 hlt hkl (by rw [C5,decide_eq_false h7,decide_eq_false h8];rfl)]
                    ·have h8:fI (cC l m i) (cC l m k)=1:=(by rw [← em];simpa [aA,aB] using h8);have hyes:C5 l m i k=true:=(by rw [C5,decide_eq_true h8,Bool.or_true]);((conv=>whnf);refine bm (fun h9=>?_) (fun h9=>?_))
                     ·(conv=>whnf);refine⟨i - (k+1),by omega,?_⟩;refine aL (e0:=BI j (z+1)) (h0:=cG l m c1 c2 n) (n0:=4) ⟨k+1,z+1,by omega,by omega,rfl,fun t ht=>?_,rfl,rfl,rfl⟩ ?_ ?_ (by decide)
                      ·by_cases htk:t=k
                       ·rw [htk];exact hyes
                       ·exact hmk t (by omega)
                      ·unfold BI sY;((repeat' refine iE rfl rfl ?_);exact iN)
                      ·unfold cG aW aC;((repeat'(first|refine iF rfl rfl ?_|refine iC rfl rfl rfl ?_|refine iJ rfl rfl rfl rfl ?_));exact iN)
                     ·exfalso;simp [aA,aB,aH] at h9;omega
                   ·have h7:fI (cC l m i) (cC l m k)=0:=(by rw [← em];simpa [aA,aB] using h7);have hyes:C5 l m i k=true:=(by rw [C5,decide_eq_true h7,Bool.true_or]);((conv=>whnf);refine bm (fun h9=>?_) (fun h9=>?_))
                    ·(conv=>whnf);refine⟨i - (k+1),by omega,?_⟩;refine aL (e0:=BI j (z+1)) (h0:=cG l m c1 c2 n) (n0:=4) ⟨k+1,z+1,by omega,by omega,rfl,fun t ht=>?_,rfl,rfl,rfl⟩ ?_ ?_ (by decide)
                     ·by_cases htk:t=k
                      ·rw [htk];exact hyes
                      ·exact hmk t (by omega)
                     ·unfold BI sY;((repeat' refine iE rfl rfl ?_);exact iN)
                     ·unfold cG aW aC;((repeat'(first|refine iF rfl rfl ?_|refine iC rfl rfl rfl ?_|refine iJ rfl rfl rfl rfl ?_));exact iN)
                    ·exfalso;simp [aA,aB,aH] at h9;omega
                  ·exfalso;have h6:(oE l m&&(decide (0≤z)&&decide (z<m.length)))=false:=h6;rw [hM,decide_eq_true (show 0≤z by omega),decide_eq_true (show z<m.length by omega)] at h6;cases h6
                 ·exfalso;have h5:(oE l m&&(decide (0≤j)&&decide (j<m.length)))=false:=h5;rw [hM,decide_eq_true (show 0≤j by omega),decide_eq_true (show j<m.length by omega)] at h5;cases h5
                ·have hge:k=i:=(by simp [aA,aB] at h4;omega);((conv=>whnf);refine bm (fun h5=>?_) (fun h5=>?_))
                 ·(conv=>whnf);refine⟨m.length - (i+1),by omega,?_⟩;refine aL (e0:=sY (j+1)) (h0:=cG l m c1 c2 n) (n0:=4) ⟨i+1,j+1,by omega,by omega,rfl,fun t ht=>?_,rfl,rfl,rfl⟩ ?_ ?_ (by decide)
                  ·by_cases hti:t=i
                   ·rw [hti];exact fun k' hk'=>hmk k' (by omega)
                   ·exact hme t (by omega)
                  ·unfold sY;((repeat' refine iE rfl rfl ?_);exact iN)
                  ·unfold cG aW aC;((repeat'(first|refine iF rfl rfl ?_|refine iC rfl rfl rfl ?_|refine iJ rfl rfl rfl rfl ?_));exact iN)
                 ·exfalso;simp [aA,aB,aH] at h5;omega
              ·have hge:i=m.length:=(by simp [aA,aB] at h3;omega);(conv=>whnf);rw [iA,hlst,eS (fun i hi=>eS (hme i (by omega)))];rfl
    ·have a4:n<1:=(by simp [aA,aB] at a4;omega);(conv=>whnf);rw [hszf (by omega)]
   ·have a3:400<m.length:=(by simp [aA,aB] at a3;omega);(conv=>whnf);rw [hszf (by omega)]
  ·have a2:m.length<3:=(by simp [aA,aB] at a2;omega);(conv=>whnf);rw [hszf (by omega)]
 ·have a1:400<l.length:=(by simp [aA,aB] at a1;omega);(conv=>whnf);rw [hszf (by omega)]
theorem jX {l:List Pt}{m:List Ed}{n:Int}(h:cY l m n=true):oE l m=true∧3≤m.length∧1≤l.length∧l.length≤400∧m.length≤400∧1≤n∧n≤100:=by
 simp only [cY,Bool.and_eq_true] at h;obtain⟨h1,h2,h3,h4⟩:=h;simp only [WO,Bool.and_eq_true,decide_eq_true_eq] at h1;have hM:=LZ (l:=l) (m:=m) (by omega) (by omega) (fun i hi=>gG h2 hi) (fun i hi=>gG h3 hi);have:=rG hM (i:=0) (by omega);exact⟨hM,by omega,by omega,by omega,by omega,by omega,by omega⟩
theorem mI {l:List Pt}{m:List Ed}{n:Int}(h:iA l m n=true):cY l m n=true:=by
 simp only [iA,Bool.and_eq_true] at h;exact h.1
def faB (m:List Ed)(of:List Int)(i:Nat):Bool:=decide ((cN m i).l=aN of (2*i))&&decide ((cN m i).r=aN of (2*i+1))
def G8 (l:List Pt)(m:List Ed)(n:Int):Bool:=iA l m n&&(JG l m&&(KA (eC l m)&&(decide ((eC l m).faces=n)&&nU (faB m (eC l m).of) m.length)))
def vaS (l:List Pt)(m:List Ed)(n:Int):List Value→Option (Bool × Value)
 |[]=>some (decide (l.length≤1000)&&decide (m.length≤1000),.bool (G8 l m n))
 |_=>none
theorem aBT {l:List Pt}{m:List Ed}{n:Int}{r:List Value}{v:Value}(h:vaS l m n r=some (true,v)):r=[]∧l.length≤1000∧m.length≤1000∧v=.bool (G8 l m n):=by
 unfold vaS at h;split at h
 ·injection h with h;injection h with h1 h2;simp only [Bool.and_eq_true,decide_eq_true_eq] at h1;exact⟨rfl,h1.1,h1.2,h2.symm⟩
 ·cases h
def e70 (j:Int):List (Nat × Value):=[(1,.pointer (some ⟨2,0,none⟩)),(4,.pointer (some ⟨4,0,none⟩)),(5,iv j)]
def h70 (l:List Pt)(m:List Ed)(c1 c2:Nat)(n:Int)(of:List Int)(F:Int)(K:Bool):Heap:=(4,.cells true false 1 [.slice (some ⟨3,0,none⟩) of.length of.length,iv F,.bool K])::(3,.cells true false 1 (flat aO.fl of))::cG l m c1 c2 n
def aIM:Nat × XF:=(70,mX aP aR vaS)
theorem aJZ:cJ Go.Proofs.Tryz.prog aIM.1 aIM.2:=sS aP aR (aK (xl:=[aBb,aBo,aBu]) (.cons aHO (.cons aIn (.cons aI8 .nil)))) fun l m n r v hs=>by
 obtain⟨rfl,hl,hm,rfl⟩:=aBT hs;clear hs;refine⟨rfl,rfl,fun c1 c2=>?_⟩;(conv=>whnf);refine⟨l,m,aD aP rfl,aD aR rfl,?_⟩;((conv=>whnf);refine bm (fun a1=>?_) (fun a1=>?_))
 ·((conv=>whnf);refine bm (fun a2=>?_) (fun a2=>?_))
  ·have a2:iA l m n=false:=(by simpa [aA,aB] using a2);(conv=>whnf);rw [G8,a2];rfl
  ·have a2:iA l m n=true:=(by simpa [aA,aB] using a2);obtain⟨hM,h3,h1l,_⟩:=jX (mI a2);(conv=>whnf);refine⟨l,m,aD aP rfl,aD aR rfl,?_⟩;((conv=>whnf);refine bm (fun a3=>?_) (fun a3=>?_))
   ·(conv=>whnf);refine⟨_,_,_,[],l,m,rfl,aD aP rfl,aD aR rfl,?_⟩;((conv=>whnf);refine bm (fun a4=>?_) (fun a4=>?_))
    ·have flen:(eC l m).of.length=2*m.length:=uH l m _;have hval:G8 l m n=(JG l m&&(KA (eC l m)&&(decide ((eC l m).faces=n)&&nU (faB m (eC l m).of) m.length))):=(by rw [G8,a2,Bool.true_and]);rw [hval];generalize eC l m=st at flen;((conv=>whnf);refine bm (fun b1=>?_) (fun b1=>?_))
     ·have b1:JG l m=true:=(by simpa [aA,aB] using b1);((conv=>whnf);refine bm (fun b2=>?_) (fun b2=>?_))
      ·have b2:KA st=true:=(by simpa [aA,aB] using b2);((conv=>whnf);refine bm (fun b3=>?_) (fun b3=>?_))
       ·have b3:¬ st.faces=n:=(by simpa [aA,aB] using b3);(conv=>whnf);rw [b1,b2,decide_eq_false b3];rfl
       ·have b3:st.faces=n:=(by simpa [aA,aB] using b3);(conv=>whnf);rw [b1,b2,decide_eq_true b3,Bool.true_and,Bool.true_and,Bool.true_and];refine⟨fun q e h nx=>∃ (i:Nat) (j:Int),j=i∧i≤m.length∧q=m.length - i∧(∀ t,t<i→faB m st.of t=true)∧e=e70 j∧h=h70 l m c1 c2 n st.of st.faces true∧nx=5,⟨m.length,?_⟩,?_⟩
        ·refine aL (e0:=e70 0) (h0:=h70 l m c1 c2 n st.of st.faces true) (n0:=5) ⟨0,0,rfl,Nat.zero_le _,rfl,fun t ht=>absurd ht (Nat.not_lt_zero t),rfl,rfl,rfl⟩ ?_ ?_ (by decide)
         ·unfold e70;((repeat' refine iE rfl rfl ?_);exact iN)
         ·unfold h70 cG aW aC;((repeat'(first|refine iF rfl rfl ?_|refine iC rfl rfl rfl ?_|refine iJ rfl rfl rfl rfl ?_));exact iN)
        ·rintro q e h nx ⟨i,j,hj,hi,rfl,hfa,rfl,rfl,rfl⟩;unfold e70 h70 cG aW aC;((conv=>whnf);refine bm (fun d1=>?_) (fun d1=>?_))
         ·have hlt:i<m.length:=(by simp [aA,aB] at d1;omega);((conv=>whnf);refine bm (fun d2=>?_) (fun d2=>?_))
          ·(conv=>whnf);refine fY (B8 m 2 (i:=i) hlt rfl (by decide) ?_) ?_
           ·show _+Int.toNat j*5+2=_;omega
           ((conv=>whnf);refine bm (fun d3=>?_) (fun d3=>?_))
           ·((conv=>whnf);refine bm (fun d4=>?_) (fun d4=>?_))
            ·(conv=>whnf);refine fY (fR st.of (i:=2*i) (by omega) ?_) ?_
             ·show _+Int.toNat (2*j)*1=_;omega
             ((conv=>whnf);refine bm (fun d5=>?_) (fun d5=>?_))
             ·have d5:(cN m i).l=aN st.of (2*i):=(by simpa [aA,aB] using d5);((conv=>whnf);refine bm (fun d6=>?_) (fun d6=>?_))
              ·(conv=>whnf);refine fY (B8 m 3 (i:=i) hlt rfl (by decide) ?_) ?_
               ·show _+Int.toNat j*5+3=_;omega
               ((conv=>whnf);refine bm (fun d7=>?_) (fun d7=>?_))
               ·((conv=>whnf);refine bm (fun d8=>?_) (fun d8=>?_))
                ·((conv=>whnf);refine bm (fun d9=>?_) (fun d9=>?_))
                 ·(conv=>whnf);refine fY (fR st.of (i:=2*i+1) (by omega) ?_) ?_
                  ·show _+Int.toNat (2*j+1)*1=_;omega
                  ((conv=>whnf);refine bm (fun d10=>?_) (fun d10=>?_))
                  ·have d10:¬ (cN m i).r=aN st.of (2*i+1):=(by simpa [aA,aB] using d10);(conv=>whnf);rw [fD hlt (show faB m st.of i=false by rw [faB,decide_eq_false d10,Bool.and_false])]
                  ·have d10:(cN m i).r=aN st.of (2*i+1):=(by simpa [aA,aB] using d10);((conv=>whnf);refine bm (fun d11=>?_) (fun d11=>?_))
                   ·(conv=>whnf);refine⟨m.length - (i+1),by omega,?_⟩;refine aL (e0:=e70 (j+1)) (h0:=h70 l m c1 c2 n st.of st.faces true) (n0:=5) ⟨i+1,j+1,by omega,by omega,rfl,fun t ht=>?_,rfl,rfl,rfl⟩ ?_ ?_ (by decide)
                    ·by_cases hti:t=i
                     ·rw [hti,faB,decide_eq_true d5,decide_eq_true d10];rfl
                     ·exact hfa t (by omega)
                    ·unfold e70;((repeat' refine iE rfl rfl ?_);exact iN)
                    ·unfold h70 cG aW aC;((repeat'(first|refine iF rfl rfl ?_|refine iC rfl rfl rfl ?_|refine iJ rfl rfl rfl rfl ?_));exact iN)
                   ·exfalso;simp [aA,aB,aH] at d11;omega
                 ·exfalso;simp [aA,aB] at d9;omega
                ·exfalso;simp [aA,aB,aH] at d8;omega
               ·exfalso;simp [aA,aB,aH] at d7;omega
              ·exfalso;simp [aA,aB] at d6;omega
             ·have d5:¬ (cN m i).l=aN st.of (2*i):=(by simpa [aA,aB] using d5);(conv=>whnf);rw [fD hlt (show faB m st.of i=false by rw [faB,decide_eq_false d5,Bool.false_and])]
            ·exfalso;simp [aA,aB] at d4;omega
           ·exfalso;simp [aA,aB,aH] at d3;omega
          ·exfalso;simp [aA,aB] at d2;omega
         ·have hge:i=m.length:=(by simp [aA,aB] at d1;omega);(conv=>whnf);rw [eS (fun t ht=>hfa t (by omega))]
      ·have b2:KA st=false:=(by simpa [aA,aB] using b2);(conv=>whnf);rw [b1,b2];rfl
     ·have b1:JG l m=false:=(by simpa [aA,aB] using b1);(conv=>whnf);rw [b1];rfl
    ·exfalso;have a4:(oE l m&&decide (1≤m.length))=false:=a4;rw [hM,decide_eq_true (show 1≤m.length by omega)] at a4;cases a4
   ·exfalso;have a3:(oE l m&&decide (1≤l.length))=false:=a3;rw [hM,decide_eq_true h1l] at a3;cases a3
 ·exfalso;have a1:(decide (l.length≤1000)&&decide (m.length≤1000))=false:=a1;rw [decide_eq_true hl,decide_eq_true hm] at a1;cases a1
end Go.Aw
end
