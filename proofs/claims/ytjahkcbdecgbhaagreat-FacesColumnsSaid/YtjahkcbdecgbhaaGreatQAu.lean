/-
  Parts of a proof. No condition.
-/
import Derived.Test.YtjahkcbdecgbhaaGreatQAt
set_option linter.unusedSimpArgs false
set_option linter.unusedVariables false
noncomputable section
namespace Go.Aw
set_option maxRecDepth 100000
def aY (l:List Pt)(m:List Ed)(i:Nat):Sg:=(dS l (cC m i).a,dS l (cC m i).b)
def sgS:MS:=sMD fun l m _ d=>(kK l m&&(decide (0≤d)&&decide (d<m.length)),sgv (aY l m d.toNat))
def ZX:Nat × XF:=(74,mX aQ aU sgS)
theorem aFA:cO Go.Proofs.Tryz.prog ZX.1 ZX.2:=sY aQ aU (aL (xl:=[]) .nil) fun l m n r v hs=>by
 obtain⟨d,rfl,hd,rfl⟩:=DJ hs;clear hs;simp only [Bool.and_eq_true,decide_eq_true_eq] at hd;obtain⟨hM,h0,hd⟩:=hd;have he:=nB hM (i:=d.toNat) (by omega);refine⟨rfl,rfl,fun c1 c2=>?_⟩;((conv=>whnf);refine bm (fun h1=>?_) (fun h1=>?_))
 ·(conv=>whnf);refine iB (HU m 0 (i:=d.toNat) (by omega) rfl (by decide) ?_) ?_
  ·show _+Int.toNat d*5+0=_;omega
  ((conv=>whnf);refine bm (fun h2=>?_) (fun h2=>?_))
  ·(conv=>whnf);refine oA (jE l (i:=(cC m d.toNat).a.toNat) (by omega) ?_) ?_
   ·show _+Int.toNat (cC m d.toNat).a*2=_;omega
   ((conv=>whnf);refine bm (fun h3=>?_) (fun h3=>?_))
   ·(conv=>whnf);refine iB (HU m 1 (i:=d.toNat) (by omega) rfl (by decide) ?_) ?_
    ·show _+Int.toNat d*5+1=_;omega
    ((conv=>whnf);refine bm (fun h4=>?_) (fun h4=>?_))
    ·(conv=>whnf);refine oA (jE l (i:=(cC m d.toNat).b.toNat) (by omega) ?_) ?_
     ·show _+Int.toNat (cC m d.toNat).b*2=_;omega
     (conv=>whnf);rfl
    ·exfalso;simp [aA,aC] at h4;omega
   ·exfalso;simp [aA,aC] at h3;omega
  ·exfalso;simp [aA,aC] at h2;omega
 ·exfalso;simp [aA,aC] at h1;omega
def ZP:Nat × XF:=(98,mX aQ aU sgS)
theorem aIA:cO Go.Proofs.Tryz.prog ZP.1 ZP.2:=sY aQ aU (aL (xl:=[]) .nil) fun l m n r v hs=>by
 obtain⟨d,rfl,hd,rfl⟩:=DJ hs;clear hs;simp only [Bool.and_eq_true,decide_eq_true_eq] at hd;obtain⟨hM,h0,hd⟩:=hd;have he:=nB hM (i:=d.toNat) (by omega);refine⟨rfl,rfl,fun c1 c2=>?_⟩;((conv=>whnf);refine bm (fun h1=>?_) (fun h1=>?_))
 ·(conv=>whnf);refine iB (HU m 0 (i:=d.toNat) (by omega) rfl (by decide) ?_) ?_
  ·show _+Int.toNat d*5+0=_;omega
  ((conv=>whnf);refine bm (fun h2=>?_) (fun h2=>?_))
  ·(conv=>whnf);refine oA (jE l (i:=(cC m d.toNat).a.toNat) (by omega) ?_) ?_
   ·show _+Int.toNat (cC m d.toNat).a*2=_;omega
   ((conv=>whnf);refine bm (fun h3=>?_) (fun h3=>?_))
   ·(conv=>whnf);refine iB (HU m 1 (i:=d.toNat) (by omega) rfl (by decide) ?_) ?_
    ·show _+Int.toNat d*5+1=_;omega
    ((conv=>whnf);refine bm (fun h4=>?_) (fun h4=>?_))
    ·(conv=>whnf);refine oA (jE l (i:=(cC m d.toNat).b.toNat) (by omega) ?_) ?_
     ·show _+Int.toNat (cC m d.toNat).b*2=_;omega
     (conv=>whnf);rfl
    ·exfalso;simp [aA,aC] at h4;omega
   ·exfalso;simp [aA,aC] at h3;omega
  ·exfalso;simp [aA,aC] at h2;omega
 ·exfalso;simp [aA,aC] at h1;omega
end Go.Aw
end

noncomputable section
namespace Go.Aw
def mS (f:Nat→Bool)(n:Nat):Bool:=(List.range n).all f
theorem fF {f:Nat→Bool}{n i:Nat}(hi:i<n)(h:f i=false):mS f n=false:=by
 unfold mS;rw [List.all_eq_false];exact⟨i,List.mem_range.2 hi,by rw [h];exact Bool.false_ne_true⟩
theorem eS {f:Nat→Bool}{n:Nat}(h:∀ i,i<n→f i=true):mS f n=true:=by
 unfold mS;rw [List.all_eq_true];exact fun i hi=>h i (List.mem_range.1 hi)
theorem eV {f:Nat→Bool}{n i:Nat}(h:mS f n=true)(hi:i<n):f i=true:=List.all_eq_true.1 h i (List.mem_range.2 hi)
def B2 (l:List Pt)(i:Nat):Bool:=aZ (fT l i)&&(decide (i=0) || fQ (fT l (i - 1)) (fT l i))
def bfE (d e:Ed):Bool:=decide (d.a<e.a) || (decide (d.a=e.a)&&decide (d.b<e.b))
def G6 (l:List Pt)(m:List Ed)(i:Nat):Bool :=
 decide (0≤(cC m i).a)&&decide ((cC m i).a<(cC m i).b)&&decide ((cC m i).b<l.length)&&decide (-1≤(cC m i).n)&&decide ((cC m i).n<200)&&(decide (i=0) || bfE (cC m (i - 1)) (cC m i))
def mH (m:List Ed)(s:List Bool):Nat→List Bool
 |0=>s
 |i+1=>((mH m s i).set (cC m i).a.toNat true).set (cC m i).b.toNat true
theorem xV (m:List Ed)(s:List Bool):∀ i,(mH m s i).length=s.length
 |0=>rfl
 |i+1=>by unfold mH;rw [List.length_set,List.length_set];exact xV m s i
def AD (l:List Pt)(m:List Ed)(i k:Nat):Bool:=decide (eZ (aY l m i) (aY l m k)=0) || decide (eZ (aY l m i) (aY l m k)=1)
def W2 (l:List Pt)(m:List Ed)(n:Int):Bool:=decide (l.length≤400)&&decide (3≤m.length)&&decide (m.length≤400)&&decide (1≤n)&&decide (n≤100)
def cX (l:List Pt)(m:List Ed)(n:Int):Bool:=W2 l m n&&(mS (B2 l) l.length&&(mS (G6 l m) m.length&&(mH m (List.replicate l.length false) m.length).all id))
def gI (l:List Pt)(m:List Ed)(n:Int):Bool:=cX l m n&&mS (fun i=>mS (fun k=>AD l m i k) i) m.length
theorem KB {l:List Pt}{m:List Ed}(hl:l.length≤1000)(hm:m.length≤1000)(h1:∀ i,i<l.length→B2 l i=true)(h2:∀ i,i<m.length→G6 l m i=true):kK l m=true:=by
 simp only [kK,Bool.and_eq_true,decide_eq_true_eq];refine⟨⟨⟨List.all_eq_true.2 fun p hp=>?_,List.all_eq_true.2 fun e he=>?_⟩,hm⟩,hl⟩
 ·obtain⟨i,hi,rfl⟩:=List.getElem_of_mem hp;have:=h1 i hi;rw [B2,lW hi,Bool.and_eq_true] at this;exact oL this.1
 ·obtain⟨i,hi,rfl⟩:=List.getElem_of_mem he;have:=h2 i hi;rw [G6,K3 hi] at this;simp only [Bool.and_eq_true,decide_eq_true_eq] at this ⊢;omega
theorem aHJ {l:List Pt}{m:List Ed}{n:Int}(h:W2 l m n=false):gI l m n=false:=by simp [gI,cX,h]
theorem QX {l:List Pt}{m:List Ed}{n:Int}{i:Nat}(hi:i<l.length)(h:B2 l i=false):gI l m n=false:=by simp [gI,cX,fF hi h]
theorem oU {l:List Pt}{m:List Ed}{n:Int}{i:Nat}(hi:i<m.length)(h:G6 l m i=false):gI l m n=false:=by simp [gI,cX,fF hi h]
theorem aGs {l:List Pt}{m:List Ed}{n:Int}(h:(mH m (List.replicate l.length false) m.length).all id=false):gI l m n=false:=by simp [gI,cX,h]
theorem aAQ {l:List Pt}{m:List Ed}{n:Int}{i k:Nat}(hi:i<m.length)(hk:k<i)(h:AD l m i k=false):gI l m n=false:=by
 have:mS (fun k=>AD l m i k) i=false:=fF hk h;have:mS (fun i=>mS (fun k=>AD l m i k) i) m.length=false:=fF hi this;simp [gI,this]
theorem aGr {l:List Pt}{m:List Ed}{n:Int}(h:W2 l m n=false):cX l m n=false:=by simp [cX,h]
theorem aBp {l:List Pt}{m:List Ed}{n:Int}{i:Nat}(hi:i<l.length)(h:B2 l i=false):cX l m n=false:=by simp [cX,fF hi h]
theorem AF {l:List Pt}{m:List Ed}{n:Int}{i:Nat}(hi:i<m.length)(h:G6 l m i=false):cX l m n=false:=by simp [cX,fF hi h]
end Go.Aw
end

noncomputable section
namespace Go.Aw
set_option maxRecDepth 100000
theorem nN {l:List Pt}{m:List Ed}{i:Nat}{ed:Ed}(hed:cC m i=ed)(h:¬ (0≤ed.a∧ed.a<ed.b∧ed.b<l.length∧-1≤ed.n∧ed.n<200)):G6 l m i=false:=by
 cases hb:G6 l m i with
 |false=>rfl
 |true =>
  rw [G6,hed] at hb;simp only [Bool.and_eq_true,decide_eq_true_eq] at hb;exact absurd ⟨hb.1.1.1.1.1,hb.1.1.1.1.2,hb.1.1.1.2,hb.1.1.2,hb.1.2⟩ h
theorem RG {l:List Pt}{m:List Ed}{i:Nat}{ed d:Ed}(hed:cC m i=ed)(hd:cC m (i - 1)=d)(hi:i≠0)(h:bfE d ed=false):G6 l m i=false:=by
 rw [G6,hed,hd,h,decide_eq_false hi,Bool.or_false,Bool.and_false]
theorem y6 {l:List Pt}{m:List Ed}{i:Nat}{ed:Ed}(hed:cC m i=ed)(h:0≤ed.a∧ed.a<ed.b∧ed.b<l.length∧-1≤ed.n∧ed.n<200)(ho:(decide (i=0) || bfE (cC m (i - 1)) ed)=true):G6 l m i=true:=by
 rw [G6,hed,ho];simp only [Bool.and_eq_true,decide_eq_true_eq,and_true];omega
def plS (l:List Pt)(m:List Ed)(n:Int):List Value→Option (Bool × Value)
 |[]=>some (decide (l.length≤1000)&&decide (m.length≤1000),.bool (gI l m n))
 |_=>none
theorem aCy {l:List Pt}{m:List Ed}{n:Int}{r:List Value}{v:Value}(h:plS l m n r=some (true,v)):r=[]∧l.length≤1000∧m.length≤1000∧v=.bool (gI l m n):=by
 unfold plS at h;split at h
 ·injection h with h;injection h with h1 h2;simp only [Bool.and_eq_true,decide_eq_true_eq] at h1;exact⟨rfl,h1.1,h1.2,h2.symm⟩
 ·cases h
def HJ (s:Value)(j:Int):List (Nat × Value):=[(1,.pointer (some ⟨2,0,none⟩)),(3,s),(4,iv j)]
def VB (z:Int):List (Nat × Value):=[(1,.pointer (some ⟨2,0,none⟩)),(3,.slice none 0 0),(6,iv z)]
def vG (N:Nat)(j:Int):List (Nat × Value):=[(1,.pointer (some ⟨2,0,none⟩)),(3,.slice (some ⟨3,0,none⟩) N N),(6,iv j)]
def I0 (N:Nat)(j:Int):List (Nat × Value):=[(1,.pointer (some ⟨2,0,none⟩)),(3,.slice (some ⟨3,0,none⟩) N N),(9,iv j)]
def tA (j:Int):List (Nat × Value):=[(1,.pointer (some ⟨2,0,none⟩)),(10,iv j)]
def BQ (j k:Int):List (Nat × Value):=(11,iv k)::tA j
def aBk:Nat × XF:=(156,mX aQ aU plS)
theorem aIc:cO Go.Proofs.Tryz.prog aBk.1 aBk.2:=sY aQ aU (aL (xl:=[X18,aGK,ZX,X25]) (.cons x18 (.cons aL6 (.cons aFA (.cons x25 .nil))))) fun l m n r v hs=>by
 obtain⟨rfl,hl,hm,rfl⟩:=aCy hs;clear hs;refine⟨rfl,rfl,fun c1 c2=>?_⟩;have hszf:¬ (l.length≤400∧3≤m.length∧m.length≤400∧1≤n∧n≤100)→gI l m n=false:=fun h=>aHJ (by
  cases hz:W2 l m n with
  |false=>rfl
  |true=>simp only [W2,Bool.and_eq_true,decide_eq_true_eq] at hz;exact absurd ⟨hz.1.1.1.1,hz.1.1.1.2,hz.1.1.2,hz.1.2,hz.2⟩ h)
 ((conv=>whnf);refine bm (fun a1=>?_) (fun a1=>?_))
 ·have a1:¬ 400<l.length:=(by simp [aA,aC] at a1;omega);((conv=>whnf);refine bm (fun a2=>?_) (fun a2=>?_))
  ·have a2:¬ m.length<3:=(by simp [aA,aC] at a2;omega);((conv=>whnf);refine bm (fun a3=>?_) (fun a3=>?_))
   ·have a3:¬ 400<m.length:=(by simp [aA,aC] at a3;omega);((conv=>whnf);refine bm (fun a4=>?_) (fun a4=>?_))
    ·have a4:¬ n<1:=(by simp [aA,aC] at a4;omega);((conv=>whnf);refine bm (fun a5=>?_) (fun a5=>?_))
     ·have a5:100<n:=(by simp [aA,aC] at a5;omega);(conv=>whnf);rw [hszf (by omega)]
     ·have a5:¬ 100<n:=(by simp [aA,aC] at a5;omega);have hsz:W2 l m n=true:=by
       simp only [W2,Bool.and_eq_true,decide_eq_true_eq];omega
      clear hszf;(conv=>whnf)
      refine⟨fun q e h nx=>∃ (i:Nat) (j:Int),j=i∧i≤l.length∧q=l.length - i∧(∀ t,t<i→B2 l t=true) ∧
       ((i=0∧e=HJ (.slice none 0 0) j∧h=cH l m c1 c2 n∧nx=3)∨(0<i∧e=HJ (.slice (some ⟨3,0,none⟩) i i) j∧h=bJ l m c1 c2 n (List.replicate i false)∧nx=4)),⟨l.length,?_⟩,?_⟩
      ·refine aK (e0:=HJ (.slice none 0 0) 0) (h0:=cH l m c1 c2 n) (n0:=3) ⟨0,0,rfl,Nat.zero_le _,rfl,fun t ht=>absurd ht (Nat.not_lt_zero t),.inl ⟨rfl,rfl,rfl,rfl⟩⟩ ?_ ?_ (by decide)
       ·unfold HJ;((repeat' refine iE rfl rfl ?_);exact iN)
       ·unfold cH aX aB;((repeat'(first|refine iF rfl rfl ?_|refine iC rfl rfl rfl ?_|refine iJ rfl rfl rfl rfl ?_));exact iN)
      ·rintro q e h nx ⟨i,j,hj,hi,rfl,hpt,⟨hi0,rfl,rfl,rfl⟩|⟨hip,rfl,rfl,rfl⟩⟩
       ·subst hi0;unfold HJ cH aX aB;((conv=>whnf);refine bm (fun b1=>?_) (fun b1=>?_))
        ·have hlt:0<l.length:=(by simp [aA,aC] at b1;omega);((conv=>whnf);refine bm (fun b2=>?_) (fun b2=>?_))
         ·(conv=>whnf);refine oA (jE l (i:=0) hlt ?_) ?_
          ·show _+Int.toNat j*2=_;omega
          ((conv=>whnf);refine bm (fun b3=>?_) (fun b3=>?_))
          ·have hr:aZ (fT l 0)=true:=(by simpa [aA,aC] using b3);((conv=>whnf);refine bm (fun b4=>?_) (fun b4=>?_))
           ·exfalso;simp [aA,aC] at b4;omega
           ·((conv=>whnf);refine bm (fun b5=>?_) (fun b5=>?_))
            ·(conv=>whnf);refine⟨l.length - 1,by omega,?_⟩
             refine iY (e0:=HJ (.slice (some ⟨3,0,none⟩) 1 1) (j+1)) (h0:=bJ l m c1 c2 n [false]) (n0:=4) 3 4 (by decide) (by decide)
              ⟨1,j+1,by omega,by omega,rfl,fun t ht=>by rw [show t=0 by omega,B2,hr];rfl,.inr ⟨Nat.one_pos,rfl,rfl,rfl⟩⟩ ?_ ?_ ?_
             ·unfold HJ;((repeat' refine iE rfl rfl ?_);exact iN)
             ·unfold bJ cH aX aB;((repeat'(first|refine iF rfl rfl ?_|refine iC rfl rfl rfl ?_|refine iJ rfl rfl rfl rfl ?_));exact iN)
             ·unfold bJ cH aB;((repeat' refine iK rfl ?_);exact iN)
            ·exfalso;simp [aA,aC,aH] at b5;omega
          ·have hr:aZ (fT l 0)=false:=(by simpa [aA,aC] using b3);(conv=>whnf);rw [QX hlt (show B2 l 0=false by rw [B2,hr];rfl)]
         ·exfalso;simp [aA,aC] at b2;omega
        ·have h0:l.length=0:=(by simp [aA,aC] at b1;omega);have hno:∀ ed,cC m 0=ed→G6 l m 0=false:=fun ed hed=>nN hed (by omega);(conv=>whnf);refine⟨fun q e h nx=>∃ z:Int,z=0∧e=VB z∧h=cH l m c1 c2 n∧nx=3,⟨0,?_⟩,?_⟩
         ·refine aK (e0:=VB 0) (h0:=cH l m c1 c2 n) (n0:=3) ⟨0,rfl,rfl,rfl,rfl⟩ ?_ ?_ (by decide)
          ·unfold VB;((repeat' refine iE rfl rfl ?_);exact iN)
          ·unfold cH aX aB;((repeat'(first|refine iF rfl rfl ?_|refine iC rfl rfl rfl ?_|refine iJ rfl rfl rfl rfl ?_));exact iN)
         ·rintro q e h nx ⟨z,hz,rfl,rfl,rfl⟩;unfold VB cH aX aB;((conv=>whnf);refine bm (fun d1=>?_) (fun d1=>?_))
          ·((conv=>whnf);refine bm (fun d2=>?_) (fun d2=>?_))
           ·(conv=>whnf);refine oA (EX m (i:=0) (by omega) ?_) ?_
            ·show _+Int.toNat z*5=_;omega
            generalize hed:cC m 0=ed;have hbad:=hno ed hed;((conv=>whnf);refine bm (fun f1=>?_) (fun f1=>?_))
            ·((conv=>whnf);refine bm (fun f2=>?_) (fun f2=>?_))
             ·((conv=>whnf);refine bm (fun f3=>?_) (fun f3=>?_))
              ·exfalso;simp [aA,aC] at f1 f2 f3;omega
              ·(conv=>whnf);rw [oU (by omega) hbad]
             ·(conv=>whnf);rw [oU (by omega) hbad]
            ·(conv=>whnf);rw [oU (by omega) hbad]
           ·exfalso;simp [aA,aC] at d2;omega
          ·exfalso;simp [aA,aC] at d1;omega
       ·unfold HJ bJ cH aX aB;((conv=>whnf);refine bm (fun b1=>?_) (fun b1=>?_))
        ·have hlt:i<l.length:=(by simp [aA,aC] at b1;omega);have hll:(flat fU.fl (List.replicate i false)).length=i:=(by rw [bE,List.length_replicate];exact Nat.mul_one _);((conv=>whnf);refine bm (fun b0=>?_) (fun b0=>?_))
         ·exfalso;have:=Nat.le_of_ble_eq_true b0;omega
         ·((conv=>whnf);refine bm (fun b00=>?_) (fun b00=>?_))
          ·((conv=>whnf);refine bm (fun b2=>?_) (fun b2=>?_))
           ·(conv=>whnf);refine oA (jE l (i:=i) hlt ?_) ?_
            ·show _+Int.toNat j*2=_;omega
            ((conv=>whnf);refine bm (fun b3=>?_) (fun b3=>?_))
            ·have hr:aZ (fT l i)=true:=(by simpa [aA,aC] using b3);((conv=>whnf);refine bm (fun b4=>?_) (fun b4=>?_))
             ·((conv=>whnf);refine bm (fun b5=>?_) (fun b5=>?_))
              ·((conv=>whnf);refine bm (fun b6=>?_) (fun b6=>?_))
               ·(conv=>whnf);refine oA (jE l (i:=i - 1) (by omega) ?_) ?_
                ·show _+Int.toNat (j - 1)*2=_;omega
                ((conv=>whnf);refine bm (fun b7=>?_) (fun b7=>?_))
                ·(conv=>whnf);refine oA (jE l (i:=i) hlt ?_) ?_
                 ·show _+Int.toNat j*2=_;omega
                 ((conv=>whnf);refine bm (fun b8=>?_) (fun b8=>?_))
                 ·have b8:fQ (fT l (i - 1)) (fT l i)=false:=(by simpa [aA,aC] using b8);(conv=>whnf);rw [QX hlt (show B2 l i=false by rw [B2,hr,b8,decide_eq_false (show ¬ i=0 by omega)];rfl)]
                 ·have b8:fQ (fT l (i - 1)) (fT l i)=true:=(by simpa [aA,aC] using b8);((conv=>whnf);refine bm (fun b9=>?_) (fun b9=>?_))
                  ·(conv=>whnf);refine⟨l.length - (i+1),by omega,?_⟩
                   refine iY (e0:=HJ (.slice (some ⟨3,0,none⟩) (i+1) (i+1)) (j+1)) (h0:=bJ l m c1 c2 n (List.replicate i false++[false])) (n0:=4) 3 5 (by decide) (by decide)
                    ⟨i+1,j+1,by omega,by omega,rfl,fun t ht=>?_,.inr ⟨Nat.succ_pos _,rfl,by rw [List.replicate_succ'];rfl,rfl⟩⟩ ?_ ?_ ?_
                   ·by_cases hti:t=i
                    ·rw [hti,B2,hr,b8];simp
                    ·exact hpt t (by omega)
                   ·unfold HJ;((repeat' refine iE rfl rfl ?_);exact iN)
                   ·unfold bJ cH aX aB;((repeat'(first|refine iW rfl rfl (aW (aF fU _) (c9 fU (List.replicate i false) false (by rw [List.length_replicate]))) ?_|refine iF rfl rfl ?_|refine iC rfl rfl rfl ?_|refine iJ rfl rfl rfl rfl ?_));exact iN)
                   ·unfold bJ cH aB;((repeat' refine iK rfl ?_);exact iN)
                  ·exfalso;simp [aA,aC,aH] at b9;omega
                ·exfalso;simp [aA,aC] at b7;omega
               ·exfalso;simp [aA,aC] at b6;omega
              ·exfalso;simp [aA,aC,aH] at b5;omega
             ·exfalso;simp [aA,aC] at b4;omega
            ·have hr:aZ (fT l i)=false:=(by simpa [aA,aC] using b3);(conv=>whnf);rw [QX hlt (show B2 l i=false by rw [B2,hr];rfl)]
           ·exfalso;simp [aA,aC] at b2;omega
          ·exact m7 (s:=1) (by omega) (by omega) b00
        ·have hge:i=l.length:=(by simp [aA,aC] at b1;omega);subst hge;clear b1 hi hip hj;(conv=>whnf);refine⟨fun q e h nx=>∃ (i:Nat) (j:Int),j=i∧i≤m.length∧q=m.length - i∧(∀ t,t<i→G6 l m t=true)∧e=vG l.length j∧h=bJ l m c1 c2 n (mH m (List.replicate l.length false) i)∧nx=4,⟨m.length,?_⟩,?_⟩
         ·refine aK (e0:=vG l.length 0) (h0:=bJ l m c1 c2 n (List.replicate l.length false)) (n0:=4) ⟨0,0,rfl,Nat.zero_le _,rfl,fun t ht=>absurd ht (Nat.not_lt_zero t),rfl,rfl,rfl⟩ ?_ ?_ (by decide)
          ·unfold vG;((repeat' refine iE rfl rfl ?_);exact iN)
          ·unfold bJ cH aX aB;((repeat'(first|refine iF rfl rfl ?_|refine iC rfl rfl rfl ?_|refine iJ rfl rfl rfl rfl ?_));exact iN)
         ·rintro q e h nx ⟨i,j,hj,hi,rfl,hed0,rfl,rfl,rfl⟩;have rl:(mH m (List.replicate l.length false) i).length=l.length:=(by rw [xV,List.length_replicate]);have nxt:mH m (List.replicate l.length false) (i+1)=((mH m (List.replicate l.length false) i).set (cC m i).a.toNat true).set (cC m i).b.toNat true:=rfl;generalize hs0:mH m (List.replicate l.length false) i=s at rl nxt;have hsl:(flat fU.fl s).length=l.length:=(by rw [bE,rl];exact Nat.mul_one _);unfold vG bJ cH aX aB;((conv=>whnf);refine bm (fun d1=>?_) (fun d1=>?_))
          ·have hlt:i<m.length:=(by simp [aA,aC] at d1;omega);((conv=>whnf);refine bm (fun d2=>?_) (fun d2=>?_))
           ·(conv=>whnf);refine oA (EX m (i:=i) hlt ?_) ?_
            ·show _+Int.toNat j*5=_;omega
            generalize hed:cC m i=ed at nxt;((conv=>whnf);refine bm (fun f1=>?_) (fun f1=>?_))
            ·have f1:0≤ed.a:=(by simp [aA,aC] at f1;omega);((conv=>whnf);refine bm (fun f2=>?_) (fun f2=>?_))
             ·have f2:ed.a<ed.b:=(by simp [aA,aC] at f2;omega);((conv=>whnf);refine bm (fun f3=>?_) (fun f3=>?_))
              ·have f3:ed.b<l.length:=(by simp [aA,aC] at f3;omega);((conv=>whnf);refine bm (fun f4=>?_) (fun f4=>?_))
               ·have f4 : -1≤ed.n:=(by simp [aA,aC] at f4;omega);((conv=>whnf);refine bm (fun f5=>?_) (fun f5=>?_))
                ·have f5:200≤ed.n:=(by simp [aA,aC] at f5;omega);(conv=>whnf);rw [oU hlt (nN hed (by omega))]
                ·have f5:ed.n<200:=(by simp [aA,aC] at f5;omega);((conv=>whnf);refine bm (fun f6=>?_) (fun f6=>?_))
                 ·have f6:0<i:=(by simp [aA,aC] at f6;omega);((conv=>whnf);refine bm (fun f7=>?_) (fun f7=>?_))
                  ·((conv=>whnf);refine bm (fun f8=>?_) (fun f8=>?_))
                   ·(conv=>whnf);refine oA (EX m (i:=i - 1) (by omega) ?_) ?_
                    ·show _+Int.toNat (j - 1)*5=_;omega
                    generalize hd0:cC m (i - 1)=dd;((conv=>whnf);refine bm (fun f9=>?_) (fun f9=>?_))
                    ·have f9:¬ ed.a<dd.a:=(by simp [aA,aC] at f9;omega);((conv=>whnf);refine bm (fun f10=>?_) (fun f10=>?_))
                     ·have f10:dd.a=ed.a:=(by simpa [aA,aC] using f10);((conv=>whnf);refine bm (fun f11=>?_) (fun f11=>?_))
                      ·have f11:ed.b≤dd.b:=(by simp [aA,aC] at f11;omega);(conv=>whnf);rw [oU hlt (RG hed hd0 (by omega) (by unfold bfE;simp;omega))]
                      ·have f11:dd.b<ed.b:=(by simp [aA,aC] at f11;omega);have hyes:G6 l m i=true:=y6 hed ⟨f1,f2,f3,f4,f5⟩ (by rw [hd0];unfold bfE;simp;omega);((conv=>whnf);refine bm (fun k1=>?_) (fun k1=>?_))
                       ·((conv=>whnf);refine bm (fun k2=>?_) (fun k2=>?_))
                        ·((conv=>whnf);refine bm (fun k3=>?_) (fun k3=>?_))
                         ·((conv=>whnf);refine bm (fun k4=>?_) (fun k4=>?_))
                          ·((conv=>whnf);refine bm (fun k5=>?_) (fun k5=>?_))
                           ·(conv=>whnf);refine⟨m.length - (i+1),by omega,?_⟩;refine aK (e0:=vG l.length (j+1)) (h0:=bJ l m c1 c2 n (mH m (List.replicate l.length false) (i+1))) (n0:=4) ⟨i+1,j+1,by omega,by omega,rfl,fun t ht=>?_,rfl,rfl,rfl⟩ ?_ ?_ (by decide)
                            ·by_cases hti:t=i
                             ·rw [hti];exact hyes
                             ·exact hed0 t (by omega)
                            ·unfold vG;((repeat' refine iE rfl rfl ?_);exact iN)
                            ·unfold bJ cH aX aB;have bO:=QB (s:=s) (a:=ed.a.toNat) (b:=ed.b.toNat) (o1:=0+ed.a.toNat*1) (o2:=0+ed.b.toNat*1) (by omega) (by omega) (by omega) (by omega);rw [nxt];((repeat'(first|refine iW rfl rfl (aW (aF fU _) bO) ?_|refine iF rfl rfl ?_|refine iC rfl rfl rfl ?_|refine iJ rfl rfl rfl rfl ?_));exact iN)
                           ·exfalso;simp [aA,aC,aH] at k5;omega
                          ·have hpl:(dJ (flat fU.fl s) (0+ed.a.toNat*1) [.bool true]).length=l.length:=(by rw [dH (by rw [hsl];show 0+ed.a.toNat*1+1≤l.length;omega)];exact hsl);have k4:(0+ed.b.toNat*1+1).ble (dJ (flat fU.fl s) (0+ed.a.toNat*1) [.bool true]).length=false:=k4;rw [hpl] at k4;exact dI k4 (by omega)
                         ·exfalso;simp [aA,aC] at k3;omega
                        ·rw [hsl] at k2;exact dI k2 (by show 0+ed.a.toNat*1+1≤l.length;omega)
                       ·exfalso;simp [aA,aC] at k1;omega
                     ·have f10:¬ dd.a=ed.a:=(by simpa [aA,aC] using f10);have hyes:G6 l m i=true:=y6 hed ⟨f1,f2,f3,f4,f5⟩ (by rw [hd0];unfold bfE;simp;omega);((conv=>whnf);refine bm (fun k1=>?_) (fun k1=>?_))
                      ·((conv=>whnf);refine bm (fun k2=>?_) (fun k2=>?_))
                       ·((conv=>whnf);refine bm (fun k3=>?_) (fun k3=>?_))
                        ·((conv=>whnf);refine bm (fun k4=>?_) (fun k4=>?_))
                         ·((conv=>whnf);refine bm (fun k5=>?_) (fun k5=>?_))
                          ·(conv=>whnf);refine⟨m.length - (i+1),by omega,?_⟩;refine aK (e0:=vG l.length (j+1)) (h0:=bJ l m c1 c2 n (mH m (List.replicate l.length false) (i+1))) (n0:=4) ⟨i+1,j+1,by omega,by omega,rfl,fun t ht=>?_,rfl,rfl,rfl⟩ ?_ ?_ (by decide)
                           ·by_cases hti:t=i
                            ·rw [hti];exact hyes
                            ·exact hed0 t (by omega)
                           ·unfold vG;((repeat' refine iE rfl rfl ?_);exact iN)
                           ·unfold bJ cH aX aB;have bO:=QB (s:=s) (a:=ed.a.toNat) (b:=ed.b.toNat) (o1:=0+ed.a.toNat*1) (o2:=0+ed.b.toNat*1) (by omega) (by omega) (by omega) (by omega);rw [nxt];((repeat'(first|refine iW rfl rfl (aW (aF fU _) bO) ?_|refine iF rfl rfl ?_|refine iC rfl rfl rfl ?_|refine iJ rfl rfl rfl rfl ?_));exact iN)
                          ·exfalso;simp [aA,aC,aH] at k5;omega
                         ·have hpl:(dJ (flat fU.fl s) (0+ed.a.toNat*1) [.bool true]).length=l.length:=(by rw [dH (by rw [hsl];show 0+ed.a.toNat*1+1≤l.length;omega)];exact hsl);have k4:(0+ed.b.toNat*1+1).ble (dJ (flat fU.fl s) (0+ed.a.toNat*1) [.bool true]).length=false:=k4;rw [hpl] at k4;exact dI k4 (by omega)
                        ·exfalso;simp [aA,aC] at k3;omega
                       ·rw [hsl] at k2;exact dI k2 (by show 0+ed.a.toNat*1+1≤l.length;omega)
                      ·exfalso;simp [aA,aC] at k1;omega
                    ·have f9:ed.a<dd.a:=(by simp [aA,aC] at f9;omega);(conv=>whnf);rw [oU hlt (RG hed hd0 (by omega) (by unfold bfE;simp;omega))]
                   ·exfalso;simp [aA,aC] at f8;omega
                  ·exfalso;simp [aA,aC,aH] at f7;omega
                 ·have f6:i=0:=(by simp [aA,aC] at f6;omega);have hyes:G6 l m i=true:=y6 hed ⟨f1,f2,f3,f4,f5⟩ (by simp [f6]);((conv=>whnf);refine bm (fun k1=>?_) (fun k1=>?_))
                  ·((conv=>whnf);refine bm (fun k2=>?_) (fun k2=>?_))
                   ·((conv=>whnf);refine bm (fun k3=>?_) (fun k3=>?_))
                    ·((conv=>whnf);refine bm (fun k4=>?_) (fun k4=>?_))
                     ·((conv=>whnf);refine bm (fun k5=>?_) (fun k5=>?_))
                      ·(conv=>whnf);refine⟨m.length - (i+1),by omega,?_⟩;refine aK (e0:=vG l.length (j+1)) (h0:=bJ l m c1 c2 n (mH m (List.replicate l.length false) (i+1))) (n0:=4) ⟨i+1,j+1,by omega,by omega,rfl,fun t ht=>?_,rfl,rfl,rfl⟩ ?_ ?_ (by decide)
                       ·by_cases hti:t=i
                        ·rw [hti];exact hyes
                        ·exact hed0 t (by omega)
                       ·unfold vG;((repeat' refine iE rfl rfl ?_);exact iN)
                       ·unfold bJ cH aX aB;have bO:=QB (s:=s) (a:=ed.a.toNat) (b:=ed.b.toNat) (o1:=0+ed.a.toNat*1) (o2:=0+ed.b.toNat*1) (by omega) (by omega) (by omega) (by omega);rw [nxt];((repeat'(first|refine iW rfl rfl (aW (aF fU _) bO) ?_|refine iF rfl rfl ?_|refine iC rfl rfl rfl ?_|refine iJ rfl rfl rfl rfl ?_));exact iN)
                      ·exfalso;simp [aA,aC,aH] at k5;omega
                     ·have hpl:(dJ (flat fU.fl s) (0+ed.a.toNat*1) [.bool true]).length=l.length:=(by rw [dH (by rw [hsl];show 0+ed.a.toNat*1+1≤l.length;omega)];exact hsl);have k4:(0+ed.b.toNat*1+1).ble (dJ (flat fU.fl s) (0+ed.a.toNat*1) [.bool true]).length=false:=k4;rw [hpl] at k4;exact dI k4 (by omega)
                    ·exfalso;simp [aA,aC] at k3;omega
                   ·rw [hsl] at k2;exact dI k2 (by show 0+ed.a.toNat*1+1≤l.length;omega)
                  ·exfalso;simp [aA,aC] at k1;omega
               ·have f4:¬ -1≤ed.n:=(by simp [aA,aC] at f4;omega);(conv=>whnf);rw [oU hlt (nN hed (by omega))]
              ·have f3:¬ ed.b<l.length:=(by simp [aA,aC] at f3;omega);(conv=>whnf);rw [oU hlt (nN hed (by omega))]
             ·have f2:¬ ed.a<ed.b:=(by simp [aA,aC] at f2;omega);(conv=>whnf);rw [oU hlt (nN hed (by omega))]
            ·have f1:¬ 0≤ed.a:=(by simp [aA,aC] at f1;omega);(conv=>whnf);rw [oU hlt (nN hed (by omega))]
           ·exfalso;simp [aA,aC] at d2;omega
          ·have hge:i=m.length:=(by simp [aA,aC] at d1;omega);subst hge;clear d1 hi hj;have hM:kK l m=true:=KB hl hm hpt hed0;(conv=>whnf);refine⟨fun q e h nx=>∃ (t:Nat) (z:Int),z=t∧t≤l.length∧q=l.length - t∧s.all id=(s.drop t).all id∧e=I0 l.length z∧h=bJ l m c1 c2 n s∧nx=4,⟨l.length,?_⟩,?_⟩
           ·refine aK (e0:=I0 l.length 0) (h0:=bJ l m c1 c2 n s) (n0:=4) ⟨0,0,rfl,Nat.zero_le _,rfl,rfl,rfl,rfl,rfl⟩ ?_ ?_ (by decide)
            ·unfold I0;((repeat' refine iE rfl rfl ?_);exact iN)
            ·unfold bJ cH aX aB;((repeat'(first|refine iF rfl rfl ?_|refine iC rfl rfl rfl ?_|refine iJ rfl rfl rfl rfl ?_));exact iN)
           ·rintro q e h nx ⟨t,z,hz,ht,rfl,hall,rfl,rfl,rfl⟩;unfold I0 bJ cH aX aB;((conv=>whnf);refine bm (fun h3=>?_) (fun h3=>?_))
            ·have htl:t<l.length:=(by simp [aA,aC] at h3;omega);have hd:s.drop t=cU s t::s.drop (t+1):=(by rw [qL (by omega)];exact List.drop_eq_getElem_cons (by omega));rw [hd,List.all_cons] at hall;((conv=>whnf);refine bm (fun h4=>?_) (fun h4=>?_))
             ·(conv=>whnf);refine iB (M9 s (i:=t) (by omega) ?_) ?_
              ·show _+Int.toNat z*1=_;omega
              ((conv=>whnf);refine bm (fun h5=>?_) (fun h5=>?_))
              ·have h5:cU s t=false:=(by simpa [aA,aC] using h5);(conv=>whnf);rw [aGs (by rw [hs0,hall,h5];rfl)]
              ·have h5:cU s t=true:=(by simpa [aA,aC] using h5);((conv=>whnf);refine bm (fun h6=>?_) (fun h6=>?_))
               ·(conv=>whnf);refine⟨l.length - (t+1),by omega,?_⟩;refine aK (e0:=I0 l.length (z+1)) (h0:=bJ l m c1 c2 n s) (n0:=4) ⟨t+1,z+1,by omega,by omega,rfl,by rw [hall,h5];rfl,rfl,rfl,rfl⟩ ?_ ?_ (by decide)
                ·unfold I0;((repeat' refine iE rfl rfl ?_);exact iN)
                ·unfold bJ cH aX aB;((repeat'(first|refine iF rfl rfl ?_|refine iC rfl rfl rfl ?_|refine iJ rfl rfl rfl rfl ?_));exact iN)
               ·exfalso;simp [aA,aC,aH] at h6;omega
             ·exfalso;simp [aA,aC] at h4;omega
            ·have hgt:t=l.length:=(by simp [aA,aC] at h3;omega);have hus:(mH m (List.replicate l.length false) m.length).all id=true:=by
              rw [hs0,hall,hgt,List.drop_eq_nil_of_le (by omega)];rfl
             have hlst:cX l m n=true:=by
              rw [cX,hsz,eS hpt,eS hed0,hus];rfl
             (conv=>whnf);refine⟨fun q e h nx=>∃ (i:Nat) (j:Int),j=i∧i≤m.length∧q=m.length - i∧(∀ t,t<i→∀ k,k<t→AD l m t k=true)∧e=tA j∧h=cH l m c1 c2 n∧nx=4,⟨m.length,?_⟩,?_⟩
             ·refine aK (e0:=tA 0) (h0:=cH l m c1 c2 n) (n0:=4) ⟨0,0,rfl,Nat.zero_le _,rfl,fun t ht=>absurd ht (Nat.not_lt_zero t),rfl,rfl,rfl⟩ ?_ ?_ (by decide)
              ·unfold tA;((repeat' refine iE rfl rfl ?_);exact iN)
              ·unfold cH aX aB;((repeat'(first|refine iF rfl rfl ?_|refine iC rfl rfl rfl ?_|refine iJ rfl rfl rfl rfl ?_));exact iN)
             ·clear h3 hall ht hz hgt;rintro q e h nx ⟨i,j,hj,hi,rfl,hme,rfl,rfl,rfl⟩;unfold tA cH aX aB;((conv=>whnf);refine bm (fun h3=>?_) (fun h3=>?_))
              ·have hlt:i<m.length:=(by simp [aA,aC] at h3;omega);(conv=>whnf);refine⟨fun q e h nx=>∃ (k:Nat) (z:Int),z=k∧k≤i∧q=i - k∧(∀ t,t<k→AD l m i t=true)∧e=BQ j z∧h=cH l m c1 c2 n∧nx=4,⟨i,?_⟩,?_⟩
               ·refine aK (e0:=BQ j 0) (h0:=cH l m c1 c2 n) (n0:=4) ⟨0,0,rfl,Nat.zero_le _,rfl,fun t ht=>absurd ht (Nat.not_lt_zero t),rfl,rfl,rfl⟩ ?_ ?_ (by decide)
                ·unfold BQ tA;((repeat' refine iE rfl rfl ?_);exact iN)
                ·unfold cH aX aB;((repeat'(first|refine iF rfl rfl ?_|refine iC rfl rfl rfl ?_|refine iJ rfl rfl rfl rfl ?_));exact iN)
               ·rintro q e h nx ⟨k,z,hz,hk,rfl,hmk,rfl,rfl,rfl⟩;unfold BQ tA cH aX aB;((conv=>whnf);refine bm (fun h4=>?_) (fun h4=>?_))
                ·have hkl:k<i:=(by simp [aA,aC] at h4;omega);have ej:j.toNat=i:=(by omega);have ez:z.toNat=k:=(by omega);(conv=>whnf);refine⟨l,m,aI aQ rfl,aI aU rfl,?_⟩;((conv=>whnf);refine bm (fun h5=>?_) (fun h5=>?_))
                 ·(conv=>whnf);refine⟨l,m,aI aQ rfl,aI aU rfl,?_⟩;((conv=>whnf);refine bm (fun h6=>?_) (fun h6=>?_))
                  ·(conv=>whnf);have em:eZ (aY l m j.toNat) (aY l m z.toNat)=eZ (aY l m i) (aY l m k):=(by rw [ej,ez]);((conv=>whnf);refine bm (fun h7=>?_) (fun h7=>?_))
                   ·have h7:¬ eZ (aY l m i) (aY l m k)=0:=(by rw [← em];simpa [aA,aC] using h7);((conv=>whnf);refine bm (fun h8=>?_) (fun h8=>?_))
                    ·have h8:¬ eZ (aY l m i) (aY l m k)=1:=(by rw [← em];simpa [aA,aC] using h8);(conv=>whnf);rw [aAQ hlt hkl (by rw [AD,decide_eq_false h7,decide_eq_false h8];rfl)]
                    ·have h8:eZ (aY l m i) (aY l m k)=1:=(by rw [← em];simpa [aA,aC] using h8);have hyes:AD l m i k=true:=(by rw [AD,decide_eq_true h8,Bool.or_true]);((conv=>whnf);refine bm (fun h9=>?_) (fun h9=>?_))
                     ·(conv=>whnf);refine⟨i - (k+1),by omega,?_⟩;refine aK (e0:=BQ j (z+1)) (h0:=cH l m c1 c2 n) (n0:=4) ⟨k+1,z+1,by omega,by omega,rfl,fun t ht=>?_,rfl,rfl,rfl⟩ ?_ ?_ (by decide)
                      ·by_cases htk:t=k
                       ·rw [htk];exact hyes
                       ·exact hmk t (by omega)
                      ·unfold BQ tA;((repeat' refine iE rfl rfl ?_);exact iN)
                      ·unfold cH aX aB;((repeat'(first|refine iF rfl rfl ?_|refine iC rfl rfl rfl ?_|refine iJ rfl rfl rfl rfl ?_));exact iN)
                     ·exfalso;simp [aA,aC,aH] at h9;omega
                   ·have h7:eZ (aY l m i) (aY l m k)=0:=(by rw [← em];simpa [aA,aC] using h7);have hyes:AD l m i k=true:=(by rw [AD,decide_eq_true h7,Bool.true_or]);((conv=>whnf);refine bm (fun h9=>?_) (fun h9=>?_))
                    ·(conv=>whnf);refine⟨i - (k+1),by omega,?_⟩;refine aK (e0:=BQ j (z+1)) (h0:=cH l m c1 c2 n) (n0:=4) ⟨k+1,z+1,by omega,by omega,rfl,fun t ht=>?_,rfl,rfl,rfl⟩ ?_ ?_ (by decide)
                     ·by_cases htk:t=k
                      ·rw [htk];exact hyes
                      ·exact hmk t (by omega)
                     ·unfold BQ tA;((repeat' refine iE rfl rfl ?_);exact iN)
                     ·unfold cH aX aB;((repeat'(first|refine iF rfl rfl ?_|refine iC rfl rfl rfl ?_|refine iJ rfl rfl rfl rfl ?_));exact iN)
                    ·exfalso;simp [aA,aC,aH] at h9;omega
                  ·exfalso;have h6:(kK l m&&(decide (0≤z)&&decide (z<m.length)))=false:=h6;rw [hM,decide_eq_true (show 0≤z by omega),decide_eq_true (show z<m.length by omega)] at h6;cases h6
                 ·exfalso;have h5:(kK l m&&(decide (0≤j)&&decide (j<m.length)))=false:=h5;rw [hM,decide_eq_true (show 0≤j by omega),decide_eq_true (show j<m.length by omega)] at h5;cases h5
                ·have hge:k=i:=(by simp [aA,aC] at h4;omega);((conv=>whnf);refine bm (fun h5=>?_) (fun h5=>?_))
                 ·(conv=>whnf);refine⟨m.length - (i+1),by omega,?_⟩;refine aK (e0:=tA (j+1)) (h0:=cH l m c1 c2 n) (n0:=4) ⟨i+1,j+1,by omega,by omega,rfl,fun t ht=>?_,rfl,rfl,rfl⟩ ?_ ?_ (by decide)
                  ·by_cases hti:t=i
                   ·rw [hti];exact fun k' hk'=>hmk k' (by omega)
                   ·exact hme t (by omega)
                  ·unfold tA;((repeat' refine iE rfl rfl ?_);exact iN)
                  ·unfold cH aX aB;((repeat'(first|refine iF rfl rfl ?_|refine iC rfl rfl rfl ?_|refine iJ rfl rfl rfl rfl ?_));exact iN)
                 ·exfalso;simp [aA,aC,aH] at h5;omega
              ·have hge:i=m.length:=(by simp [aA,aC] at h3;omega);(conv=>whnf);rw [gI,hlst,eS (fun i hi=>eS (hme i (by omega)))];rfl
    ·have a4:n<1:=(by simp [aA,aC] at a4;omega);(conv=>whnf);rw [hszf (by omega)]
   ·have a3:400<m.length:=(by simp [aA,aC] at a3;omega);(conv=>whnf);rw [hszf (by omega)]
  ·have a2:m.length<3:=(by simp [aA,aC] at a2;omega);(conv=>whnf);rw [hszf (by omega)]
 ·have a1:400<l.length:=(by simp [aA,aC] at a1;omega);(conv=>whnf);rw [hszf (by omega)]
end Go.Aw
end
