/-
  Parts of a proof. No condition.
-/
import Derived.Test.YtjahkcbdecgbhaaGreatQAt
set_option linter.unusedSimpArgs false
set_option linter.unusedVariables false
noncomputable section
namespace Go.Aw
set_option maxRecDepth 100000
def cY (l:List Pt)(m:List Ed)(i:Nat):Sg:=(eF l (cH m i).a,eF l (cH m i).b)
def sgS:MS:=sMD fun l m _ d=>(pU l m&&(decide (0≤d)&&decide (d<m.length)),sgv (cY l m d.toNat))
def aIj:Nat × XF:=(74,mX aT aW sgS)
theorem aLQ:cT Go.Proofs.Tryz.prog aIj.1 aIj.2:=uG aT aW (aL (xl:=[]) .nil) fun l m n r v hs=>by
 obtain⟨d,rfl,hd,rfl⟩:=AV hs;clear hs;simp only [Bool.and_eq_true,decide_eq_true_eq] at hd;obtain⟨hM,h0,hd⟩:=hd;have he:=rS hM (i:=d.toNat) (by omega);refine⟨rfl,rfl,fun c1 c2=>?_⟩;((conv=>whnf);apply bm<;>intro h1);rotate_left
 ·exfalso;simp [aA,aC] at h1;omega
 (conv=>whnf);refine eC (OO m 0 (i:=d.toNat) (by omega) rfl (by decide) ?_) ?_
 ·show _+Int.toNat d*5+0=_;omega
 ((conv=>whnf);apply bm<;>intro h2);rotate_left
 ·exfalso;simp [aA,aC] at h2;omega
 (conv=>whnf);refine nN (jP l (i:=(cH m d.toNat).a.toNat) (by omega) ?_) ?_
 ·show _+Int.toNat (cH m d.toNat).a*2=_;omega
 ((conv=>whnf);apply bm<;>intro h3)
 ·(conv=>whnf);refine eC (OO m 1 (i:=d.toNat) (by omega) rfl (by decide) ?_) ?_
  ·show _+Int.toNat d*5+1=_;omega
  ((conv=>whnf);apply bm<;>intro h4)
  ·(conv=>whnf);refine nN (jP l (i:=(cH m d.toNat).b.toNat) (by omega) ?_) ?_
   ·show _+Int.toNat (cH m d.toNat).b*2=_;omega
   (conv=>whnf);rfl
  exfalso;simp [aA,aC] at h4;omega
 exfalso;simp [aA,aC] at h3;omega
def aFK:Nat × XF:=(98,mX aT aW sgS)
theorem aL8:cT Go.Proofs.Tryz.prog aFK.1 aFK.2:=uG aT aW (aL (xl:=[]) .nil) fun l m n r v hs=>by
 obtain⟨d,rfl,hd,rfl⟩:=AV hs;clear hs;simp only [Bool.and_eq_true,decide_eq_true_eq] at hd;obtain⟨hM,h0,hd⟩:=hd;have he:=rS hM (i:=d.toNat) (by omega);refine⟨rfl,rfl,fun c1 c2=>?_⟩;((conv=>whnf);apply bm<;>intro h1);rotate_left
 ·exfalso;simp [aA,aC] at h1;omega
 (conv=>whnf);refine eC (OO m 0 (i:=d.toNat) (by omega) rfl (by decide) ?_) ?_
 ·show _+Int.toNat d*5+0=_;omega
 ((conv=>whnf);apply bm<;>intro h2);rotate_left
 ·exfalso;simp [aA,aC] at h2;omega
 (conv=>whnf);refine nN (jP l (i:=(cH m d.toNat).a.toNat) (by omega) ?_) ?_
 ·show _+Int.toNat (cH m d.toNat).a*2=_;omega
 ((conv=>whnf);apply bm<;>intro h3)
 ·(conv=>whnf);refine eC (OO m 1 (i:=d.toNat) (by omega) rfl (by decide) ?_) ?_
  ·show _+Int.toNat d*5+1=_;omega
  ((conv=>whnf);apply bm<;>intro h4)
  ·(conv=>whnf);refine nN (jP l (i:=(cH m d.toNat).b.toNat) (by omega) ?_) ?_
   ·show _+Int.toNat (cH m d.toNat).b*2=_;omega
   (conv=>whnf);rfl
  exfalso;simp [aA,aC] at h4;omega
 exfalso;simp [aA,aC] at h3;omega
end Go.Aw
end

noncomputable section
namespace Go.Aw
def oE (f:Nat→Bool)(n:Nat):Bool:=(List.range n).all f
theorem fN {f:Nat→Bool}{n i:Nat}(hi:i<n)(h:f i=false):oE f n=false:=by
 unfold oE;rw [List.all_eq_false];exact⟨i,List.mem_range.2 hi,by rw [h];exact Bool.false_ne_true⟩
theorem fC {f:Nat→Bool}{n:Nat}(h:∀ i,i<n→f i=true):oE f n=true:=by
 unfold oE;rw [List.all_eq_true];exact fun i hi=>h i (List.mem_range.1 hi)
theorem fY {f:Nat→Bool}{n i:Nat}(h:oE f n=true)(hi:i<n):f i=true:=List.all_eq_true.1 h i (List.mem_range.2 hi)
def C8 (l:List Pt)(i:Nat):Bool:=bV (jG l i)&&(decide (i=0) || gC (jG l (i - 1)) (jG l i))
def bfE (d e:Ed):Bool:=decide (d.a<e.a) || (decide (d.a=e.a)&&decide (d.b<e.b))
def I0 (l:List Pt)(m:List Ed)(i:Nat):Bool :=
 decide (0≤(cH m i).a)&&decide ((cH m i).a<(cH m i).b)&&decide ((cH m i).b<l.length)&&decide (-1≤(cH m i).n)&&decide ((cH m i).n<200)&&(decide (i=0) || bfE (cH m (i - 1)) (cH m i))
def m7 (m:List Ed)(s:List Bool):Nat→List Bool
 |0=>s
 |i+1=>((m7 m s i).set (cH m i).a.toNat true).set (cH m i).b.toNat true
theorem AU (m:List Ed)(s:List Bool):∀ i,(m7 m s i).length=s.length
 |0=>rfl
 |i+1=>by unfold m7;rw [List.length_set,List.length_set];exact AU m s i
def D4 (l:List Pt)(m:List Ed)(i k:Nat):Bool:=decide (fT (cY l m i) (cY l m k)=0) || decide (fT (cY l m i) (cY l m k)=1)
def ZH (l:List Pt)(m:List Ed)(n:Int):Bool:=decide (l.length≤400)&&decide (3≤m.length)&&decide (m.length≤400)&&decide (1≤n)&&decide (n≤100)
def dG (l:List Pt)(m:List Ed)(n:Int):Bool:=ZH l m n&&(oE (C8 l) l.length&&(oE (I0 l m) m.length&&(m7 m (List.replicate l.length false) m.length).all id))
def iD (l:List Pt)(m:List Ed)(n:Int):Bool:=dG l m n&&oE (fun i=>oE (fun k=>D4 l m i k) i) m.length
theorem LU {l:List Pt}{m:List Ed}(hl:l.length≤1000)(hm:m.length≤1000)(h1:∀ i,i<l.length→C8 l i=true)(h2:∀ i,i<m.length→I0 l m i=true):pU l m=true:=by
 simp only [pU,Bool.and_eq_true,decide_eq_true_eq];refine⟨⟨⟨List.all_eq_true.2 fun p hp=>?_,List.all_eq_true.2 fun e he=>?_⟩,hm⟩,hl⟩
 ·obtain⟨i,hi,rfl⟩:=List.getElem_of_mem hp;have:=h1 i hi;rw [C8,n9 hi,Bool.and_eq_true] at this;exact oY this.1
 obtain⟨i,hi,rfl⟩:=List.getElem_of_mem he;have:=h2 i hi;rw [I0,LS hi] at this;simp only [Bool.and_eq_true,decide_eq_true_eq] at this ⊢;omega
theorem aHT {l:List Pt}{m:List Ed}{n:Int}(h:ZH l m n=false):iD l m n=false:=by simp [iD,dG,h]
theorem T3 {l:List Pt}{m:List Ed}{n:Int}{i:Nat}(hi:i<l.length)(h:C8 l i=false):iD l m n=false:=by simp [iD,dG,fN hi h]
theorem pT {l:List Pt}{m:List Ed}{n:Int}{i:Nat}(hi:i<m.length)(h:I0 l m i=false):iD l m n=false:=by simp [iD,dG,fN hi h]
theorem aHI {l:List Pt}{m:List Ed}{n:Int}(h:(m7 m (List.replicate l.length false) m.length).all id=false):iD l m n=false:=by simp [iD,dG,h]
theorem aBj {l:List Pt}{m:List Ed}{n:Int}{i k:Nat}(hi:i<m.length)(hk:k<i)(h:D4 l m i k=false):iD l m n=false:=by
 have:oE (fun k=>D4 l m i k) i=false:=fN hk h;have:oE (fun i=>oE (fun k=>D4 l m i k) i) m.length=false:=fN hi this;simp [iD,this]
theorem aHd {l:List Pt}{m:List Ed}{n:Int}(h:ZH l m n=false):dG l m n=false:=by simp [dG,h]
theorem aBD {l:List Pt}{m:List Ed}{n:Int}{i:Nat}(hi:i<l.length)(h:C8 l i=false):dG l m n=false:=by simp [dG,fN hi h]
theorem B3 {l:List Pt}{m:List Ed}{n:Int}{i:Nat}(hi:i<m.length)(h:I0 l m i=false):dG l m n=false:=by simp [dG,fN hi h]
end Go.Aw
end

noncomputable section
namespace Go.Aw
set_option maxRecDepth 100000
theorem nS {l:List Pt}{m:List Ed}{i:Nat}{ed:Ed}(hed:cH m i=ed)(h:¬ (0≤ed.a∧ed.a<ed.b∧ed.b<l.length∧-1≤ed.n∧ed.n<200)):I0 l m i=false:=by
 cases hb:I0 l m i with
 |false=>rfl
 |true =>
  rw [I0,hed] at hb;simp only [Bool.and_eq_true,decide_eq_true_eq] at hb;exact absurd ⟨hb.1.1.1.1.1,hb.1.1.1.1.2,hb.1.1.1.2,hb.1.1.2,hb.1.2⟩ h
theorem UM {l:List Pt}{m:List Ed}{i:Nat}{ed d:Ed}(hed:cH m i=ed)(hd:cH m (i - 1)=d)(hi:i≠0)(h:bfE d ed=false):I0 l m i=false:=by
 rw [I0,hed,hd,h,decide_eq_false hi,Bool.or_false,Bool.and_false]
theorem z8 {l:List Pt}{m:List Ed}{i:Nat}{ed:Ed}(hed:cH m i=ed)(h:0≤ed.a∧ed.a<ed.b∧ed.b<l.length∧-1≤ed.n∧ed.n<200)(ho:(decide (i=0) || bfE (cH m (i - 1)) ed)=true):I0 l m i=true:=by
 rw [I0,hed,ho];simp only [Bool.and_eq_true,decide_eq_true_eq,and_true];omega
def plS (l:List Pt)(m:List Ed)(n:Int):List Value→Option (Bool × Value)
 |[]=>some (decide (l.length≤1000)&&decide (m.length≤1000),.bool (iD l m n))
 |_=>none
theorem aFc {l:List Pt}{m:List Ed}{n:Int}{r:List Value}{v:Value}(h:plS l m n r=some (true,v)):r=[]∧l.length≤1000∧m.length≤1000∧v=.bool (iD l m n):=by
 unfold plS at h;split at h
 ·injection h with h;injection h with h1 h2;simp only [Bool.and_eq_true,decide_eq_true_eq] at h1;exact⟨rfl,h1.1,h1.2,h2.symm⟩
 ·cases h
def JB (s:Value)(j:Int):List (Nat × Value):=[(1,.pointer (some ⟨2,0,none⟩)),(3,s),(4,iv j)]
def YC (z:Int):List (Nat × Value):=[(1,.pointer (some ⟨2,0,none⟩)),(3,.slice none 0 0),(6,iv z)]
def w7 (N:Nat)(j:Int):List (Nat × Value):=[(1,.pointer (some ⟨2,0,none⟩)),(3,.slice (some ⟨3,0,none⟩) N N),(6,iv j)]
def KG (N:Nat)(j:Int):List (Nat × Value):=[(1,.pointer (some ⟨2,0,none⟩)),(3,.slice (some ⟨3,0,none⟩) N N),(9,iv j)]
def uI (j:Int):List (Nat × Value):=[(1,.pointer (some ⟨2,0,none⟩)),(10,iv j)]
def CH (j k:Int):List (Nat × Value):=(11,iv k)::uI j
def aBn:Nat × XF:=(156,mX aT aW plS)
theorem aJB:cT Go.Proofs.Tryz.prog aBn.1 aBn.2:=uG aT aW (aL (xl:=[X18,aIH,aIj,X25]) (.cons x18 (.cons aLX (.cons aLQ (.cons x25 .nil))))) fun l m n r v hs=>by
 obtain⟨rfl,hl,hm,rfl⟩:=aFc hs;clear hs;refine⟨rfl,rfl,fun c1 c2=>?_⟩;have hszf:¬ (l.length≤400∧3≤m.length∧m.length≤400∧1≤n∧n≤100)→iD l m n=false:=fun h=>aHT (by
  cases hz:ZH l m n with
  |false=>rfl
  |true=>simp only [ZH,Bool.and_eq_true,decide_eq_true_eq] at hz;exact absurd ⟨hz.1.1.1.1,hz.1.1.1.2,hz.1.1.2,hz.1.2,hz.2⟩ h)
 ((conv=>whnf);apply bm<;>intro a1);rotate_left
 ·have a1:400<l.length:=(by simp [aA,aC] at a1;omega);(conv=>whnf);rw [hszf (by omega)]
 have a1:¬ 400<l.length:=(by simp [aA,aC] at a1;omega);((conv=>whnf);apply bm<;>intro a2);rotate_left
 ·have a2:m.length<3:=(by simp [aA,aC] at a2;omega);(conv=>whnf);rw [hszf (by omega)]
 have a2:¬ m.length<3:=(by simp [aA,aC] at a2;omega);((conv=>whnf);apply bm<;>intro a3);rotate_left
 ·have a3:400<m.length:=(by simp [aA,aC] at a3;omega);(conv=>whnf);rw [hszf (by omega)]
 have a3:¬ 400<m.length:=(by simp [aA,aC] at a3;omega);((conv=>whnf);apply bm<;>intro a4);rotate_left
 ·have a4:n<1:=(by simp [aA,aC] at a4;omega);(conv=>whnf);rw [hszf (by omega)]
 have a4:¬ n<1:=(by simp [aA,aC] at a4;omega);((conv=>whnf);apply bm<;>intro a5)
 ·have a5:100<n:=(by simp [aA,aC] at a5;omega);(conv=>whnf);rw [hszf (by omega)]
 have a5:¬ 100<n:=(by simp [aA,aC] at a5;omega);have hsz:ZH l m n=true:=by
  simp only [ZH,Bool.and_eq_true,decide_eq_true_eq];omega
 clear hszf;(conv=>whnf)
 refine⟨fun q e h nx=>∃ (i:Nat) (j:Int),j=i∧i≤l.length∧q=l.length - i∧(∀ t,t<i→C8 l t=true) ∧
  ((i=0∧e=JB (.slice none 0 0) j∧h=cJ l m c1 c2 n∧nx=3)∨(0<i∧e=JB (.slice (some ⟨3,0,none⟩) i i) j∧h=bO l m c1 c2 n (List.replicate i false)∧nx=4)),⟨l.length,?_⟩,?_⟩
 ·refine aO (e0:=JB (.slice none 0 0) 0) (h0:=cJ l m c1 c2 n) (n0:=3) ⟨0,0,rfl,Nat.zero_le _,rfl,fun t ht=>absurd ht (Nat.not_lt_zero t),.inl ⟨rfl,rfl,rfl,rfl⟩⟩ ?_ ?_ (by decide)
  ·unfold JB;((repeat' refine iE rfl rfl ?_);exact iN)
  unfold cJ aX aB;((repeat'(first|refine iF rfl rfl ?_|refine iC rfl rfl rfl ?_|refine iJ rfl rfl rfl rfl ?_));exact iN)
 rintro q e h nx ⟨i,j,hj,hi,rfl,hpt,⟨hi0,rfl,rfl,rfl⟩|⟨hip,rfl,rfl,rfl⟩⟩
 ·subst hi0;unfold JB cJ aX aB;((conv=>whnf);apply bm<;>intro b1)
  ·have hlt:0<l.length:=(by simp [aA,aC] at b1;omega);((conv=>whnf);apply bm<;>intro b2);rotate_left
   ·exfalso;simp [aA,aC] at b2;omega
   (conv=>whnf);refine nN (jP l (i:=0) hlt ?_) ?_
   ·show _+Int.toNat j*2=_;omega
   ((conv=>whnf);apply bm<;>intro b3);rotate_left
   ·have hr:bV (jG l 0)=false:=(by simpa [aA,aC] using b3);(conv=>whnf);rw [T3 hlt (show C8 l 0=false by rw [C8,hr];rfl)]
   have hr:bV (jG l 0)=true:=(by simpa [aA,aC] using b3);((conv=>whnf);apply bm<;>intro b4)
   ·exfalso;simp [aA,aC] at b4;omega
   ((conv=>whnf);apply bm<;>intro b5)
   ·(conv=>whnf);refine⟨l.length - 1,by omega,?_⟩
    refine gN (e0:=JB (.slice (some ⟨3,0,none⟩) 1 1) (j+1)) (h0:=bO l m c1 c2 n [false]) (n0:=4) 3 4 (by decide) (by decide)
     ⟨1,j+1,by omega,by omega,rfl,fun t ht=>by rw [show t=0 by omega,C8,hr];rfl,.inr ⟨Nat.one_pos,rfl,rfl,rfl⟩⟩ ?_ ?_ ?_
    ·unfold JB;((repeat' refine iE rfl rfl ?_);exact iN)
    ·unfold bO cJ aX aB;((repeat'(first|refine iF rfl rfl ?_|refine iC rfl rfl rfl ?_|refine iJ rfl rfl rfl rfl ?_));exact iN)
    unfold bO cJ aB;((repeat' refine iK rfl ?_);exact iN)
   exfalso;simp [aA,aC,aF] at b5;omega
  have h0:l.length=0:=(by simp [aA,aC] at b1;omega);have hno:∀ ed,cH m 0=ed→I0 l m 0=false:=fun ed hed=>nS hed (by omega);(conv=>whnf);refine⟨fun q e h nx=>∃ z:Int,z=0∧e=YC z∧h=cJ l m c1 c2 n∧nx=3,⟨0,?_⟩,?_⟩
  ·refine aO (e0:=YC 0) (h0:=cJ l m c1 c2 n) (n0:=3) ⟨0,rfl,rfl,rfl,rfl⟩ ?_ ?_ (by decide)
   ·unfold YC;((repeat' refine iE rfl rfl ?_);exact iN)
   unfold cJ aX aB;((repeat'(first|refine iF rfl rfl ?_|refine iC rfl rfl rfl ?_|refine iJ rfl rfl rfl rfl ?_));exact iN)
  rintro q e h nx ⟨z,hz,rfl,rfl,rfl⟩;unfold YC cJ aX aB;((conv=>whnf);apply bm<;>intro d1);rotate_left
  ·exfalso;simp [aA,aC] at d1;omega
  ((conv=>whnf);apply bm<;>intro d2);rotate_left
  ·exfalso;simp [aA,aC] at d2;omega
  (conv=>whnf);refine nN (A2 m (i:=0) (by omega) ?_) ?_
  ·show _+Int.toNat z*5=_;omega
  generalize hed:cH m 0=ed;have hbad:=hno ed hed;((conv=>whnf);apply bm<;>intro f1)
  ·((conv=>whnf);apply bm<;>intro f2)
   ·((conv=>whnf);apply bm<;>intro f3)
    ·exfalso;simp [aA,aC] at f1 f2 f3;omega
    (conv=>whnf);rw [pT (by omega) hbad]
   (conv=>whnf);rw [pT (by omega) hbad]
  (conv=>whnf);rw [pT (by omega) hbad]
 unfold JB bO cJ aX aB;((conv=>whnf);apply bm<;>intro b1)
 ·have hlt:i<l.length:=(by simp [aA,aC] at b1;omega);have hll:(flat gI.fl (List.replicate i false)).length=i:=(by rw [a7,List.length_replicate];exact Nat.mul_one _);((conv=>whnf);apply bm<;>intro b0)
  ·exfalso;have:=Nat.le_of_ble_eq_true b0;omega
  ((conv=>whnf);apply bm<;>intro b00);rotate_left
  ·exact jA (s:=1) (by omega) (by omega) b00
  ((conv=>whnf);apply bm<;>intro b2);rotate_left
  ·exfalso;simp [aA,aC] at b2;omega
  (conv=>whnf);refine nN (jP l (i:=i) hlt ?_) ?_
  ·show _+Int.toNat j*2=_;omega
  ((conv=>whnf);apply bm<;>intro b3);rotate_left
  ·have hr:bV (jG l i)=false:=(by simpa [aA,aC] using b3);(conv=>whnf);rw [T3 hlt (show C8 l i=false by rw [C8,hr];rfl)]
  have hr:bV (jG l i)=true:=(by simpa [aA,aC] using b3);((conv=>whnf);apply bm<;>intro b4);rotate_left
  ·exfalso;simp [aA,aC] at b4;omega
  ((conv=>whnf);apply bm<;>intro b5);rotate_left
  ·exfalso;simp [aA,aC,aF] at b5;omega
  ((conv=>whnf);apply bm<;>intro b6);rotate_left
  ·exfalso;simp [aA,aC] at b6;omega
  (conv=>whnf);refine nN (jP l (i:=i - 1) (by omega) ?_) ?_
  ·show _+Int.toNat (j - 1)*2=_;omega
  ((conv=>whnf);apply bm<;>intro b7);rotate_left
  ·exfalso;simp [aA,aC] at b7;omega
  (conv=>whnf);refine nN (jP l (i:=i) hlt ?_) ?_
  ·show _+Int.toNat j*2=_;omega
  ((conv=>whnf);apply bm<;>intro b8)
  ·have b8:gC (jG l (i - 1)) (jG l i)=false:=(by simpa [aA,aC] using b8);(conv=>whnf);rw [T3 hlt (show C8 l i=false by rw [C8,hr,b8,decide_eq_false (show ¬ i=0 by omega)];rfl)]
  have b8:gC (jG l (i - 1)) (jG l i)=true:=(by simpa [aA,aC] using b8);((conv=>whnf);apply bm<;>intro b9);rotate_left
  ·exfalso;simp [aA,aC,aF] at b9;omega
  (conv=>whnf);refine⟨l.length - (i+1),by omega,?_⟩
  refine gN (e0:=JB (.slice (some ⟨3,0,none⟩) (i+1) (i+1)) (j+1)) (h0:=bO l m c1 c2 n (List.replicate i false++[false])) (n0:=4) 3 5 (by decide) (by decide)
   ⟨i+1,j+1,by omega,by omega,rfl,fun t ht=>?_,.inr ⟨Nat.succ_pos _,rfl,by rw [List.replicate_succ'];rfl,rfl⟩⟩ ?_ ?_ ?_
  ·by_cases hti:t=i
   ·rw [hti,C8,hr,b8];simp
   exact hpt t (by omega)
  ·unfold JB;((repeat' refine iE rfl rfl ?_);exact iN)
  ·unfold bO cJ aX aB;((repeat'(first|refine iW rfl rfl (aU (aH gI _) (cL gI (List.replicate i false) false (by rw [List.length_replicate]))) ?_|refine iF rfl rfl ?_|refine iC rfl rfl rfl ?_|refine iJ rfl rfl rfl rfl ?_));exact iN)
  unfold bO cJ aB;((repeat' refine iK rfl ?_);exact iN)
 have hge:i=l.length:=(by simp [aA,aC] at b1;omega);subst hge;clear b1 hi hip hj;(conv=>whnf);refine⟨fun q e h nx=>∃ (i:Nat) (j:Int),j=i∧i≤m.length∧q=m.length - i∧(∀ t,t<i→I0 l m t=true)∧e=w7 l.length j∧h=bO l m c1 c2 n (m7 m (List.replicate l.length false) i)∧nx=4,⟨m.length,?_⟩,?_⟩
 ·refine aO (e0:=w7 l.length 0) (h0:=bO l m c1 c2 n (List.replicate l.length false)) (n0:=4) ⟨0,0,rfl,Nat.zero_le _,rfl,fun t ht=>absurd ht (Nat.not_lt_zero t),rfl,rfl,rfl⟩ ?_ ?_ (by decide)
  ·unfold w7;((repeat' refine iE rfl rfl ?_);exact iN)
  unfold bO cJ aX aB;((repeat'(first|refine iF rfl rfl ?_|refine iC rfl rfl rfl ?_|refine iJ rfl rfl rfl rfl ?_));exact iN)
 rintro q e h nx ⟨i,j,hj,hi,rfl,hed0,rfl,rfl,rfl⟩;have rl:(m7 m (List.replicate l.length false) i).length=l.length:=(by rw [AU,List.length_replicate]);have nxt:m7 m (List.replicate l.length false) (i+1)=((m7 m (List.replicate l.length false) i).set (cH m i).a.toNat true).set (cH m i).b.toNat true:=rfl;generalize hs0:m7 m (List.replicate l.length false) i=s at rl nxt;have hsl:(flat gI.fl s).length=l.length:=(by rw [a7,rl];exact Nat.mul_one _);unfold w7 bO cJ aX aB;((conv=>whnf);apply bm<;>intro d1);rotate_left
 ·have hge:i=m.length:=(by simp [aA,aC] at d1;omega);subst hge;clear d1 hi hj;have hM:pU l m=true:=LU hl hm hpt hed0;(conv=>whnf);refine⟨fun q e h nx=>∃ (t:Nat) (z:Int),z=t∧t≤l.length∧q=l.length - t∧s.all id=(s.drop t).all id∧e=KG l.length z∧h=bO l m c1 c2 n s∧nx=4,⟨l.length,?_⟩,?_⟩
  ·refine aO (e0:=KG l.length 0) (h0:=bO l m c1 c2 n s) (n0:=4) ⟨0,0,rfl,Nat.zero_le _,rfl,rfl,rfl,rfl,rfl⟩ ?_ ?_ (by decide)
   ·unfold KG;((repeat' refine iE rfl rfl ?_);exact iN)
   unfold bO cJ aX aB;((repeat'(first|refine iF rfl rfl ?_|refine iC rfl rfl rfl ?_|refine iJ rfl rfl rfl rfl ?_));exact iN)
  rintro q e h nx ⟨t,z,hz,ht,rfl,hall,rfl,rfl,rfl⟩;unfold KG bO cJ aX aB;((conv=>whnf);apply bm<;>intro h3)
  ·have htl:t<l.length:=(by simp [aA,aC] at h3;omega);have hd:s.drop t=dD s t::s.drop (t+1):=(by rw [rX (by omega)];exact List.drop_eq_getElem_cons (by omega));rw [hd,List.all_cons] at hall;((conv=>whnf);apply bm<;>intro h4)
   ·(conv=>whnf);refine eC (PJ s (i:=t) (by omega) ?_) ?_
    ·show _+Int.toNat z*1=_;omega
    ((conv=>whnf);apply bm<;>intro h5)
    ·have h5:dD s t=false:=(by simpa [aA,aC] using h5);(conv=>whnf);rw [aHI (by rw [hs0,hall,h5];rfl)]
    have h5:dD s t=true:=(by simpa [aA,aC] using h5);((conv=>whnf);apply bm<;>intro h6)
    ·(conv=>whnf);refine⟨l.length - (t+1),by omega,?_⟩;refine aO (e0:=KG l.length (z+1)) (h0:=bO l m c1 c2 n s) (n0:=4) ⟨t+1,z+1,by omega,by omega,rfl,by rw [hall,h5];rfl,rfl,rfl,rfl⟩ ?_ ?_ (by decide)
     ·unfold KG;((repeat' refine iE rfl rfl ?_);exact iN)
     unfold bO cJ aX aB;((repeat'(first|refine iF rfl rfl ?_|refine iC rfl rfl rfl ?_|refine iJ rfl rfl rfl rfl ?_));exact iN)
    exfalso;simp [aA,aC,aF] at h6;omega
   exfalso;simp [aA,aC] at h4;omega
  have hgt:t=l.length:=(by simp [aA,aC] at h3;omega);have hus:(m7 m (List.replicate l.length false) m.length).all id=true:=by
   rw [hs0,hall,hgt,List.drop_eq_nil_of_le (by omega)];rfl
  have hlst:dG l m n=true:=by
   rw [dG,hsz,fC hpt,fC hed0,hus];rfl
  (conv=>whnf);refine⟨fun q e h nx=>∃ (i:Nat) (j:Int),j=i∧i≤m.length∧q=m.length - i∧(∀ t,t<i→∀ k,k<t→D4 l m t k=true)∧e=uI j∧h=cJ l m c1 c2 n∧nx=4,⟨m.length,?_⟩,?_⟩
  ·refine aO (e0:=uI 0) (h0:=cJ l m c1 c2 n) (n0:=4) ⟨0,0,rfl,Nat.zero_le _,rfl,fun t ht=>absurd ht (Nat.not_lt_zero t),rfl,rfl,rfl⟩ ?_ ?_ (by decide)
   ·unfold uI;((repeat' refine iE rfl rfl ?_);exact iN)
   unfold cJ aX aB;((repeat'(first|refine iF rfl rfl ?_|refine iC rfl rfl rfl ?_|refine iJ rfl rfl rfl rfl ?_));exact iN)
  clear h3 hall ht hz hgt;rintro q e h nx ⟨i,j,hj,hi,rfl,hme,rfl,rfl,rfl⟩;unfold uI cJ aX aB;((conv=>whnf);apply bm<;>intro h3)
  ·have hlt:i<m.length:=(by simp [aA,aC] at h3;omega);(conv=>whnf);refine⟨fun q e h nx=>∃ (k:Nat) (z:Int),z=k∧k≤i∧q=i - k∧(∀ t,t<k→D4 l m i t=true)∧e=CH j z∧h=cJ l m c1 c2 n∧nx=4,⟨i,?_⟩,?_⟩
   ·refine aO (e0:=CH j 0) (h0:=cJ l m c1 c2 n) (n0:=4) ⟨0,0,rfl,Nat.zero_le _,rfl,fun t ht=>absurd ht (Nat.not_lt_zero t),rfl,rfl,rfl⟩ ?_ ?_ (by decide)
    ·unfold CH uI;((repeat' refine iE rfl rfl ?_);exact iN)
    unfold cJ aX aB;((repeat'(first|refine iF rfl rfl ?_|refine iC rfl rfl rfl ?_|refine iJ rfl rfl rfl rfl ?_));exact iN)
   rintro q e h nx ⟨k,z,hz,hk,rfl,hmk,rfl,rfl,rfl⟩;unfold CH uI cJ aX aB;((conv=>whnf);apply bm<;>intro h4)
   ·have hkl:k<i:=(by simp [aA,aC] at h4;omega);have ej:j.toNat=i:=(by omega);have ez:z.toNat=k:=(by omega);(conv=>whnf);refine⟨l,m,aJ aT rfl,aJ aW rfl,?_⟩;((conv=>whnf);apply bm<;>intro h5)
    ·(conv=>whnf);refine⟨l,m,aJ aT rfl,aJ aW rfl,?_⟩;((conv=>whnf);apply bm<;>intro h6)
     ·(conv=>whnf);have em:fT (cY l m j.toNat) (cY l m z.toNat)=fT (cY l m i) (cY l m k):=(by rw [ej,ez]);((conv=>whnf);apply bm<;>intro h7)
      ·have h7:¬ fT (cY l m i) (cY l m k)=0:=(by rw [← em];simpa [aA,aC] using h7);((conv=>whnf);apply bm<;>intro h8)
       ·have h8:¬ fT (cY l m i) (cY l m k)=1:=(by rw [← em];simpa [aA,aC] using h8);(conv=>whnf);rw [aBj hlt hkl (by rw [D4,decide_eq_false h7,decide_eq_false h8];rfl)]
       have h8:fT (cY l m i) (cY l m k)=1:=(by rw [← em];simpa [aA,aC] using h8);have hyes:D4 l m i k=true:=(by rw [D4,decide_eq_true h8,Bool.or_true]);((conv=>whnf);apply bm<;>intro h9)
       ·(conv=>whnf);refine⟨i - (k+1),by omega,?_⟩;refine aO (e0:=CH j (z+1)) (h0:=cJ l m c1 c2 n) (n0:=4) ⟨k+1,z+1,by omega,by omega,rfl,fun t ht=>?_,rfl,rfl,rfl⟩ ?_ ?_ (by decide)
        ·by_cases htk:t=k
         ·rw [htk];exact hyes
         exact hmk t (by omega)
        ·unfold CH uI;((repeat' refine iE rfl rfl ?_);exact iN)
        unfold cJ aX aB;((repeat'(first|refine iF rfl rfl ?_|refine iC rfl rfl rfl ?_|refine iJ rfl rfl rfl rfl ?_));exact iN)
       exfalso;simp [aA,aC,aF] at h9;omega
      have h7:fT (cY l m i) (cY l m k)=0:=(by rw [← em];simpa [aA,aC] using h7);have hyes:D4 l m i k=true:=(by rw [D4,decide_eq_true h7,Bool.true_or]);((conv=>whnf);apply bm<;>intro h9)
      ·(conv=>whnf);refine⟨i - (k+1),by omega,?_⟩;refine aO (e0:=CH j (z+1)) (h0:=cJ l m c1 c2 n) (n0:=4) ⟨k+1,z+1,by omega,by omega,rfl,fun t ht=>?_,rfl,rfl,rfl⟩ ?_ ?_ (by decide)
       ·by_cases htk:t=k
        ·rw [htk];exact hyes
        exact hmk t (by omega)
       ·unfold CH uI;((repeat' refine iE rfl rfl ?_);exact iN)
       unfold cJ aX aB;((repeat'(first|refine iF rfl rfl ?_|refine iC rfl rfl rfl ?_|refine iJ rfl rfl rfl rfl ?_));exact iN)
      exfalso;simp [aA,aC,aF] at h9;omega
     exfalso;have h6:(pU l m&&(decide (0≤z)&&decide (z<m.length)))=false:=h6;rw [hM,decide_eq_true (show 0≤z by omega),decide_eq_true (show z<m.length by omega)] at h6;cases h6
    exfalso;have h5:(pU l m&&(decide (0≤j)&&decide (j<m.length)))=false:=h5;rw [hM,decide_eq_true (show 0≤j by omega),decide_eq_true (show j<m.length by omega)] at h5;cases h5
   have hge:k=i:=(by simp [aA,aC] at h4;omega);((conv=>whnf);apply bm<;>intro h5)
   ·(conv=>whnf);refine⟨m.length - (i+1),by omega,?_⟩;refine aO (e0:=uI (j+1)) (h0:=cJ l m c1 c2 n) (n0:=4) ⟨i+1,j+1,by omega,by omega,rfl,fun t ht=>?_,rfl,rfl,rfl⟩ ?_ ?_ (by decide)
    ·by_cases hti:t=i
     ·rw [hti];exact fun k' hk'=>hmk k' (by omega)
     exact hme t (by omega)
    ·unfold uI;((repeat' refine iE rfl rfl ?_);exact iN)
    unfold cJ aX aB;((repeat'(first|refine iF rfl rfl ?_|refine iC rfl rfl rfl ?_|refine iJ rfl rfl rfl rfl ?_));exact iN)
   exfalso;simp [aA,aC,aF] at h5;omega
  have hge:i=m.length:=(by simp [aA,aC] at h3;omega);(conv=>whnf);rw [iD,hlst,fC (fun i hi=>fC (hme i (by omega)))];rfl
 have hlt:i<m.length:=(by simp [aA,aC] at d1;omega);((conv=>whnf);apply bm<;>intro d2);rotate_left
 ·exfalso;simp [aA,aC] at d2;omega
 (conv=>whnf);refine nN (A2 m (i:=i) hlt ?_) ?_
 ·show _+Int.toNat j*5=_;omega
 generalize hed:cH m i=ed at nxt;((conv=>whnf);apply bm<;>intro f1);rotate_left
 ·have f1:¬ 0≤ed.a:=(by simp [aA,aC] at f1;omega);(conv=>whnf);rw [pT hlt (nS hed (by omega))]
 have f1:0≤ed.a:=(by simp [aA,aC] at f1;omega);((conv=>whnf);apply bm<;>intro f2);rotate_left
 ·have f2:¬ ed.a<ed.b:=(by simp [aA,aC] at f2;omega);(conv=>whnf);rw [pT hlt (nS hed (by omega))]
 have f2:ed.a<ed.b:=(by simp [aA,aC] at f2;omega);((conv=>whnf);apply bm<;>intro f3);rotate_left
 ·have f3:¬ ed.b<l.length:=(by simp [aA,aC] at f3;omega);(conv=>whnf);rw [pT hlt (nS hed (by omega))]
 have f3:ed.b<l.length:=(by simp [aA,aC] at f3;omega);((conv=>whnf);apply bm<;>intro f4);rotate_left
 ·have f4:¬ -1≤ed.n:=(by simp [aA,aC] at f4;omega);(conv=>whnf);rw [pT hlt (nS hed (by omega))]
 have f4 : -1≤ed.n:=(by simp [aA,aC] at f4;omega);((conv=>whnf);apply bm<;>intro f5)
 ·have f5:200≤ed.n:=(by simp [aA,aC] at f5;omega);(conv=>whnf);rw [pT hlt (nS hed (by omega))]
 have f5:ed.n<200:=(by simp [aA,aC] at f5;omega);((conv=>whnf);apply bm<;>intro f6);rotate_left
 ·have f6:i=0:=(by simp [aA,aC] at f6;omega);have hyes:I0 l m i=true:=z8 hed ⟨f1,f2,f3,f4,f5⟩ (by simp [f6]);((conv=>whnf);apply bm<;>intro k1)
  ·((conv=>whnf);apply bm<;>intro k2)
   ·((conv=>whnf);apply bm<;>intro k3)
    ·((conv=>whnf);apply bm<;>intro k4)
     ·((conv=>whnf);apply bm<;>intro k5)
      ·(conv=>whnf);refine⟨m.length - (i+1),by omega,?_⟩;refine aO (e0:=w7 l.length (j+1)) (h0:=bO l m c1 c2 n (m7 m (List.replicate l.length false) (i+1))) (n0:=4) ⟨i+1,j+1,by omega,by omega,rfl,fun t ht=>?_,rfl,rfl,rfl⟩ ?_ ?_ (by decide)
       ·by_cases hti:t=i
        ·rw [hti];exact hyes
        exact hed0 t (by omega)
       ·unfold w7;((repeat' refine iE rfl rfl ?_);exact iN)
       unfold bO cJ aX aB;have bZ:=R3 (s:=s) (a:=ed.a.toNat) (b:=ed.b.toNat) (o1:=0+ed.a.toNat*1) (o2:=0+ed.b.toNat*1) (by omega) (by omega) (by omega) (by omega);rw [nxt];((repeat'(first|refine iW rfl rfl (aU (aH gI _) bZ) ?_|refine iF rfl rfl ?_|refine iC rfl rfl rfl ?_|refine iJ rfl rfl rfl rfl ?_));exact iN)
      exfalso;simp [aA,aC,aF] at k5;omega
     have hpl:(cN (flat gI.fl s) (0+ed.a.toNat*1) [.bool true]).length=l.length:=(by rw [dN (by rw [hsl];show 0+ed.a.toNat*1+1≤l.length;omega)];exact hsl);have k4:(0+ed.b.toNat*1+1).ble (cN (flat gI.fl s) (0+ed.a.toNat*1) [.bool true]).length=false:=k4;rw [hpl] at k4;exact eZ k4 (by omega)
    exfalso;simp [aA,aC] at k3;omega
   rw [hsl] at k2;exact eZ k2 (by show 0+ed.a.toNat*1+1≤l.length;omega)
  exfalso;simp [aA,aC] at k1;omega
 have f6:0<i:=(by simp [aA,aC] at f6;omega);((conv=>whnf);apply bm<;>intro f7);rotate_left
 ·exfalso;simp [aA,aC,aF] at f7;omega
 ((conv=>whnf);apply bm<;>intro f8);rotate_left
 ·exfalso;simp [aA,aC] at f8;omega
 (conv=>whnf);refine nN (A2 m (i:=i - 1) (by omega) ?_) ?_
 ·show _+Int.toNat (j - 1)*5=_;omega
 generalize hd0:cH m (i - 1)=dd;((conv=>whnf);apply bm<;>intro f9);rotate_left
 ·have f9:ed.a<dd.a:=(by simp [aA,aC] at f9;omega);(conv=>whnf);rw [pT hlt (UM hed hd0 (by omega) (by unfold bfE;simp;omega))]
 have f9:¬ ed.a<dd.a:=(by simp [aA,aC] at f9;omega);((conv=>whnf);apply bm<;>intro f10);rotate_left
 ·have f10:¬ dd.a=ed.a:=(by simpa [aA,aC] using f10);have hyes:I0 l m i=true:=z8 hed ⟨f1,f2,f3,f4,f5⟩ (by rw [hd0];unfold bfE;simp;omega);((conv=>whnf);apply bm<;>intro k1)
  ·((conv=>whnf);apply bm<;>intro k2)
   ·((conv=>whnf);apply bm<;>intro k3)
    ·((conv=>whnf);apply bm<;>intro k4)
     ·((conv=>whnf);apply bm<;>intro k5)
      ·(conv=>whnf);refine⟨m.length - (i+1),by omega,?_⟩;refine aO (e0:=w7 l.length (j+1)) (h0:=bO l m c1 c2 n (m7 m (List.replicate l.length false) (i+1))) (n0:=4) ⟨i+1,j+1,by omega,by omega,rfl,fun t ht=>?_,rfl,rfl,rfl⟩ ?_ ?_ (by decide)
       ·by_cases hti:t=i
        ·rw [hti];exact hyes
        exact hed0 t (by omega)
       ·unfold w7;((repeat' refine iE rfl rfl ?_);exact iN)
       unfold bO cJ aX aB;have bZ:=R3 (s:=s) (a:=ed.a.toNat) (b:=ed.b.toNat) (o1:=0+ed.a.toNat*1) (o2:=0+ed.b.toNat*1) (by omega) (by omega) (by omega) (by omega);rw [nxt];((repeat'(first|refine iW rfl rfl (aU (aH gI _) bZ) ?_|refine iF rfl rfl ?_|refine iC rfl rfl rfl ?_|refine iJ rfl rfl rfl rfl ?_));exact iN)
      exfalso;simp [aA,aC,aF] at k5;omega
     have hpl:(cN (flat gI.fl s) (0+ed.a.toNat*1) [.bool true]).length=l.length:=(by rw [dN (by rw [hsl];show 0+ed.a.toNat*1+1≤l.length;omega)];exact hsl);have k4:(0+ed.b.toNat*1+1).ble (cN (flat gI.fl s) (0+ed.a.toNat*1) [.bool true]).length=false:=k4;rw [hpl] at k4;exact eZ k4 (by omega)
    exfalso;simp [aA,aC] at k3;omega
   rw [hsl] at k2;exact eZ k2 (by show 0+ed.a.toNat*1+1≤l.length;omega)
  exfalso;simp [aA,aC] at k1;omega
 have f10:dd.a=ed.a:=(by simpa [aA,aC] using f10);((conv=>whnf);apply bm<;>intro f11)
 ·have f11:ed.b≤dd.b:=(by simp [aA,aC] at f11;omega);(conv=>whnf);rw [pT hlt (UM hed hd0 (by omega) (by unfold bfE;simp;omega))]
 have f11:dd.b<ed.b:=(by simp [aA,aC] at f11;omega);have hyes:I0 l m i=true:=z8 hed ⟨f1,f2,f3,f4,f5⟩ (by rw [hd0];unfold bfE;simp;omega);((conv=>whnf);apply bm<;>intro k1);rotate_left
 ·exfalso;simp [aA,aC] at k1;omega
 ((conv=>whnf);apply bm<;>intro k2);rotate_left
 ·rw [hsl] at k2;exact eZ k2 (by show 0+ed.a.toNat*1+1≤l.length;omega)
 ((conv=>whnf);apply bm<;>intro k3);rotate_left
 ·exfalso;simp [aA,aC] at k3;omega
 ((conv=>whnf);apply bm<;>intro k4);rotate_left
 ·have hpl:(cN (flat gI.fl s) (0+ed.a.toNat*1) [.bool true]).length=l.length:=(by rw [dN (by rw [hsl];show 0+ed.a.toNat*1+1≤l.length;omega)];exact hsl);have k4:(0+ed.b.toNat*1+1).ble (cN (flat gI.fl s) (0+ed.a.toNat*1) [.bool true]).length=false:=k4;rw [hpl] at k4;exact eZ k4 (by omega)
 ((conv=>whnf);apply bm<;>intro k5)
 ·(conv=>whnf);refine⟨m.length - (i+1),by omega,?_⟩;refine aO (e0:=w7 l.length (j+1)) (h0:=bO l m c1 c2 n (m7 m (List.replicate l.length false) (i+1))) (n0:=4) ⟨i+1,j+1,by omega,by omega,rfl,fun t ht=>?_,rfl,rfl,rfl⟩ ?_ ?_ (by decide)
  ·by_cases hti:t=i
   ·rw [hti];exact hyes
   exact hed0 t (by omega)
  ·unfold w7;((repeat' refine iE rfl rfl ?_);exact iN)
  unfold bO cJ aX aB;have bZ:=R3 (s:=s) (a:=ed.a.toNat) (b:=ed.b.toNat) (o1:=0+ed.a.toNat*1) (o2:=0+ed.b.toNat*1) (by omega) (by omega) (by omega) (by omega);rw [nxt];((repeat'(first|refine iW rfl rfl (aU (aH gI _) bZ) ?_|refine iF rfl rfl ?_|refine iC rfl rfl rfl ?_|refine iJ rfl rfl rfl rfl ?_));exact iN)
 exfalso;simp [aA,aC,aF] at k5;omega
end Go.Aw
end
