/-
  Parts of a proof. No condition.
-/
import Derived.Test.YtjahkcbdecgbhaaGreatQAt
set_option linter.unusedSimpArgs false
set_option linter.unusedVariables false
noncomputable section
namespace Go.Aw
set_option maxRecDepth 100000
def cW (l:List Pt)(m:List Ed)(i:Nat):Sg:=(dY l (cO m i).a,dY l (cO m i).b)
def sgS:MS:=sMD fun l m _ d=>(oG l m&&(decide (0≤d)&&decide (d<m.length)),sgv (cW l m d.toNat))
def aJ2:Nat × XF:=(74,mX aP aS sgS)
theorem aMU:cH Go.Proofs.Tryz.prog aJ2.1 aJ2.2:=rY aP aS (aL (xl:=[]) .nil) fun l m n r v hs=>by
 obtain⟨d,rfl,hd,rfl⟩:=uV hs;clear hs;simp only [Bool.and_eq_true,decide_eq_true_eq] at hd;obtain⟨hM,h0,hd⟩:=hd;have he:=pJ hM (i:=d.toNat) (by omega);refine⟨rfl,rfl,fun c1 c2=>?_⟩;((conv=>whnf);refine bm (fun h1=>?_) (fun h1=>?_))
 ·(conv=>whnf);refine gI (IV m 0 (i:=d.toNat) (by omega) rfl (by decide) ?_) ?_
  ·show _+Int.toNat d*5+0=_;omega
  ((conv=>whnf);refine bm (fun h2=>?_) (fun h2=>?_))
  ·(conv=>whnf);refine nV (jO l (i:=(cO m d.toNat).a.toNat) (by omega) ?_) ?_
   ·show _+Int.toNat (cO m d.toNat).a*2=_;omega
   ((conv=>whnf);refine bm (fun h3=>?_) (fun h3=>?_))
   ·(conv=>whnf);refine gI (IV m 1 (i:=d.toNat) (by omega) rfl (by decide) ?_) ?_
    ·show _+Int.toNat d*5+1=_;omega
    ((conv=>whnf);refine bm (fun h4=>?_) (fun h4=>?_))
    ·(conv=>whnf);refine nV (jO l (i:=(cO m d.toNat).b.toNat) (by omega) ?_) ?_
     ·show _+Int.toNat (cO m d.toNat).b*2=_;omega
     (conv=>whnf);rfl
    ·exfalso;simp [aA,aB] at h4;omega
   ·exfalso;simp [aA,aB] at h3;omega
  ·exfalso;simp [aA,aB] at h2;omega
 ·exfalso;simp [aA,aB] at h1;omega
def aBE:Nat × XF:=(98,mX aP aS sgS)
theorem aKu:cH Go.Proofs.Tryz.prog aBE.1 aBE.2:=rY aP aS (aL (xl:=[]) .nil) fun l m n r v hs=>by
 obtain⟨d,rfl,hd,rfl⟩:=uV hs;clear hs;simp only [Bool.and_eq_true,decide_eq_true_eq] at hd;obtain⟨hM,h0,hd⟩:=hd;have he:=pJ hM (i:=d.toNat) (by omega);refine⟨rfl,rfl,fun c1 c2=>?_⟩;((conv=>whnf);refine bm (fun h1=>?_) (fun h1=>?_))
 ·(conv=>whnf);refine gI (IV m 0 (i:=d.toNat) (by omega) rfl (by decide) ?_) ?_
  ·show _+Int.toNat d*5+0=_;omega
  ((conv=>whnf);refine bm (fun h2=>?_) (fun h2=>?_))
  ·(conv=>whnf);refine nV (jO l (i:=(cO m d.toNat).a.toNat) (by omega) ?_) ?_
   ·show _+Int.toNat (cO m d.toNat).a*2=_;omega
   ((conv=>whnf);refine bm (fun h3=>?_) (fun h3=>?_))
   ·(conv=>whnf);refine gI (IV m 1 (i:=d.toNat) (by omega) rfl (by decide) ?_) ?_
    ·show _+Int.toNat d*5+1=_;omega
    ((conv=>whnf);refine bm (fun h4=>?_) (fun h4=>?_))
    ·(conv=>whnf);refine nV (jO l (i:=(cO m d.toNat).b.toNat) (by omega) ?_) ?_
     ·show _+Int.toNat (cO m d.toNat).b*2=_;omega
     (conv=>whnf);rfl
    ·exfalso;simp [aA,aB] at h4;omega
   ·exfalso;simp [aA,aB] at h3;omega
  ·exfalso;simp [aA,aB] at h2;omega
 ·exfalso;simp [aA,aB] at h1;omega
end Go.Aw
end

noncomputable section
namespace Go.Aw
def nU (f:Nat→Bool)(n:Nat):Bool:=(List.range n).all f
theorem fT {f:Nat→Bool}{n i:Nat}(hi:i<n)(h:f i=false):nU f n=false:=by
 unfold nU;rw [List.all_eq_false];exact⟨i,List.mem_range.2 hi,by rw [h];exact Bool.false_ne_true⟩
theorem fB {f:Nat→Bool}{n:Nat}(h:∀ i,i<n→f i=true):nU f n=true:=by
 unfold nU;rw [List.all_eq_true];exact fun i hi=>h i (List.mem_range.1 hi)
theorem fG {f:Nat→Bool}{n i:Nat}(h:nU f n=true)(hi:i<n):f i=true:=List.all_eq_true.1 h i (List.mem_range.2 hi)
def DB (l:List Pt)(i:Nat):Bool:=bU (iB l i)&&(decide (i=0) || gH (iB l (i - 1)) (iB l i))
def bfE (d e:Ed):Bool:=decide (d.a<e.a) || (decide (d.a=e.a)&&decide (d.b<e.b))
def IW (l:List Pt)(m:List Ed)(i:Nat):Bool :=
 decide (0≤(cO m i).a)&&decide ((cO m i).a<(cO m i).b)&&decide ((cO m i).b<l.length)&&decide (-1≤(cO m i).n)&&decide ((cO m i).n<200)&&(decide (i=0) || bfE (cO m (i - 1)) (cO m i))
def nA (m:List Ed)(s:List Bool):Nat→List Bool
 |0=>s
 |i+1=>((nA m s i).set (cO m i).a.toNat true).set (cO m i).b.toNat true
theorem y5 (m:List Ed)(s:List Bool):∀ i,(nA m s i).length=s.length
 |0=>rfl
 |i+1=>by unfold nA;rw [List.length_set,List.length_set];exact y5 m s i
def DL (l:List Pt)(m:List Ed)(i k:Nat):Bool:=decide (fV (cW l m i) (cW l m k)=0) || decide (fV (cW l m i) (cW l m k)=1)
def YP (l:List Pt)(m:List Ed)(n:Int):Bool:=decide (l.length≤400)&&decide (3≤m.length)&&decide (m.length≤400)&&decide (1≤n)&&decide (n≤100)
def cX (l:List Pt)(m:List Ed)(n:Int):Bool:=YP l m n&&(nU (DB l) l.length&&(nU (IW l m) m.length&&(nA m (List.replicate l.length false) m.length).all id))
def gG (l:List Pt)(m:List Ed)(n:Int):Bool:=cX l m n&&nU (fun i=>nU (fun k=>DL l m i k) i) m.length
theorem M4 {l:List Pt}{m:List Ed}(hl:l.length≤1000)(hm:m.length≤1000)(h1:∀ i,i<l.length→DB l i=true)(h2:∀ i,i<m.length→IW l m i=true):oG l m=true:=by
 simp only [oG,Bool.and_eq_true,decide_eq_true_eq];refine⟨⟨⟨List.all_eq_true.2 fun p hp=>?_,List.all_eq_true.2 fun e he=>?_⟩,hm⟩,hl⟩
 ·obtain⟨i,hi,rfl⟩:=List.getElem_of_mem hp;have:=h1 i hi;rw [DB,mO hi,Bool.and_eq_true] at this;exact oS this.1
 ·obtain⟨i,hi,rfl⟩:=List.getElem_of_mem he;have:=h2 i hi;rw [IW,LN hi] at this;simp only [Bool.and_eq_true,decide_eq_true_eq] at this ⊢;omega
theorem aHW {l:List Pt}{m:List Ed}{n:Int}(h:YP l m n=false):gG l m n=false:=by simp [gG,cX,h]
theorem TW {l:List Pt}{m:List Ed}{n:Int}{i:Nat}(hi:i<l.length)(h:DB l i=false):gG l m n=false:=by simp [gG,cX,fT hi h]
theorem pR {l:List Pt}{m:List Ed}{n:Int}{i:Nat}(hi:i<m.length)(h:IW l m i=false):gG l m n=false:=by simp [gG,cX,fT hi h]
theorem aI0 {l:List Pt}{m:List Ed}{n:Int}(h:(nA m (List.replicate l.length false) m.length).all id=false):gG l m n=false:=by simp [gG,cX,h]
theorem aDa {l:List Pt}{m:List Ed}{n:Int}{i k:Nat}(hi:i<m.length)(hk:k<i)(h:DL l m i k=false):gG l m n=false:=by
 have:nU (fun k=>DL l m i k) i=false:=fT hk h;have:nU (fun i=>nU (fun k=>DL l m i k) i) m.length=false:=fT hi this;simp [gG,this]
theorem aIk {l:List Pt}{m:List Ed}{n:Int}(h:YP l m n=false):cX l m n=false:=by simp [cX,h]
theorem aD0 {l:List Pt}{m:List Ed}{n:Int}{i:Nat}(hi:i<l.length)(h:DB l i=false):cX l m n=false:=by simp [cX,fT hi h]
theorem A5 {l:List Pt}{m:List Ed}{n:Int}{i:Nat}(hi:i<m.length)(h:IW l m i=false):cX l m n=false:=by simp [cX,fT hi h]
end Go.Aw
end

noncomputable section
namespace Go.Aw
set_option maxRecDepth 100000
theorem oE {l:List Pt}{m:List Ed}{i:Nat}{ed:Ed}(hed:cO m i=ed)(h:¬ (0≤ed.a∧ed.a<ed.b∧ed.b<l.length∧-1≤ed.n∧ed.n<200)):IW l m i=false:=by
 cases hb:IW l m i with
 |false=>rfl
 |true =>
  rw [IW,hed] at hb;simp only [Bool.and_eq_true,decide_eq_true_eq] at hb;exact absurd ⟨hb.1.1.1.1.1,hb.1.1.1.1.2,hb.1.1.1.2,hb.1.1.2,hb.1.2⟩ h
theorem TJ {l:List Pt}{m:List Ed}{i:Nat}{ed d:Ed}(hed:cO m i=ed)(hd:cO m (i - 1)=d)(hi:i≠0)(h:bfE d ed=false):IW l m i=false:=by
 rw [IW,hed,hd,h,decide_eq_false hi,Bool.or_false,Bool.and_false]
theorem zM {l:List Pt}{m:List Ed}{i:Nat}{ed:Ed}(hed:cO m i=ed)(h:0≤ed.a∧ed.a<ed.b∧ed.b<l.length∧-1≤ed.n∧ed.n<200)(ho:(decide (i=0) || bfE (cO m (i - 1)) ed)=true):IW l m i=true:=by
 rw [IW,hed,ho];simp only [Bool.and_eq_true,decide_eq_true_eq,and_true];omega
def plS (l:List Pt)(m:List Ed)(n:Int):List Value→Option (Bool × Value)
 |[]=>some (decide (l.length≤1000)&&decide (m.length≤1000),.bool (gG l m n))
 |_=>none
theorem aED {l:List Pt}{m:List Ed}{n:Int}{r:List Value}{v:Value}(h:plS l m n r=some (true,v)):r=[]∧l.length≤1000∧m.length≤1000∧v=.bool (gG l m n):=by
 unfold plS at h;split at h
 ·injection h with h;injection h with h1 h2;simp only [Bool.and_eq_true,decide_eq_true_eq] at h1;exact⟨rfl,h1.1,h1.2,h2.symm⟩
 ·cases h
def HY (s:Value)(j:Int):List (Nat × Value):=[(1,.pointer (some ⟨2,0,none⟩)),(3,s),(4,iv j)]
def V8 (z:Int):List (Nat × Value):=[(1,.pointer (some ⟨2,0,none⟩)),(3,.slice none 0 0),(6,iv z)]
def wM (N:Nat)(j:Int):List (Nat × Value):=[(1,.pointer (some ⟨2,0,none⟩)),(3,.slice (some ⟨3,0,none⟩) N N),(6,iv j)]
def JJ (N:Nat)(j:Int):List (Nat × Value):=[(1,.pointer (some ⟨2,0,none⟩)),(3,.slice (some ⟨3,0,none⟩) N N),(9,iv j)]
def s8 (j:Int):List (Nat × Value):=[(1,.pointer (some ⟨2,0,none⟩)),(10,iv j)]
def B4 (j k:Int):List (Nat × Value):=(11,iv k)::s8 j
def aBg:Nat × XF:=(156,mX aP aS plS)
theorem aKb:cH Go.Proofs.Tryz.prog aBg.1 aBg.2:=rY aP aS (aL (xl:=[X18,aIH,aJ2,X25]) (.cons x18 (.cons aLS (.cons aMU (.cons x25 .nil))))) fun l m n r v hs=>by
 obtain⟨rfl,hl,hm,rfl⟩:=aED hs;clear hs;refine⟨rfl,rfl,fun c1 c2=>?_⟩;have hszf:¬ (l.length≤400∧3≤m.length∧m.length≤400∧1≤n∧n≤100)→gG l m n=false:=fun h=>aHW (by
  cases hz:YP l m n with
  |false=>rfl
  |true=>simp only [YP,Bool.and_eq_true,decide_eq_true_eq] at hz;exact absurd ⟨hz.1.1.1.1,hz.1.1.1.2,hz.1.1.2,hz.1.2,hz.2⟩ h)
 ((conv=>whnf);refine bm (fun a1=>?_) (fun a1=>?_))
 ·have a1:¬ 400<l.length:=(by simp [aA,aB] at a1;omega);((conv=>whnf);refine bm (fun a2=>?_) (fun a2=>?_))
  ·have a2:¬ m.length<3:=(by simp [aA,aB] at a2;omega);((conv=>whnf);refine bm (fun a3=>?_) (fun a3=>?_))
   ·have a3:¬ 400<m.length:=(by simp [aA,aB] at a3;omega);((conv=>whnf);refine bm (fun a4=>?_) (fun a4=>?_))
    ·have a4:¬ n<1:=(by simp [aA,aB] at a4;omega);((conv=>whnf);refine bm (fun a5=>?_) (fun a5=>?_))
     ·have a5:100<n:=(by simp [aA,aB] at a5;omega);(conv=>whnf);rw [hszf (by omega)]
     ·have a5:¬ 100<n:=(by simp [aA,aB] at a5;omega);have hsz:YP l m n=true:=by
       simp only [YP,Bool.and_eq_true,decide_eq_true_eq];omega
      clear hszf;(conv=>whnf)
      refine⟨fun q e h nx=>∃ (i:Nat) (j:Int),j=i∧i≤l.length∧q=l.length - i∧(∀ t,t<i→DB l t=true) ∧
       ((i=0∧e=HY (.slice none 0 0) j∧h=cM l m c1 c2 n∧nx=3)∨(0<i∧e=HY (.slice (some ⟨3,0,none⟩) i i) j∧h=bM l m c1 c2 n (List.replicate i false)∧nx=4)),⟨l.length,?_⟩,?_⟩
      ·refine aM (e0:=HY (.slice none 0 0) 0) (h0:=cM l m c1 c2 n) (n0:=3) ⟨0,0,rfl,Nat.zero_le _,rfl,fun t ht=>absurd ht (Nat.not_lt_zero t),.inl ⟨rfl,rfl,rfl,rfl⟩⟩ ?_ ?_ (by decide)
       ·unfold HY;((repeat' refine iE rfl rfl ?_);exact iN)
       ·unfold cM aY aD;((repeat'(first|refine iF rfl rfl ?_|refine iC rfl rfl rfl ?_|refine iJ rfl rfl rfl rfl ?_));exact iN)
      ·rintro q e h nx ⟨i,j,hj,hi,rfl,hpt,⟨hi0,rfl,rfl,rfl⟩|⟨hip,rfl,rfl,rfl⟩⟩
       ·subst hi0;unfold HY cM aY aD;((conv=>whnf);refine bm (fun b1=>?_) (fun b1=>?_))
        ·have hlt:0<l.length:=(by simp [aA,aB] at b1;omega);((conv=>whnf);refine bm (fun b2=>?_) (fun b2=>?_))
         ·(conv=>whnf);refine nV (jO l (i:=0) hlt ?_) ?_
          ·show _+Int.toNat j*2=_;omega
          ((conv=>whnf);refine bm (fun b3=>?_) (fun b3=>?_))
          ·have hr:bU (iB l 0)=true:=(by simpa [aA,aB] using b3);((conv=>whnf);refine bm (fun b4=>?_) (fun b4=>?_))
           ·exfalso;simp [aA,aB] at b4;omega
           ·((conv=>whnf);refine bm (fun b5=>?_) (fun b5=>?_))
            ·(conv=>whnf);refine⟨l.length - 1,by omega,?_⟩
             refine gM (e0:=HY (.slice (some ⟨3,0,none⟩) 1 1) (j+1)) (h0:=bM l m c1 c2 n [false]) (n0:=4) 3 4 (by decide) (by decide)
              ⟨1,j+1,by omega,by omega,rfl,fun t ht=>by rw [show t=0 by omega,DB,hr];rfl,.inr ⟨Nat.one_pos,rfl,rfl,rfl⟩⟩ ?_ ?_ ?_
             ·unfold HY;((repeat' refine iE rfl rfl ?_);exact iN)
             ·unfold bM cM aY aD;((repeat'(first|refine iF rfl rfl ?_|refine iC rfl rfl rfl ?_|refine iJ rfl rfl rfl rfl ?_));exact iN)
             ·unfold bM cM aD;((repeat' refine iK rfl ?_);exact iN)
            ·exfalso;simp [aA,aB,aI] at b5;omega
          ·have hr:bU (iB l 0)=false:=(by simpa [aA,aB] using b3);(conv=>whnf);rw [TW hlt (show DB l 0=false by rw [DB,hr];rfl)]
         ·exfalso;simp [aA,aB] at b2;omega
        ·have h0:l.length=0:=(by simp [aA,aB] at b1;omega);have hno:∀ ed,cO m 0=ed→IW l m 0=false:=fun ed hed=>oE hed (by omega);(conv=>whnf);refine⟨fun q e h nx=>∃ z:Int,z=0∧e=V8 z∧h=cM l m c1 c2 n∧nx=3,⟨0,?_⟩,?_⟩
         ·refine aM (e0:=V8 0) (h0:=cM l m c1 c2 n) (n0:=3) ⟨0,rfl,rfl,rfl,rfl⟩ ?_ ?_ (by decide)
          ·unfold V8;((repeat' refine iE rfl rfl ?_);exact iN)
          ·unfold cM aY aD;((repeat'(first|refine iF rfl rfl ?_|refine iC rfl rfl rfl ?_|refine iJ rfl rfl rfl rfl ?_));exact iN)
         ·rintro q e h nx ⟨z,hz,rfl,rfl,rfl⟩;unfold V8 cM aY aD;((conv=>whnf);refine bm (fun d1=>?_) (fun d1=>?_))
          ·((conv=>whnf);refine bm (fun d2=>?_) (fun d2=>?_))
           ·(conv=>whnf);refine nV (BS m (i:=0) (by omega) ?_) ?_
            ·show _+Int.toNat z*5=_;omega
            generalize hed:cO m 0=ed;have hbad:=hno ed hed;((conv=>whnf);refine bm (fun f1=>?_) (fun f1=>?_))
            ·((conv=>whnf);refine bm (fun f2=>?_) (fun f2=>?_))
             ·((conv=>whnf);refine bm (fun f3=>?_) (fun f3=>?_))
              ·exfalso;simp [aA,aB] at f1 f2 f3;omega
              ·(conv=>whnf);rw [pR (by omega) hbad]
             ·(conv=>whnf);rw [pR (by omega) hbad]
            ·(conv=>whnf);rw [pR (by omega) hbad]
           ·exfalso;simp [aA,aB] at d2;omega
          ·exfalso;simp [aA,aB] at d1;omega
       ·unfold HY bM cM aY aD;((conv=>whnf);refine bm (fun b1=>?_) (fun b1=>?_))
        ·have hlt:i<l.length:=(by simp [aA,aB] at b1;omega);have hll:(flat eH.fl (List.replicate i false)).length=i:=(by rw [bD,List.length_replicate];exact Nat.mul_one _);((conv=>whnf);refine bm (fun b0=>?_) (fun b0=>?_))
         ·exfalso;have:=Nat.le_of_ble_eq_true b0;omega
         ·((conv=>whnf);refine bm (fun b00=>?_) (fun b00=>?_))
          ·((conv=>whnf);refine bm (fun b2=>?_) (fun b2=>?_))
           ·(conv=>whnf);refine nV (jO l (i:=i) hlt ?_) ?_
            ·show _+Int.toNat j*2=_;omega
            ((conv=>whnf);refine bm (fun b3=>?_) (fun b3=>?_))
            ·have hr:bU (iB l i)=true:=(by simpa [aA,aB] using b3);((conv=>whnf);refine bm (fun b4=>?_) (fun b4=>?_))
             ·((conv=>whnf);refine bm (fun b5=>?_) (fun b5=>?_))
              ·((conv=>whnf);refine bm (fun b6=>?_) (fun b6=>?_))
               ·(conv=>whnf);refine nV (jO l (i:=i - 1) (by omega) ?_) ?_
                ·show _+Int.toNat (j - 1)*2=_;omega
                ((conv=>whnf);refine bm (fun b7=>?_) (fun b7=>?_))
                ·(conv=>whnf);refine nV (jO l (i:=i) hlt ?_) ?_
                 ·show _+Int.toNat j*2=_;omega
                 ((conv=>whnf);refine bm (fun b8=>?_) (fun b8=>?_))
                 ·have b8:gH (iB l (i - 1)) (iB l i)=false:=(by simpa [aA,aB] using b8);(conv=>whnf);rw [TW hlt (show DB l i=false by rw [DB,hr,b8,decide_eq_false (show ¬ i=0 by omega)];rfl)]
                 ·have b8:gH (iB l (i - 1)) (iB l i)=true:=(by simpa [aA,aB] using b8);((conv=>whnf);refine bm (fun b9=>?_) (fun b9=>?_))
                  ·(conv=>whnf);refine⟨l.length - (i+1),by omega,?_⟩
                   refine gM (e0:=HY (.slice (some ⟨3,0,none⟩) (i+1) (i+1)) (j+1)) (h0:=bM l m c1 c2 n (List.replicate i false++[false])) (n0:=4) 3 5 (by decide) (by decide)
                    ⟨i+1,j+1,by omega,by omega,rfl,fun t ht=>?_,.inr ⟨Nat.succ_pos _,rfl,by rw [List.replicate_succ'];rfl,rfl⟩⟩ ?_ ?_ ?_
                   ·by_cases hti:t=i
                    ·rw [hti,DB,hr,b8];simp
                    ·exact hpt t (by omega)
                   ·unfold HY;((repeat' refine iE rfl rfl ?_);exact iN)
                   ·unfold bM cM aY aD;((repeat'(first|refine iW rfl rfl (aZ (aG eH _) (eL eH (List.replicate i false) false (by rw [List.length_replicate]))) ?_|refine iF rfl rfl ?_|refine iC rfl rfl rfl ?_|refine iJ rfl rfl rfl rfl ?_));exact iN)
                   ·unfold bM cM aD;((repeat' refine iK rfl ?_);exact iN)
                  ·exfalso;simp [aA,aB,aI] at b9;omega
                ·exfalso;simp [aA,aB] at b7;omega
               ·exfalso;simp [aA,aB] at b6;omega
              ·exfalso;simp [aA,aB,aI] at b5;omega
             ·exfalso;simp [aA,aB] at b4;omega
            ·have hr:bU (iB l i)=false:=(by simpa [aA,aB] using b3);(conv=>whnf);rw [TW hlt (show DB l i=false by rw [DB,hr];rfl)]
           ·exfalso;simp [aA,aB] at b2;omega
          ·exact nW (s:=1) (by omega) (by omega) b00
        ·have hge:i=l.length:=(by simp [aA,aB] at b1;omega);subst hge;clear b1 hi hip hj;(conv=>whnf);refine⟨fun q e h nx=>∃ (i:Nat) (j:Int),j=i∧i≤m.length∧q=m.length - i∧(∀ t,t<i→IW l m t=true)∧e=wM l.length j∧h=bM l m c1 c2 n (nA m (List.replicate l.length false) i)∧nx=4,⟨m.length,?_⟩,?_⟩
         ·refine aM (e0:=wM l.length 0) (h0:=bM l m c1 c2 n (List.replicate l.length false)) (n0:=4) ⟨0,0,rfl,Nat.zero_le _,rfl,fun t ht=>absurd ht (Nat.not_lt_zero t),rfl,rfl,rfl⟩ ?_ ?_ (by decide)
          ·unfold wM;((repeat' refine iE rfl rfl ?_);exact iN)
          ·unfold bM cM aY aD;((repeat'(first|refine iF rfl rfl ?_|refine iC rfl rfl rfl ?_|refine iJ rfl rfl rfl rfl ?_));exact iN)
         ·rintro q e h nx ⟨i,j,hj,hi,rfl,hed0,rfl,rfl,rfl⟩;have rl:(nA m (List.replicate l.length false) i).length=l.length:=(by rw [y5,List.length_replicate]);have nxt:nA m (List.replicate l.length false) (i+1)=((nA m (List.replicate l.length false) i).set (cO m i).a.toNat true).set (cO m i).b.toNat true:=rfl;generalize hs0:nA m (List.replicate l.length false) i=s at rl nxt;have hsl:(flat eH.fl s).length=l.length:=(by rw [bD,rl];exact Nat.mul_one _);unfold wM bM cM aY aD;((conv=>whnf);refine bm (fun d1=>?_) (fun d1=>?_))
          ·have hlt:i<m.length:=(by simp [aA,aB] at d1;omega);((conv=>whnf);refine bm (fun d2=>?_) (fun d2=>?_))
           ·(conv=>whnf);refine nV (BS m (i:=i) hlt ?_) ?_
            ·show _+Int.toNat j*5=_;omega
            generalize hed:cO m i=ed at nxt;((conv=>whnf);refine bm (fun f1=>?_) (fun f1=>?_))
            ·have f1:0≤ed.a:=(by simp [aA,aB] at f1;omega);((conv=>whnf);refine bm (fun f2=>?_) (fun f2=>?_))
             ·have f2:ed.a<ed.b:=(by simp [aA,aB] at f2;omega);((conv=>whnf);refine bm (fun f3=>?_) (fun f3=>?_))
              ·have f3:ed.b<l.length:=(by simp [aA,aB] at f3;omega);((conv=>whnf);refine bm (fun f4=>?_) (fun f4=>?_))
               ·have f4 : -1≤ed.n:=(by simp [aA,aB] at f4;omega);((conv=>whnf);refine bm (fun f5=>?_) (fun f5=>?_))
                ·have f5:200≤ed.n:=(by simp [aA,aB] at f5;omega);(conv=>whnf);rw [pR hlt (oE hed (by omega))]
                ·have f5:ed.n<200:=(by simp [aA,aB] at f5;omega);((conv=>whnf);refine bm (fun f6=>?_) (fun f6=>?_))
                 ·have f6:0<i:=(by simp [aA,aB] at f6;omega);((conv=>whnf);refine bm (fun f7=>?_) (fun f7=>?_))
                  ·((conv=>whnf);refine bm (fun f8=>?_) (fun f8=>?_))
                   ·(conv=>whnf);refine nV (BS m (i:=i - 1) (by omega) ?_) ?_
                    ·show _+Int.toNat (j - 1)*5=_;omega
                    generalize hd0:cO m (i - 1)=dd;((conv=>whnf);refine bm (fun f9=>?_) (fun f9=>?_))
                    ·have f9:¬ ed.a<dd.a:=(by simp [aA,aB] at f9;omega);((conv=>whnf);refine bm (fun f10=>?_) (fun f10=>?_))
                     ·have f10:dd.a=ed.a:=(by simpa [aA,aB] using f10);((conv=>whnf);refine bm (fun f11=>?_) (fun f11=>?_))
                      ·have f11:ed.b≤dd.b:=(by simp [aA,aB] at f11;omega);(conv=>whnf);rw [pR hlt (TJ hed hd0 (by omega) (by unfold bfE;simp;omega))]
                      ·have f11:dd.b<ed.b:=(by simp [aA,aB] at f11;omega);have hyes:IW l m i=true:=zM hed ⟨f1,f2,f3,f4,f5⟩ (by rw [hd0];unfold bfE;simp;omega);((conv=>whnf);refine bm (fun k1=>?_) (fun k1=>?_))
                       ·((conv=>whnf);refine bm (fun k2=>?_) (fun k2=>?_))
                        ·((conv=>whnf);refine bm (fun k3=>?_) (fun k3=>?_))
                         ·((conv=>whnf);refine bm (fun k4=>?_) (fun k4=>?_))
                          ·((conv=>whnf);refine bm (fun k5=>?_) (fun k5=>?_))
                           ·(conv=>whnf);refine⟨m.length - (i+1),by omega,?_⟩;refine aM (e0:=wM l.length (j+1)) (h0:=bM l m c1 c2 n (nA m (List.replicate l.length false) (i+1))) (n0:=4) ⟨i+1,j+1,by omega,by omega,rfl,fun t ht=>?_,rfl,rfl,rfl⟩ ?_ ?_ (by decide)
                            ·by_cases hti:t=i
                             ·rw [hti];exact hyes
                             ·exact hed0 t (by omega)
                            ·unfold wM;((repeat' refine iE rfl rfl ?_);exact iN)
                            ·unfold bM cM aY aD;have bQ:=RP (s:=s) (a:=ed.a.toNat) (b:=ed.b.toNat) (o1:=0+ed.a.toNat*1) (o2:=0+ed.b.toNat*1) (by omega) (by omega) (by omega) (by omega);rw [nxt];((repeat'(first|refine iW rfl rfl (aZ (aG eH _) bQ) ?_|refine iF rfl rfl ?_|refine iC rfl rfl rfl ?_|refine iJ rfl rfl rfl rfl ?_));exact iN)
                           ·exfalso;simp [aA,aB,aI] at k5;omega
                          ·have hpl:(c8 (flat eH.fl s) (0+ed.a.toNat*1) [.bool true]).length=l.length:=(by rw [dL (by rw [hsl];show 0+ed.a.toNat*1+1≤l.length;omega)];exact hsl);have k4:(0+ed.b.toNat*1+1).ble (c8 (flat eH.fl s) (0+ed.a.toNat*1) [.bool true]).length=false:=k4;rw [hpl] at k4;exact eV k4 (by omega)
                         ·exfalso;simp [aA,aB] at k3;omega
                        ·rw [hsl] at k2;exact eV k2 (by show 0+ed.a.toNat*1+1≤l.length;omega)
                       ·exfalso;simp [aA,aB] at k1;omega
                     ·have f10:¬ dd.a=ed.a:=(by simpa [aA,aB] using f10);have hyes:IW l m i=true:=zM hed ⟨f1,f2,f3,f4,f5⟩ (by rw [hd0];unfold bfE;simp;omega);((conv=>whnf);refine bm (fun k1=>?_) (fun k1=>?_))
                      ·((conv=>whnf);refine bm (fun k2=>?_) (fun k2=>?_))
                       ·((conv=>whnf);refine bm (fun k3=>?_) (fun k3=>?_))
                        ·((conv=>whnf);refine bm (fun k4=>?_) (fun k4=>?_))
                         ·((conv=>whnf);refine bm (fun k5=>?_) (fun k5=>?_))
                          ·(conv=>whnf);refine⟨m.length - (i+1),by omega,?_⟩;refine aM (e0:=wM l.length (j+1)) (h0:=bM l m c1 c2 n (nA m (List.replicate l.length false) (i+1))) (n0:=4) ⟨i+1,j+1,by omega,by omega,rfl,fun t ht=>?_,rfl,rfl,rfl⟩ ?_ ?_ (by decide)
                           ·by_cases hti:t=i
                            ·rw [hti];exact hyes
                            ·exact hed0 t (by omega)
                           ·unfold wM;((repeat' refine iE rfl rfl ?_);exact iN)
                           ·unfold bM cM aY aD;have bQ:=RP (s:=s) (a:=ed.a.toNat) (b:=ed.b.toNat) (o1:=0+ed.a.toNat*1) (o2:=0+ed.b.toNat*1) (by omega) (by omega) (by omega) (by omega);rw [nxt];((repeat'(first|refine iW rfl rfl (aZ (aG eH _) bQ) ?_|refine iF rfl rfl ?_|refine iC rfl rfl rfl ?_|refine iJ rfl rfl rfl rfl ?_));exact iN)
                          ·exfalso;simp [aA,aB,aI] at k5;omega
                         ·have hpl:(c8 (flat eH.fl s) (0+ed.a.toNat*1) [.bool true]).length=l.length:=(by rw [dL (by rw [hsl];show 0+ed.a.toNat*1+1≤l.length;omega)];exact hsl);have k4:(0+ed.b.toNat*1+1).ble (c8 (flat eH.fl s) (0+ed.a.toNat*1) [.bool true]).length=false:=k4;rw [hpl] at k4;exact eV k4 (by omega)
                        ·exfalso;simp [aA,aB] at k3;omega
                       ·rw [hsl] at k2;exact eV k2 (by show 0+ed.a.toNat*1+1≤l.length;omega)
                      ·exfalso;simp [aA,aB] at k1;omega
                    ·have f9:ed.a<dd.a:=(by simp [aA,aB] at f9;omega);(conv=>whnf);rw [pR hlt (TJ hed hd0 (by omega) (by unfold bfE;simp;omega))]
                   ·exfalso;simp [aA,aB] at f8;omega
                  ·exfalso;simp [aA,aB,aI] at f7;omega
                 ·have f6:i=0:=(by simp [aA,aB] at f6;omega);have hyes:IW l m i=true:=zM hed ⟨f1,f2,f3,f4,f5⟩ (by simp [f6]);((conv=>whnf);refine bm (fun k1=>?_) (fun k1=>?_))
                  ·((conv=>whnf);refine bm (fun k2=>?_) (fun k2=>?_))
                   ·((conv=>whnf);refine bm (fun k3=>?_) (fun k3=>?_))
                    ·((conv=>whnf);refine bm (fun k4=>?_) (fun k4=>?_))
                     ·((conv=>whnf);refine bm (fun k5=>?_) (fun k5=>?_))
                      ·(conv=>whnf);refine⟨m.length - (i+1),by omega,?_⟩;refine aM (e0:=wM l.length (j+1)) (h0:=bM l m c1 c2 n (nA m (List.replicate l.length false) (i+1))) (n0:=4) ⟨i+1,j+1,by omega,by omega,rfl,fun t ht=>?_,rfl,rfl,rfl⟩ ?_ ?_ (by decide)
                       ·by_cases hti:t=i
                        ·rw [hti];exact hyes
                        ·exact hed0 t (by omega)
                       ·unfold wM;((repeat' refine iE rfl rfl ?_);exact iN)
                       ·unfold bM cM aY aD;have bQ:=RP (s:=s) (a:=ed.a.toNat) (b:=ed.b.toNat) (o1:=0+ed.a.toNat*1) (o2:=0+ed.b.toNat*1) (by omega) (by omega) (by omega) (by omega);rw [nxt];((repeat'(first|refine iW rfl rfl (aZ (aG eH _) bQ) ?_|refine iF rfl rfl ?_|refine iC rfl rfl rfl ?_|refine iJ rfl rfl rfl rfl ?_));exact iN)
                      ·exfalso;simp [aA,aB,aI] at k5;omega
                     ·have hpl:(c8 (flat eH.fl s) (0+ed.a.toNat*1) [.bool true]).length=l.length:=(by rw [dL (by rw [hsl];show 0+ed.a.toNat*1+1≤l.length;omega)];exact hsl);have k4:(0+ed.b.toNat*1+1).ble (c8 (flat eH.fl s) (0+ed.a.toNat*1) [.bool true]).length=false:=k4;rw [hpl] at k4;exact eV k4 (by omega)
                    ·exfalso;simp [aA,aB] at k3;omega
                   ·rw [hsl] at k2;exact eV k2 (by show 0+ed.a.toNat*1+1≤l.length;omega)
                  ·exfalso;simp [aA,aB] at k1;omega
               ·have f4:¬ -1≤ed.n:=(by simp [aA,aB] at f4;omega);(conv=>whnf);rw [pR hlt (oE hed (by omega))]
              ·have f3:¬ ed.b<l.length:=(by simp [aA,aB] at f3;omega);(conv=>whnf);rw [pR hlt (oE hed (by omega))]
             ·have f2:¬ ed.a<ed.b:=(by simp [aA,aB] at f2;omega);(conv=>whnf);rw [pR hlt (oE hed (by omega))]
            ·have f1:¬ 0≤ed.a:=(by simp [aA,aB] at f1;omega);(conv=>whnf);rw [pR hlt (oE hed (by omega))]
           ·exfalso;simp [aA,aB] at d2;omega
          ·have hge:i=m.length:=(by simp [aA,aB] at d1;omega);subst hge;clear d1 hi hj;have hM:oG l m=true:=M4 hl hm hpt hed0;(conv=>whnf);refine⟨fun q e h nx=>∃ (t:Nat) (z:Int),z=t∧t≤l.length∧q=l.length - t∧s.all id=(s.drop t).all id∧e=JJ l.length z∧h=bM l m c1 c2 n s∧nx=4,⟨l.length,?_⟩,?_⟩
           ·refine aM (e0:=JJ l.length 0) (h0:=bM l m c1 c2 n s) (n0:=4) ⟨0,0,rfl,Nat.zero_le _,rfl,rfl,rfl,rfl,rfl⟩ ?_ ?_ (by decide)
            ·unfold JJ;((repeat' refine iE rfl rfl ?_);exact iN)
            ·unfold bM cM aY aD;((repeat'(first|refine iF rfl rfl ?_|refine iC rfl rfl rfl ?_|refine iJ rfl rfl rfl rfl ?_));exact iN)
           ·rintro q e h nx ⟨t,z,hz,ht,rfl,hall,rfl,rfl,rfl⟩;unfold JJ bM cM aY aD;((conv=>whnf);refine bm (fun h3=>?_) (fun h3=>?_))
            ·have htl:t<l.length:=(by simp [aA,aB] at h3;omega);have hd:s.drop t=cG s t::s.drop (t+1):=(by rw [qX (by omega)];exact List.drop_eq_getElem_cons (by omega));rw [hd,List.all_cons] at hall;((conv=>whnf);refine bm (fun h4=>?_) (fun h4=>?_))
             ·(conv=>whnf);refine gI (H8 s (i:=t) (by omega) ?_) ?_
              ·show _+Int.toNat z*1=_;omega
              ((conv=>whnf);refine bm (fun h5=>?_) (fun h5=>?_))
              ·have h5:cG s t=false:=(by simpa [aA,aB] using h5);(conv=>whnf);rw [aI0 (by rw [hs0,hall,h5];rfl)]
              ·have h5:cG s t=true:=(by simpa [aA,aB] using h5);((conv=>whnf);refine bm (fun h6=>?_) (fun h6=>?_))
               ·(conv=>whnf);refine⟨l.length - (t+1),by omega,?_⟩;refine aM (e0:=JJ l.length (z+1)) (h0:=bM l m c1 c2 n s) (n0:=4) ⟨t+1,z+1,by omega,by omega,rfl,by rw [hall,h5];rfl,rfl,rfl,rfl⟩ ?_ ?_ (by decide)
                ·unfold JJ;((repeat' refine iE rfl rfl ?_);exact iN)
                ·unfold bM cM aY aD;((repeat'(first|refine iF rfl rfl ?_|refine iC rfl rfl rfl ?_|refine iJ rfl rfl rfl rfl ?_));exact iN)
               ·exfalso;simp [aA,aB,aI] at h6;omega
             ·exfalso;simp [aA,aB] at h4;omega
            ·have hgt:t=l.length:=(by simp [aA,aB] at h3;omega);have hus:(nA m (List.replicate l.length false) m.length).all id=true:=by
              rw [hs0,hall,hgt,List.drop_eq_nil_of_le (by omega)];rfl
             have hlst:cX l m n=true:=by
              rw [cX,hsz,fB hpt,fB hed0,hus];rfl
             (conv=>whnf);refine⟨fun q e h nx=>∃ (i:Nat) (j:Int),j=i∧i≤m.length∧q=m.length - i∧(∀ t,t<i→∀ k,k<t→DL l m t k=true)∧e=s8 j∧h=cM l m c1 c2 n∧nx=4,⟨m.length,?_⟩,?_⟩
             ·refine aM (e0:=s8 0) (h0:=cM l m c1 c2 n) (n0:=4) ⟨0,0,rfl,Nat.zero_le _,rfl,fun t ht=>absurd ht (Nat.not_lt_zero t),rfl,rfl,rfl⟩ ?_ ?_ (by decide)
              ·unfold s8;((repeat' refine iE rfl rfl ?_);exact iN)
              ·unfold cM aY aD;((repeat'(first|refine iF rfl rfl ?_|refine iC rfl rfl rfl ?_|refine iJ rfl rfl rfl rfl ?_));exact iN)
             ·clear h3 hall ht hz hgt;rintro q e h nx ⟨i,j,hj,hi,rfl,hme,rfl,rfl,rfl⟩;unfold s8 cM aY aD;((conv=>whnf);refine bm (fun h3=>?_) (fun h3=>?_))
              ·have hlt:i<m.length:=(by simp [aA,aB] at h3;omega);(conv=>whnf);refine⟨fun q e h nx=>∃ (k:Nat) (z:Int),z=k∧k≤i∧q=i - k∧(∀ t,t<k→DL l m i t=true)∧e=B4 j z∧h=cM l m c1 c2 n∧nx=4,⟨i,?_⟩,?_⟩
               ·refine aM (e0:=B4 j 0) (h0:=cM l m c1 c2 n) (n0:=4) ⟨0,0,rfl,Nat.zero_le _,rfl,fun t ht=>absurd ht (Nat.not_lt_zero t),rfl,rfl,rfl⟩ ?_ ?_ (by decide)
                ·unfold B4 s8;((repeat' refine iE rfl rfl ?_);exact iN)
                ·unfold cM aY aD;((repeat'(first|refine iF rfl rfl ?_|refine iC rfl rfl rfl ?_|refine iJ rfl rfl rfl rfl ?_));exact iN)
               ·rintro q e h nx ⟨k,z,hz,hk,rfl,hmk,rfl,rfl,rfl⟩;unfold B4 s8 cM aY aD;((conv=>whnf);refine bm (fun h4=>?_) (fun h4=>?_))
                ·have hkl:k<i:=(by simp [aA,aB] at h4;omega);have ej:j.toNat=i:=(by omega);have ez:z.toNat=k:=(by omega);(conv=>whnf);refine⟨l,m,aC aP rfl,aC aS rfl,?_⟩;((conv=>whnf);refine bm (fun h5=>?_) (fun h5=>?_))
                 ·(conv=>whnf);refine⟨l,m,aC aP rfl,aC aS rfl,?_⟩;((conv=>whnf);refine bm (fun h6=>?_) (fun h6=>?_))
                  ·(conv=>whnf);have em:fV (cW l m j.toNat) (cW l m z.toNat)=fV (cW l m i) (cW l m k):=(by rw [ej,ez]);((conv=>whnf);refine bm (fun h7=>?_) (fun h7=>?_))
                   ·have h7:¬ fV (cW l m i) (cW l m k)=0:=(by rw [← em];simpa [aA,aB] using h7);((conv=>whnf);refine bm (fun h8=>?_) (fun h8=>?_))
                    ·have h8:¬ fV (cW l m i) (cW l m k)=1:=(by rw [← em];simpa [aA,aB] using h8);(conv=>whnf);rw [aDa hlt hkl (by rw [DL,decide_eq_false h7,decide_eq_false h8];rfl)]
                    ·have h8:fV (cW l m i) (cW l m k)=1:=(by rw [← em];simpa [aA,aB] using h8);have hyes:DL l m i k=true:=(by rw [DL,decide_eq_true h8,Bool.or_true]);((conv=>whnf);refine bm (fun h9=>?_) (fun h9=>?_))
                     ·(conv=>whnf);refine⟨i - (k+1),by omega,?_⟩;refine aM (e0:=B4 j (z+1)) (h0:=cM l m c1 c2 n) (n0:=4) ⟨k+1,z+1,by omega,by omega,rfl,fun t ht=>?_,rfl,rfl,rfl⟩ ?_ ?_ (by decide)
                      ·by_cases htk:t=k
                       ·rw [htk];exact hyes
                       ·exact hmk t (by omega)
                      ·unfold B4 s8;((repeat' refine iE rfl rfl ?_);exact iN)
                      ·unfold cM aY aD;((repeat'(first|refine iF rfl rfl ?_|refine iC rfl rfl rfl ?_|refine iJ rfl rfl rfl rfl ?_));exact iN)
                     ·exfalso;simp [aA,aB,aI] at h9;omega
                   ·have h7:fV (cW l m i) (cW l m k)=0:=(by rw [← em];simpa [aA,aB] using h7);have hyes:DL l m i k=true:=(by rw [DL,decide_eq_true h7,Bool.true_or]);((conv=>whnf);refine bm (fun h9=>?_) (fun h9=>?_))
                    ·(conv=>whnf);refine⟨i - (k+1),by omega,?_⟩;refine aM (e0:=B4 j (z+1)) (h0:=cM l m c1 c2 n) (n0:=4) ⟨k+1,z+1,by omega,by omega,rfl,fun t ht=>?_,rfl,rfl,rfl⟩ ?_ ?_ (by decide)
                     ·by_cases htk:t=k
                      ·rw [htk];exact hyes
                      ·exact hmk t (by omega)
                     ·unfold B4 s8;((repeat' refine iE rfl rfl ?_);exact iN)
                     ·unfold cM aY aD;((repeat'(first|refine iF rfl rfl ?_|refine iC rfl rfl rfl ?_|refine iJ rfl rfl rfl rfl ?_));exact iN)
                    ·exfalso;simp [aA,aB,aI] at h9;omega
                  ·exfalso;have h6:(oG l m&&(decide (0≤z)&&decide (z<m.length)))=false:=h6;rw [hM,decide_eq_true (show 0≤z by omega),decide_eq_true (show z<m.length by omega)] at h6;cases h6
                 ·exfalso;have h5:(oG l m&&(decide (0≤j)&&decide (j<m.length)))=false:=h5;rw [hM,decide_eq_true (show 0≤j by omega),decide_eq_true (show j<m.length by omega)] at h5;cases h5
                ·have hge:k=i:=(by simp [aA,aB] at h4;omega);((conv=>whnf);refine bm (fun h5=>?_) (fun h5=>?_))
                 ·(conv=>whnf);refine⟨m.length - (i+1),by omega,?_⟩;refine aM (e0:=s8 (j+1)) (h0:=cM l m c1 c2 n) (n0:=4) ⟨i+1,j+1,by omega,by omega,rfl,fun t ht=>?_,rfl,rfl,rfl⟩ ?_ ?_ (by decide)
                  ·by_cases hti:t=i
                   ·rw [hti];exact fun k' hk'=>hmk k' (by omega)
                   ·exact hme t (by omega)
                  ·unfold s8;((repeat' refine iE rfl rfl ?_);exact iN)
                  ·unfold cM aY aD;((repeat'(first|refine iF rfl rfl ?_|refine iC rfl rfl rfl ?_|refine iJ rfl rfl rfl rfl ?_));exact iN)
                 ·exfalso;simp [aA,aB,aI] at h5;omega
              ·have hge:i=m.length:=(by simp [aA,aB] at h3;omega);(conv=>whnf);rw [gG,hlst,fB (fun i hi=>fB (hme i (by omega)))];rfl
    ·have a4:n<1:=(by simp [aA,aB] at a4;omega);(conv=>whnf);rw [hszf (by omega)]
   ·have a3:400<m.length:=(by simp [aA,aB] at a3;omega);(conv=>whnf);rw [hszf (by omega)]
  ·have a2:m.length<3:=(by simp [aA,aB] at a2;omega);(conv=>whnf);rw [hszf (by omega)]
 ·have a1:400<l.length:=(by simp [aA,aB] at a1;omega);(conv=>whnf);rw [hszf (by omega)]
end Go.Aw
end
