/-
  Parts of a proof. No condition.
-/
import Derived.Test.YtjahkcbdecgbhaaGreatQAp
import Derived.Test.YtjahkcbdecgbhaaGreatQAu
set_option linter.unusedSimpArgs false
set_option linter.unusedVariables false
noncomputable section
namespace Go.Aw
set_option maxRecDepth 100000
theorem iI {l:List Pt}{m:List Ed}{n:Int}(h:cX l m n=true):oG l m=true∧3≤m.length∧1≤l.length∧l.length≤400∧m.length≤400∧1≤n∧n≤100:=by
 simp only [cX,Bool.and_eq_true] at h;obtain⟨h1,h2,h3,h4⟩:=h;simp only [YP,Bool.and_eq_true,decide_eq_true_eq] at h1;have hM:=M4 (l:=l) (m:=m) (by omega) (by omega) (fun i hi=>fG h2 hi) (fun i hi=>fG h3 hi);have:=pJ hM (i:=0) (by omega);exact⟨hM,by omega,by omega,by omega,by omega,by omega,by omega⟩
theorem mW {l:List Pt}{m:List Ed}{n:Int}(h:gG l m n=true):cX l m n=true:=by
 simp only [gG,Bool.and_eq_true] at h;exact h.1
def faB (m:List Ed)(of:List Int)(i:Nat):Bool:=decide ((cO m i).l=aK of (2*i))&&decide ((cO m i).r=aK of (2*i+1))
def IJ (l:List Pt)(m:List Ed)(n:Int):Bool:=gG l m n&&(KV l m&&(MM (eR l m)&&(decide ((eR l m).faces=n)&&nU (faB m (eR l m).of) m.length)))
def vaS (l:List Pt)(m:List Ed)(n:Int):List Value→Option (Bool × Value)
 |[]=>some (decide (l.length≤1000)&&decide (m.length≤1000),.bool (IJ l m n))
 |_=>none
theorem aF3 {l:List Pt}{m:List Ed}{n:Int}{r:List Value}{v:Value}(h:vaS l m n r=some (true,v)):r=[]∧l.length≤1000∧m.length≤1000∧v=.bool (IJ l m n):=by
 unfold vaS at h;split at h
 ·injection h with h;injection h with h1 h2;simp only [Bool.and_eq_true,decide_eq_true_eq] at h1;exact⟨rfl,h1.1,h1.2,h2.symm⟩
 ·cases h
def e70 (j:Int):List (Nat × Value):=[(1,.pointer (some ⟨2,0,none⟩)),(4,.pointer (some ⟨4,0,none⟩)),(5,iv j)]
def h70 (l:List Pt)(m:List Ed)(c1 c2:Nat)(n:Int)(of:List Int)(F:Int)(K:Bool):Heap:=(4,.cells true false 1 [.slice (some ⟨3,0,none⟩) of.length of.length,iv F,.bool K])::(3,.cells true false 1 (flat aN.fl of))::cM l m c1 c2 n
def aKi:Nat × XF:=(70,mX aP aS vaS)
theorem aN1:cH Go.Proofs.Tryz.prog aKi.1 aKi.2:=rY aP aS (aL (xl:=[aBg,aC6,aB9]) (.cons aKb (.cons aK4 (.cons aKF .nil)))) fun l m n r v hs=>by
 obtain⟨rfl,hl,hm,rfl⟩:=aF3 hs;clear hs;refine⟨rfl,rfl,fun c1 c2=>?_⟩;(conv=>whnf);refine⟨l,m,aC aP rfl,aC aS rfl,?_⟩;((conv=>whnf);refine bm (fun a1=>?_) (fun a1=>?_))
 ·((conv=>whnf);refine bm (fun a2=>?_) (fun a2=>?_))
  ·have a2:gG l m n=false:=(by simpa [aA,aB] using a2);(conv=>whnf);rw [IJ,a2];rfl
  ·have a2:gG l m n=true:=(by simpa [aA,aB] using a2);obtain⟨hM,h3,h1l,_⟩:=iI (mW a2);(conv=>whnf);refine⟨l,m,aC aP rfl,aC aS rfl,?_⟩;((conv=>whnf);refine bm (fun a3=>?_) (fun a3=>?_))
   ·(conv=>whnf);refine⟨_,_,_,[],l,m,rfl,aC aP rfl,aC aS rfl,?_⟩;((conv=>whnf);refine bm (fun a4=>?_) (fun a4=>?_))
    ·have flen:(eR l m).of.length=2*m.length:=vA l m _;have hval:IJ l m n=(KV l m&&(MM (eR l m)&&(decide ((eR l m).faces=n)&&nU (faB m (eR l m).of) m.length))):=(by rw [IJ,a2,Bool.true_and]);rw [hval];generalize eR l m=st at flen;((conv=>whnf);refine bm (fun b1=>?_) (fun b1=>?_))
     ·have b1:KV l m=true:=(by simpa [aA,aB] using b1);((conv=>whnf);refine bm (fun b2=>?_) (fun b2=>?_))
      ·have b2:MM st=true:=(by simpa [aA,aB] using b2);((conv=>whnf);refine bm (fun b3=>?_) (fun b3=>?_))
       ·have b3:¬ st.faces=n:=(by simpa [aA,aB] using b3);(conv=>whnf);rw [b1,b2,decide_eq_false b3];rfl
       ·have b3:st.faces=n:=(by simpa [aA,aB] using b3);(conv=>whnf);rw [b1,b2,decide_eq_true b3,Bool.true_and,Bool.true_and,Bool.true_and];refine⟨fun q e h nx=>∃ (i:Nat) (j:Int),j=i∧i≤m.length∧q=m.length - i∧(∀ t,t<i→faB m st.of t=true)∧e=e70 j∧h=h70 l m c1 c2 n st.of st.faces true∧nx=5,⟨m.length,?_⟩,?_⟩
        ·refine aM (e0:=e70 0) (h0:=h70 l m c1 c2 n st.of st.faces true) (n0:=5) ⟨0,0,rfl,Nat.zero_le _,rfl,fun t ht=>absurd ht (Nat.not_lt_zero t),rfl,rfl,rfl⟩ ?_ ?_ (by decide)
         ·unfold e70;((repeat' refine iE rfl rfl ?_);exact iN)
         ·unfold h70 cM aY aD;((repeat'(first|refine iF rfl rfl ?_|refine iC rfl rfl rfl ?_|refine iJ rfl rfl rfl rfl ?_));exact iN)
        ·rintro q e h nx ⟨i,j,hj,hi,rfl,hfa,rfl,rfl,rfl⟩;unfold e70 h70 cM aY aD;((conv=>whnf);refine bm (fun d1=>?_) (fun d1=>?_))
         ·have hlt:i<m.length:=(by simp [aA,aB] at d1;omega);((conv=>whnf);refine bm (fun d2=>?_) (fun d2=>?_))
          ·(conv=>whnf);refine gI (IV m 2 (i:=i) hlt rfl (by decide) ?_) ?_
           ·show _+Int.toNat j*5+2=_;omega
           ((conv=>whnf);refine bm (fun d3=>?_) (fun d3=>?_))
           ·((conv=>whnf);refine bm (fun d4=>?_) (fun d4=>?_))
            ·(conv=>whnf);refine gI (eK st.of (i:=2*i) (by omega) ?_) ?_
             ·show _+Int.toNat (2*j)*1=_;omega
             ((conv=>whnf);refine bm (fun d5=>?_) (fun d5=>?_))
             ·have d5:(cO m i).l=aK st.of (2*i):=(by simpa [aA,aB] using d5);((conv=>whnf);refine bm (fun d6=>?_) (fun d6=>?_))
              ·(conv=>whnf);refine gI (IV m 3 (i:=i) hlt rfl (by decide) ?_) ?_
               ·show _+Int.toNat j*5+3=_;omega
               ((conv=>whnf);refine bm (fun d7=>?_) (fun d7=>?_))
               ·((conv=>whnf);refine bm (fun d8=>?_) (fun d8=>?_))
                ·((conv=>whnf);refine bm (fun d9=>?_) (fun d9=>?_))
                 ·(conv=>whnf);refine gI (eK st.of (i:=2*i+1) (by omega) ?_) ?_
                  ·show _+Int.toNat (2*j+1)*1=_;omega
                  ((conv=>whnf);refine bm (fun d10=>?_) (fun d10=>?_))
                  ·have d10:¬ (cO m i).r=aK st.of (2*i+1):=(by simpa [aA,aB] using d10);(conv=>whnf);rw [fT hlt (show faB m st.of i=false by rw [faB,decide_eq_false d10,Bool.and_false])]
                  ·have d10:(cO m i).r=aK st.of (2*i+1):=(by simpa [aA,aB] using d10);((conv=>whnf);refine bm (fun d11=>?_) (fun d11=>?_))
                   ·(conv=>whnf);refine⟨m.length - (i+1),by omega,?_⟩;refine aM (e0:=e70 (j+1)) (h0:=h70 l m c1 c2 n st.of st.faces true) (n0:=5) ⟨i+1,j+1,by omega,by omega,rfl,fun t ht=>?_,rfl,rfl,rfl⟩ ?_ ?_ (by decide)
                    ·by_cases hti:t=i
                     ·rw [hti,faB,decide_eq_true d5,decide_eq_true d10];rfl
                     ·exact hfa t (by omega)
                    ·unfold e70;((repeat' refine iE rfl rfl ?_);exact iN)
                    ·unfold h70 cM aY aD;((repeat'(first|refine iF rfl rfl ?_|refine iC rfl rfl rfl ?_|refine iJ rfl rfl rfl rfl ?_));exact iN)
                   ·exfalso;simp [aA,aB,aI] at d11;omega
                 ·exfalso;simp [aA,aB] at d9;omega
                ·exfalso;simp [aA,aB,aI] at d8;omega
               ·exfalso;simp [aA,aB,aI] at d7;omega
              ·exfalso;simp [aA,aB] at d6;omega
             ·have d5:¬ (cO m i).l=aK st.of (2*i):=(by simpa [aA,aB] using d5);(conv=>whnf);rw [fT hlt (show faB m st.of i=false by rw [faB,decide_eq_false d5,Bool.false_and])]
            ·exfalso;simp [aA,aB] at d4;omega
           ·exfalso;simp [aA,aB,aI] at d3;omega
          ·exfalso;simp [aA,aB] at d2;omega
         ·have hge:i=m.length:=(by simp [aA,aB] at d1;omega);(conv=>whnf);rw [fB (fun t ht=>hfa t (by omega))]
      ·have b2:MM st=false:=(by simpa [aA,aB] using b2);(conv=>whnf);rw [b1,b2];rfl
     ·have b1:KV l m=false:=(by simpa [aA,aB] using b1);(conv=>whnf);rw [b1];rfl
    ·exfalso;have a4:(oG l m&&decide (1≤m.length))=false:=a4;rw [hM,decide_eq_true (show 1≤m.length by omega)] at a4;cases a4
   ·exfalso;have a3:(oG l m&&decide (1≤l.length))=false:=a3;rw [hM,decide_eq_true h1l] at a3;cases a3
 ·exfalso;have a1:(decide (l.length≤1000)&&decide (m.length≤1000))=false:=a1;rw [decide_eq_true hl,decide_eq_true hm] at a1;cases a1
def ckS (l:List Pt)(m:List Ed)(n:Int):List Value→Option (Bool × Value)
 |[]=>some (decide (l.length≤1000)&&decide (m.length≤1000),iv (if IJ l m n=true then 0 else 1))
 |_=>none
def aMF:Nat × XF:=(18,mX aP aS ckS)
def LQ:List Bool→Nat→Int
 |[],_=>-1
 |b::r,i=>if b=false then i else LQ r (i+1)
theorem O6:∀ (l:List Bool) (i:Nat),decide (0≤LQ l i)=!(l.all id)
 |[],i=>rfl
 |b::r,i=>by
  cases b with
  |false=>simp [LQ]
  |true=>simpa [LQ] using O6 r (i+1)
def ixS (l:List Bool):List Value→Option (Bool × Value)
 |[.bool false]=>some (decide (l.length≤1000000),iv (LQ l 0))
 |_=>none
theorem aE5 {l:List Bool}{r:List Value}{v:Value}(hs:ixS l r=some (true,v)):r=[.bool false]∧l.length≤1000000∧v=iv (LQ l 0):=by
 unfold ixS at hs;split at hs
 ·injection hs with hs;injection hs with h1 h2;exact⟨rfl,by simpa using h1,h2.symm⟩
 ·cases hs
def Y7 (l:List Bool)(c:Nat)(j:Int):List (Nat × Value):=[(0,.slice (some ⟨0,0,none⟩) l.length c),(1,.bool false),(7,iv l.length),(8,iv j)]
def hBo (l:List Bool):Heap:=[(0,.cells false true 1 (flat eH.fl l))]
def aAa:Nat × XF:=(241,lX eH ixS)
theorem aKw:cH Go.Proofs.Tryz.prog aAa.1 aAa.2:=PI eH (aL (xl:=[]) .nil) fun l r v hs=>by
 obtain⟨rfl,hlen,rfl⟩:=aE5 hs;refine⟨rfl,rfl,fun c=>?_⟩;(conv=>whnf);refine⟨fun q e h nx=>∃ (i:Nat) (j:Int),j=i∧i≤l.length∧q=l.length - i∧LQ l 0=LQ (l.drop i) i∧e=Y7 l c j∧h=hBo l∧nx=1,⟨l.length,?_⟩,?_⟩
 ·refine aM (e0:=Y7 l c 0) (h0:=hBo l) (n0:=1) ⟨0,0,rfl,Nat.zero_le _,rfl,rfl,rfl,rfl,rfl⟩ ?_ ?_ (by decide)
  ·unfold Y7;((repeat' refine iE rfl rfl ?_);exact iN)
  ·unfold hBo;((repeat'(first|refine iF rfl rfl ?_|refine iC rfl rfl rfl ?_|refine iJ rfl rfl rfl rfl ?_));exact iN)
 ·rintro q e h nx ⟨i,j,hj,hi,rfl,hb,rfl,rfl,rfl⟩;unfold Y7 hBo;((conv=>whnf);refine bm (fun h1=>?_) (fun h1=>?_))
  ·have hlt:i<l.length:=(by simp [aA,aB] at h1;omega);have hd:l.drop i=cG l i::l.drop (i+1):=(by rw [qX hlt];exact List.drop_eq_getElem_cons hlt);rw [hd,LQ] at hb;((conv=>whnf);refine bm (fun h2=>?_) (fun h2=>?_))
   ·(conv=>whnf);refine gI (H8 l (i:=i) hlt ?_) ?_
    ·show _+Int.toNat j*1=_;omega
    ((conv=>whnf);refine bm (fun h3=>?_) (fun h3=>?_))
    ·have h3:cG l i=false:=(by simpa [aA,aB] using h3);(conv=>whnf);rw [hb,if_pos h3,hj]
    ·have h3:¬ cG l i=false:=(by simpa [aA,aB] using h3);((conv=>whnf);refine bm (fun h4=>?_) (fun h4=>?_))
     ·(conv=>whnf);refine⟨l.length - (i+1),by omega,?_⟩;refine aM (e0:=Y7 l c (j+1)) (h0:=hBo l) (n0:=1) ⟨i+1,j+1,by omega,hlt,rfl,by rw [hb,if_neg h3],rfl,rfl,rfl⟩ ?_ ?_ (by decide)
      ·unfold Y7;((repeat' refine iE rfl rfl ?_);exact iN)
      ·unfold hBo;((repeat'(first|refine iF rfl rfl ?_|refine iC rfl rfl rfl ?_|refine iJ rfl rfl rfl rfl ?_));exact iN)
     ·exfalso;simp [aA,aB,aI] at h4;omega
   ·exfalso;simp [aA,aB] at h2;omega
  ·have hge:l.length≤i:=(by simp [aA,aB] at h1;omega);(conv=>whnf);rw [hb,List.drop_eq_nil_of_le hge];rfl
def ctS (l:List Bool):List Value→Option (Bool × Value)
 |[.bool false]=>some (decide (l.length≤1000000),.bool (!(l.all id)))
 |_=>none
theorem aEK {l:List Bool}{r:List Value}{v:Value}(hs:ctS l r=some (true,v)):r=[.bool false]∧l.length≤1000000∧v=.bool (!(l.all id)):=by
 unfold ctS at hs;split at hs
 ·injection hs with hs;injection hs with h1 h2;exact⟨rfl,by simpa using h1,h2.symm⟩
 ·cases hs
def VH:Nat × XF:=(208,lX eH ctS)
theorem aFO:cH Go.Proofs.Tryz.prog VH.1 VH.2:=PI eH (aL (xl:=[aAa]) (.cons aKw .nil)) fun l r v hs=>by
 obtain⟨rfl,hlen,rfl⟩:=aEK hs;refine⟨rfl,rfl,fun c=>?_⟩;(conv=>whnf);refine⟨l,aC eH rfl,?_⟩;((conv=>whnf);refine bm (fun h1=>?_) (fun h1=>?_))
 ·(conv=>whnf);rw [← O6 l 0];rfl
 ·exact absurd hlen (by simpa using h1)
theorem KU (n:Nat):rep n [.bool false]=flat eH.fl (List.replicate n false):=by
 induction n with
 |zero=>rfl
 |succ n ih=>simp only [List.replicate_succ,flat,← ih];rfl
theorem aId (n:Nat):rep n [iv 0]=flat aN.fl (List.replicate n 0):=by
 induction n with
 |zero=>rfl
 |succ n ih=>simp only [List.replicate_succ,flat,← ih];rfl
theorem yY (a b:Pt):gH a b=decide (kY a b<0):=by
 unfold gH kY orI jG;by_cases h1:a.1<b.1
 ·simp [h1]
 ·by_cases h2:b.1<a.1
  ·have h3:¬ a.1=b.1:=(by omega);simp [h1,h2,h3]
  ·have h3:a.1=b.1:=(by omega);simp only [h1,h2,if_false,h3];by_cases h4:a.2<b.2 <;> by_cases h5:b.2<a.2 <;> simp [h4,h5]
theorem US (d e:Ed):bfE d e=decide (orI (jG d.a e.a) (jG d.b e.b)<0):=yY (d.a,d.b) (e.a,e.b)
def liS (l:List Pt)(m:List Ed)(n:Int):List Value→Option (Bool × Value)
 |[]=>some (decide (l.length≤1000)&&decide (m.length≤1000),.bool (cX l m n))
 |_=>none
theorem aFn {l:List Pt}{m:List Ed}{n:Int}{r:List Value}{v:Value}(h:liS l m n r=some (true,v)):r=[]∧l.length≤1000∧m.length≤1000∧v=.bool (cX l m n):=by
 unfold liS at h;split at h
 ·injection h with h;injection h with h1 h2;simp only [Bool.and_eq_true,decide_eq_true_eq] at h1;exact⟨rfl,h1.1,h1.2,h2.symm⟩
 ·cases h
def QJ (N c:Nat)(j:Int):List (Nat × Value):=[(1,.pointer (some ⟨2,0,none⟩)),(35,.slice (some ⟨0,0,none⟩) N c),(36,iv N),(37,iv j)]
def B7 (N M c:Nat)(j:Int):List (Nat × Value):=[(1,.pointer (some ⟨2,0,none⟩)),(5,.slice (some ⟨3,0,none⟩) N N),(66,.slice (some ⟨1,0,none⟩) M c),(67,iv M),(68,iv j)]
def QW:Nat × XF:=(152,mX aP aS liS)
theorem aFW:cH Go.Proofs.Tryz.prog QW.1 QW.2:=rY aP aS (aL (xl:=[X17,aIy,RM,aAl,VH]) (.cons x17 (.cons aKI (.cons Y5 (.cons aIz (.cons aFO .nil)))))) fun l m n r v hs=>by
 obtain⟨rfl,hl,hm,rfl⟩:=aFn hs;clear hs;refine⟨rfl,rfl,fun c1 c2=>?_⟩;have hszf:¬ (l.length≤400∧3≤m.length∧m.length≤400∧1≤n∧n≤100)→cX l m n=false:=fun h=>aIk (by
  cases hz:YP l m n with
  |false=>rfl
  |true=>simp only [YP,Bool.and_eq_true,decide_eq_true_eq] at hz;exact absurd ⟨hz.1.1.1.1,hz.1.1.1.2,hz.1.1.2,hz.1.2,hz.2⟩ h)
 ((conv=>whnf);refine bm (fun a1=>?_) (fun a1=>?_))
 ·have a1:¬ 400<l.length:=(by simp [aA,aB] at a1;omega);((conv=>whnf);refine bm (fun a2=>?_) (fun a2=>?_))
  ·have a2:¬ m.length<3:=(by simp [aA,aB] at a2;omega);((conv=>whnf);refine bm (fun a3=>?_) (fun a3=>?_))
   ·have a3:¬ 400<m.length:=(by simp [aA,aB] at a3;omega);((conv=>whnf);refine bm (fun a4=>?_) (fun a4=>?_))
    ·have a4:¬ n<1:=(by simp [aA,aB] at a4;omega);((conv=>whnf);refine bm (fun a5=>?_) (fun a5=>?_))
     ·have a5:100<n:=(by simp [aA,aB] at a5;omega);(conv=>whnf);rw [hszf (by omega)]
     ·have a5:¬ 100<n:=(by simp [aA,aB] at a5;omega);have hsz:YP l m n=true:=by
       simp only [YP,Bool.and_eq_true,decide_eq_true_eq];omega
      clear hszf;(conv=>whnf);refine⟨fun q e h nx=>∃ (i:Nat) (j:Int),j=i∧i≤l.length∧q=l.length - i∧(∀ t,t<i→DB l t=true)∧e=QJ l.length c1 j∧h=cM l m c1 c2 n∧nx=3,⟨l.length,?_⟩,?_⟩
      ·refine aM (e0:=QJ l.length c1 0) (h0:=cM l m c1 c2 n) (n0:=3) ⟨0,0,rfl,Nat.zero_le _,rfl,fun t ht=>absurd ht (Nat.not_lt_zero t),rfl,rfl,rfl⟩ ?_ ?_ (by decide)
       ·unfold QJ;((repeat' refine iE rfl rfl ?_);exact iN)
       ·unfold cM aY aD;((repeat'(first|refine iF rfl rfl ?_|refine iC rfl rfl rfl ?_|refine iJ rfl rfl rfl rfl ?_));exact iN)
      ·rintro q e h nx ⟨i,j,hj,hi,rfl,hpt,rfl,rfl,rfl⟩;unfold QJ cM aY aD;((conv=>whnf);refine bm (fun b1=>?_) (fun b1=>?_))
       ·have hlt:i<l.length:=(by simp [aA,aB] at b1;omega);((conv=>whnf);refine bm (fun b2=>?_) (fun b2=>?_))
        ·(conv=>whnf);refine nV (jO l (i:=i) hlt ?_) ?_
         ·show _+Int.toNat j*2=_;omega
         ((conv=>whnf);refine bm (fun b3=>?_) (fun b3=>?_))
         ·have hr:bU (iB l i)=true:=(by simpa [aA,aB] using b3);((conv=>whnf);refine bm (fun b4=>?_) (fun b4=>?_))
          ·have hi0:i≠0:=(by simp [aA,aB] at b4;omega);((conv=>whnf);refine bm (fun b5=>?_) (fun b5=>?_))
           ·((conv=>whnf);refine bm (fun b6=>?_) (fun b6=>?_))
            ·(conv=>whnf);refine nV (jO l (i:=i - 1) (by omega) ?_) ?_
             ·show _+Int.toNat (j - 1)*2=_;omega
             ((conv=>whnf);refine bm (fun b8=>?_) (fun b8=>?_))
             ·have b8:gH (iB l (i - 1)) (iB l i)=false:=by
               rw [yY];have:0≤kY (iB l (i - 1)) (iB l i):=(by simpa [aA,aB] using b8);exact decide_eq_false (by omega)
              (conv=>whnf);rw [aD0 hlt (show DB l i=false by rw [DB,hr,b8,decide_eq_false hi0];rfl)]
             ·have b8:gH (iB l (i - 1)) (iB l i)=true:=by
               rw [yY];have:¬ 0≤kY (iB l (i - 1)) (iB l i):=(by simpa [aA,aB] using b8);exact decide_eq_true (by omega)
              have hyes:DB l i=true:=(by rw [DB,hr,b8];simp);((conv=>whnf);refine bm (fun b9=>?_) (fun b9=>?_))
              ·(conv=>whnf);refine⟨l.length - (i+1),by omega,?_⟩;refine aM (e0:=QJ l.length c1 (j+1)) (h0:=cM l m c1 c2 n) (n0:=3) ⟨i+1,j+1,by omega,by omega,rfl,fun t ht=>?_,rfl,rfl,rfl⟩ ?_ ?_ (by decide)
               ·by_cases hti:t=i
                ·rw [hti];exact hyes
                ·exact hpt t (by omega)
               ·unfold QJ;((repeat' refine iE rfl rfl ?_);exact iN)
               ·unfold cM aY aD;((repeat'(first|refine iF rfl rfl ?_|refine iC rfl rfl rfl ?_|refine iJ rfl rfl rfl rfl ?_));exact iN)
              ·exfalso;simp [aA,aB,aI] at b9;omega
            ·exfalso;simp [aA,aB] at b6;omega
           ·exfalso;simp [aA,aB,aI] at b5;omega
          ·have hi0:i=0:=(by simp [aA,aB] at b4;omega);have hyes:DB l i=true:=(by rw [DB,hr,hi0];rfl);((conv=>whnf);refine bm (fun b9=>?_) (fun b9=>?_))
           ·(conv=>whnf);refine⟨l.length - (i+1),by omega,?_⟩;refine aM (e0:=QJ l.length c1 (j+1)) (h0:=cM l m c1 c2 n) (n0:=3) ⟨i+1,j+1,by omega,by omega,rfl,fun t ht=>?_,rfl,rfl,rfl⟩ ?_ ?_ (by decide)
            ·by_cases hti:t=i
             ·rw [hti];exact hyes
             ·exact hpt t (by omega)
            ·unfold QJ;((repeat' refine iE rfl rfl ?_);exact iN)
            ·unfold cM aY aD;((repeat'(first|refine iF rfl rfl ?_|refine iC rfl rfl rfl ?_|refine iJ rfl rfl rfl rfl ?_));exact iN)
           ·exfalso;simp [aA,aB,aI] at b9;omega
         ·have hr:bU (iB l i)=false:=(by simpa [aA,aB] using b3);(conv=>whnf);rw [aD0 hlt (show DB l i=false by rw [DB,hr];rfl)]
        ·exfalso;simp [aA,aB] at b2;omega
       ·have hge:i=l.length:=(by simp [aA,aB] at b1;omega);subst hge;clear b1 hi hj;((conv=>whnf);refine bm (fun m1=>?_) (fun m1=>?_))
        ·(conv=>whnf);refine⟨fun q e h nx=>∃ (i:Nat) (j:Int),j=i∧i≤m.length∧q=m.length - i∧(∀ t,t<i→IW l m t=true)∧e=B7 l.length m.length c2 j∧h=bM l m c1 c2 n (nA m (List.replicate l.length false) i)∧nx=4,⟨m.length,?_⟩,?_⟩
         ·refine aM (e0:=B7 l.length m.length c2 0) (h0:=bM l m c1 c2 n (List.replicate l.length false)) (n0:=4) ⟨0,0,rfl,Nat.zero_le _,rfl,fun t ht=>absurd ht (Nat.not_lt_zero t),rfl,rfl,rfl⟩ ?_ ?_ (by decide)
          ·unfold B7;((repeat' refine iE rfl rfl ?_);exact iN)
          ·unfold bM cM aY aD;have hrep:=KU l.length;((repeat'(first|refine iW rfl rfl (aZ (aG eH _) hrep) ?_|refine iF rfl rfl ?_|refine iC rfl rfl rfl ?_|refine iJ rfl rfl rfl rfl ?_));exact iN)
         ·rintro q e h nx ⟨i,j,hj,hi,rfl,hed0,rfl,rfl,rfl⟩;have rl:(nA m (List.replicate l.length false) i).length=l.length:=(by rw [y5,List.length_replicate]);have nxt:nA m (List.replicate l.length false) (i+1)=((nA m (List.replicate l.length false) i).set (cO m i).a.toNat true).set (cO m i).b.toNat true:=rfl;generalize hs0:nA m (List.replicate l.length false) i=s at rl nxt;have hsl:(flat eH.fl s).length=l.length:=(by rw [bD,rl];exact Nat.mul_one _);unfold B7 bM cM aY aD;((conv=>whnf);refine bm (fun d1=>?_) (fun d1=>?_))
          ·have hlt:i<m.length:=(by simp [aA,aB] at d1;omega);((conv=>whnf);refine bm (fun d2=>?_) (fun d2=>?_))
           ·(conv=>whnf);refine nV (BS m (i:=i) hlt ?_) ?_
            ·show _+Int.toNat j*5=_;omega
            generalize hed:cO m i=ed at nxt;((conv=>whnf);refine bm (fun f1=>?_) (fun f1=>?_))
            ·have f1:0≤ed.a:=(by simp [aA,aB] at f1;omega);((conv=>whnf);refine bm (fun f2=>?_) (fun f2=>?_))
             ·have f2:ed.a<ed.b:=(by simp [aA,aB] at f2;omega);((conv=>whnf);refine bm (fun f3=>?_) (fun f3=>?_))
              ·have f3:ed.b<l.length:=(by simp [aA,aB] at f3;omega);((conv=>whnf);refine bm (fun f4=>?_) (fun f4=>?_))
               ·have f4 : -1≤ed.n:=(by simp [aA,aB] at f4;omega);((conv=>whnf);refine bm (fun f5=>?_) (fun f5=>?_))
                ·have f5:200≤ed.n:=(by simp [aA,aB] at f5;omega);(conv=>whnf);rw [A5 hlt (oE hed (by omega))]
                ·have f5:ed.n<200:=(by simp [aA,aB] at f5;omega);((conv=>whnf);refine bm (fun f6=>?_) (fun f6=>?_))
                 ·have f6:0<i:=(by simp [aA,aB] at f6;omega);((conv=>whnf);refine bm (fun f7=>?_) (fun f7=>?_))
                  ·((conv=>whnf);refine bm (fun f8=>?_) (fun f8=>?_))
                   ·(conv=>whnf);refine gI (IV m 0 (i:=i - 1) (by omega) rfl (by decide) ?_) ?_
                    ·show _+Int.toNat (j - 1)*5+0=_;omega
                    ((conv=>whnf);refine bm (fun f9=>?_) (fun f9=>?_))
                    ·((conv=>whnf);refine bm (fun f10=>?_) (fun f10=>?_))
                     ·(conv=>whnf);refine gI (IV m 1 (i:=i - 1) (by omega) rfl (by decide) ?_) ?_
                      ·show _+Int.toNat (j - 1)*5+1=_;omega
                      generalize hd0:cO m (i - 1)=dd;(conv=>whnf);refine⟨[jG dd.a ed.a,jG dd.b ed.b],⟨rfl,_,_,_,_,rfl,rfl⟩,?_⟩;((conv=>whnf);refine bm (fun f11=>?_) (fun f11=>?_))
                      ·have f11:bfE dd ed=false:=by
                        rw [US];have:0≤orI (jG dd.a ed.a) (jG dd.b ed.b):=(by simpa [aA,aB] using f11);exact decide_eq_false (by omega)
                       (conv=>whnf);rw [A5 hlt (TJ hed hd0 (by omega) f11)]
                      ·have f11:bfE dd ed=true:=by
                        rw [US];have:¬ 0≤orI (jG dd.a ed.a) (jG dd.b ed.b):=(by simpa [aA,aB] using f11);exact decide_eq_true (by omega)
                       have hyes:IW l m i=true:=zM hed ⟨f1,f2,f3,f4,f5⟩ (by rw [hd0,f11,Bool.or_true]);((conv=>whnf);refine bm (fun k1=>?_) (fun k1=>?_))
                       ·((conv=>whnf);refine bm (fun k2=>?_) (fun k2=>?_))
                        ·((conv=>whnf);refine bm (fun k3=>?_) (fun k3=>?_))
                         ·((conv=>whnf);refine bm (fun k4=>?_) (fun k4=>?_))
                          ·((conv=>whnf);refine bm (fun k5=>?_) (fun k5=>?_))
                           ·(conv=>whnf);refine⟨m.length - (i+1),by omega,?_⟩;refine aM (e0:=B7 l.length m.length c2 (j+1)) (h0:=bM l m c1 c2 n (nA m (List.replicate l.length false) (i+1))) (n0:=4) ⟨i+1,j+1,by omega,by omega,rfl,fun t ht=>?_,rfl,rfl,rfl⟩ ?_ ?_ (by decide)
                            ·by_cases hti:t=i
                             ·rw [hti];exact hyes
                             ·exact hed0 t (by omega)
                            ·unfold B7;((repeat' refine iE rfl rfl ?_);exact iN)
                            ·unfold bM cM aY aD;have bQ:=RP (s:=s) (a:=ed.a.toNat) (b:=ed.b.toNat) (o1:=0+ed.a.toNat*1) (o2:=0+ed.b.toNat*1) (by omega) (by omega) (by omega) (by omega);rw [nxt];((repeat'(first|refine iW rfl rfl (aZ (aG eH _) bQ) ?_|refine iF rfl rfl ?_|refine iC rfl rfl rfl ?_|refine iJ rfl rfl rfl rfl ?_));exact iN)
                           ·exfalso;simp [aA,aB,aI] at k5;omega
                          ·have hpl:(c8 (flat eH.fl s) (0+ed.a.toNat*1) [.bool true]).length=l.length:=(by rw [dL (by rw [hsl];show 0+ed.a.toNat*1+1≤l.length;omega)];exact hsl);have k4:(0+ed.b.toNat*1+1).ble (c8 (flat eH.fl s) (0+ed.a.toNat*1) [.bool true]).length=false:=k4;rw [hpl] at k4;exact eV k4 (by omega)
                         ·exfalso;simp [aA,aB] at k3;omega
                        ·rw [hsl] at k2;exact eV k2 (by show 0+ed.a.toNat*1+1≤l.length;omega)
                       ·exfalso;simp [aA,aB] at k1;omega
                     ·exfalso;simp [aA,aB] at f10;omega
                    ·exfalso;simp [aA,aB,aI] at f9;omega
                   ·exfalso;simp [aA,aB] at f8;omega
                  ·exfalso;simp [aA,aB,aI] at f7;omega
                 ·have f6:i=0:=(by simp [aA,aB] at f6;omega);have hyes:IW l m i=true:=zM hed ⟨f1,f2,f3,f4,f5⟩ (by simp [f6]);((conv=>whnf);refine bm (fun k1=>?_) (fun k1=>?_))
                  ·((conv=>whnf);refine bm (fun k2=>?_) (fun k2=>?_))
                   ·((conv=>whnf);refine bm (fun k3=>?_) (fun k3=>?_))
                    ·((conv=>whnf);refine bm (fun k4=>?_) (fun k4=>?_))
                     ·((conv=>whnf);refine bm (fun k5=>?_) (fun k5=>?_))
                      ·(conv=>whnf);refine⟨m.length - (i+1),by omega,?_⟩;refine aM (e0:=B7 l.length m.length c2 (j+1)) (h0:=bM l m c1 c2 n (nA m (List.replicate l.length false) (i+1))) (n0:=4) ⟨i+1,j+1,by omega,by omega,rfl,fun t ht=>?_,rfl,rfl,rfl⟩ ?_ ?_ (by decide)
                       ·by_cases hti:t=i
                        ·rw [hti];exact hyes
                        ·exact hed0 t (by omega)
                       ·unfold B7;((repeat' refine iE rfl rfl ?_);exact iN)
                       ·unfold bM cM aY aD;have bQ:=RP (s:=s) (a:=ed.a.toNat) (b:=ed.b.toNat) (o1:=0+ed.a.toNat*1) (o2:=0+ed.b.toNat*1) (by omega) (by omega) (by omega) (by omega);rw [nxt];((repeat'(first|refine iW rfl rfl (aZ (aG eH _) bQ) ?_|refine iF rfl rfl ?_|refine iC rfl rfl rfl ?_|refine iJ rfl rfl rfl rfl ?_));exact iN)
                      ·exfalso;simp [aA,aB,aI] at k5;omega
                     ·have hpl:(c8 (flat eH.fl s) (0+ed.a.toNat*1) [.bool true]).length=l.length:=(by rw [dL (by rw [hsl];show 0+ed.a.toNat*1+1≤l.length;omega)];exact hsl);have k4:(0+ed.b.toNat*1+1).ble (c8 (flat eH.fl s) (0+ed.a.toNat*1) [.bool true]).length=false:=k4;rw [hpl] at k4;exact eV k4 (by omega)
                    ·exfalso;simp [aA,aB] at k3;omega
                   ·rw [hsl] at k2;exact eV k2 (by show 0+ed.a.toNat*1+1≤l.length;omega)
                  ·exfalso;simp [aA,aB] at k1;omega
               ·have f4:¬ -1≤ed.n:=(by simp [aA,aB] at f4;omega);(conv=>whnf);rw [A5 hlt (oE hed (by omega))]
              ·have f3:¬ ed.b<l.length:=(by simp [aA,aB] at f3;omega);(conv=>whnf);rw [A5 hlt (oE hed (by omega))]
             ·have f2:¬ ed.a<ed.b:=(by simp [aA,aB] at f2;omega);(conv=>whnf);rw [A5 hlt (oE hed (by omega))]
            ·have f1:¬ 0≤ed.a:=(by simp [aA,aB] at f1;omega);(conv=>whnf);rw [A5 hlt (oE hed (by omega))]
           ·exfalso;simp [aA,aB] at d2;omega
          ·have hge:i=m.length:=(by simp [aA,aB] at d1;omega);subst hge;(conv=>whnf);refine⟨s,⟨rl.symm,_,_,_,_,rfl,by rw [List.drop_zero,List.take_length]⟩,?_⟩;((conv=>whnf);refine bm (fun g1=>?_) (fun g1=>?_))
           ·(conv=>whnf);rw [cX,hsz,fB hpt,fB hed0,hs0];show Value.bool (!(!(s.all id)))=_;rw [Bool.not_not];rfl
           ·exfalso;have g1:decide (s.length≤1000000)=false:=g1;simp at g1;omega
        ·exfalso;simp [aA,aB] at m1;omega
    ·have a4:n<1:=(by simp [aA,aB] at a4;omega);(conv=>whnf);rw [hszf (by omega)]
   ·have a3:400<m.length:=(by simp [aA,aB] at a3;omega);(conv=>whnf);rw [hszf (by omega)]
  ·have a2:m.length<3:=(by simp [aA,aB] at a2;omega);(conv=>whnf);rw [hszf (by omega)]
 ·have a1:400<l.length:=(by simp [aA,aB] at a1;omega);(conv=>whnf);rw [hszf (by omega)]
end Go.Aw
end

noncomputable section
namespace Go.Aw
theorem apart {F1 F2 G1 G2 s1 s2 t1 t2 c:Int}(hi:G1*s2 - G2*s1=F2*t1 - F1*t2)(hd:G1 - G2=F2 - F1)(hF:F1*F2<0)(hG:G1*G2<0)
  (h1:s1≤c) (h2:s2≤c) (h3:c+1≤t1) (h4:c+1≤t2):False:=by
 have key:∀ {F1 F2 G1 G2 s1 s2 t1 t2:Int},G1*s2 - G2*s1=F2*t1 - F1*t2→G1 - G2=F2 - F1→F1<0→0<F2→0<G1→G2<0→s1≤c→s2≤c→c+1≤t1→c+1≤t2→False:=by
  intro F1 F2 G1 G2 s1 s2 t1 t2 hi hd f1 f2 g1 g2 h1 h2 h3 h4;have e1:=Int.mul_le_mul_of_nonneg_left h2 (Int.le_of_lt g1);have e2:=Int.mul_le_mul_of_nonneg_left h1 (show 0≤-G2 by omega);have e3:=Int.mul_le_mul_of_nonneg_left h3 (Int.le_of_lt f2);have e4:=Int.mul_le_mul_of_nonneg_left h4 (show 0≤-F1 by omega);have d:(G1 - G2)*c=(F2 - F1)*c:=(by rw [hd]);simp only [Int.mul_add,Int.mul_one,Int.neg_mul,Int.sub_mul] at e1 e2 e3 e4 d;omega
 rcases Int.lt_or_le F1 0 with f1|f1
 ·have f2:0<F2:=by
   rcases Int.lt_or_le 0 F2 with h|h
   ·exact h
   ·have:=Int.mul_nonneg_of_nonpos_of_nonpos (Int.le_of_lt f1) h;omega
  rcases Int.lt_or_le G1 0 with g1|g1
  ·have g2:0<G2:=by
    rcases Int.lt_or_le 0 G2 with h|h
    ·exact h
    ·have:=Int.mul_nonneg_of_nonpos_of_nonpos (Int.le_of_lt g1) h;omega
   omega
  ·have g1':0<G1:=by
    rcases Int.lt_or_le 0 G1 with h|h
    ·exact h
    ·have:G1=0:=(by omega);rw [this] at hG;omega
   have g2:G2<0:=by
    rcases Int.lt_or_le G2 0 with h|h
    ·exact h
    ·have:=Int.mul_nonneg g1 h;omega
   exact key hi hd f1 f2 g1' g2 h1 h2 h3 h4
 ·have f1':0<F1:=by
   rcases Int.lt_or_le 0 F1 with h|h
   ·exact h
   ·have:F1=0:=(by omega);rw [this] at hF;omega
  have f2:F2<0:=by
   rcases Int.lt_or_le F2 0 with h|h
   ·exact h
   ·have:=Int.mul_nonneg f1 h;omega
  rcases Int.lt_or_le G1 0 with g1|g1
  ·have g2:0<G2:=by
    rcases Int.lt_or_le 0 G2 with h|h
    ·exact h
    ·have:=Int.mul_nonneg_of_nonpos_of_nonpos (Int.le_of_lt g1) h;omega
   exact key (F1:=F2) (F2:=F1) (G1:=G2) (G2:=G1) (s1:=s2) (s2:=s1) (t1:=t2) (t2:=t1) (by omega) (by omega) f2 f1' g2 g1 h2 h1 h4 h3
  ·have g2:G2<0:=by
    rcases Int.lt_or_le G2 0 with h|h
    ·exact h
    ·have:=Int.mul_nonneg g1 h;omega
   omega
theorem OG {a b:Int}(h:XX a*XX b<0):a*b<0:=by
 unfold XX at h
 split at h <;> split at h <;> first
  |omega
  |(exact Int.mul_neg_of_neg_of_pos (by omega) (by omega))
  |(exact Int.mul_neg_of_pos_of_neg (by omega) (by omega))
  |(split at h <;> first|omega|(exact Int.mul_neg_of_neg_of_pos (by omega) (by omega))|(exact Int.mul_neg_of_pos_of_neg (by omega) (by omega)))
theorem aAd (s t:Sg):bE t.1 t.2 s.1 - bE t.1 t.2 s.2=bE s.1 s.2 t.2 - bE s.1 s.2 t.1:=by
 obtain⟨⟨a,b⟩,⟨c,d⟩⟩:=s;obtain⟨⟨e,f⟩,⟨g,h⟩⟩:=t;simp only [bE,Int.sub_mul,Int.mul_sub,Int.mul_comm,Int.mul_left_comm,Int.mul_assoc];omega
theorem aCi (s t:Sg):bE t.1 t.2 s.1*s.2.1 - bE t.1 t.2 s.2*s.1.1=bE s.1 s.2 t.2*t.1.1 - bE s.1 s.2 t.1*t.2.1:=by
 obtain⟨⟨a,b⟩,⟨c,d⟩⟩:=s;obtain⟨⟨e,f⟩,⟨g,h⟩⟩:=t;simp only [bE,Int.sub_mul,Int.mul_sub,Int.mul_comm,Int.mul_left_comm,Int.mul_assoc];omega
theorem aD3 (s t:Sg):bE t.1 t.2 s.1*s.2.2 - bE t.1 t.2 s.2*s.1.2=bE s.1 s.2 t.2*t.1.2 - bE s.1 s.2 t.1*t.2.2:=by
 obtain⟨⟨a,b⟩,⟨c,d⟩⟩:=s;obtain⟨⟨e,f⟩,⟨g,h⟩⟩:=t;simp only [bE,Int.sub_mul,Int.mul_sub,Int.mul_comm,Int.mul_left_comm,Int.mul_assoc];omega
theorem U3 {a b c d:Int}(h:apI a b c d=true):(∃ k,a≤k∧b≤k∧k+1≤c∧k+1≤d)∨(∃ k,c≤k∧d≤k∧k+1≤a∧k+1≤b):=by
 unfold apI mxI mnI at h;simp only [Bool.or_eq_true,decide_eq_true_eq] at h;rcases h with h|h
 ·refine .inl ⟨if b > a then b else a,?_⟩;split at h <;> split at h <;> omega
 ·refine .inr ⟨if d > c then d else c,?_⟩;split at h <;> split at h <;> omega
theorem Z2 {s t:Sg}(h:AX s t=true):¬ (bB s.1 s.2 t.1*bB s.1 s.2 t.2<0∧bB t.1 t.2 s.1*bB t.1 t.2 s.2<0):=by
 rintro ⟨h1,h2⟩;have h1:=OG h1;have h2:=OG h2;have d1:=aAd s t;have d2:=aAd t s;unfold AX at h;rw [Bool.or_eq_true] at h;rcases h with h|h
 ·rcases U3 h with ⟨k,a1,a2,a3,a4⟩|⟨k,a1,a2,a3,a4⟩
  ·exact apart (aCi s t) d1 h1 h2 a1 a2 a3 a4
  ·exact apart (aCi t s) d2 h2 h1 a1 a2 a3 a4
 ·rcases U3 h with ⟨k,a1,a2,a3,a4⟩|⟨k,a1,a2,a3,a4⟩
  ·exact apart (aD3 s t) d1 h1 h2 a1 a2 a3 a4
  ·exact apart (aD3 t s) d2 h2 h1 a1 a2 a3 a4
theorem aDx {s t:Sg}(h:AX s t=true)(p:Pt):¬ (pD p s=true∧pD p t=true):=by
 rintro ⟨h1,h2⟩;simp only [pD,YU,Bool.and_eq_true,decide_eq_true_eq] at h1 h2;obtain⟨⟨⟨x1,x2⟩,y1,y2⟩,_⟩:=h1;obtain⟨⟨⟨x3,x4⟩,y3,y4⟩,_⟩:=h2;unfold AX at h;rw [Bool.or_eq_true] at h;rcases h with h|h
 ·rcases U3 h with ⟨k,a1,a2,a3,a4⟩|⟨k,a1,a2,a3,a4⟩ <;>
   (split at x1 <;> split at x2 <;> split at x3 <;> split at x4 <;> omega)
 ·rcases U3 h with ⟨k,a1,a2,a3,a4⟩|⟨k,a1,a2,a3,a4⟩ <;>
   (split at y1 <;> split at y2 <;> split at y3 <;> split at y4 <;> omega)
theorem aBV {s t:Sg}(h:AX s t=true):fV s t=0:=by
 unfold fV;split
 ·rename_i hr;rw [VN s t hr.1 hr.2];have he:pW s t=[]:=by
   unfold pW;have:∀ p,mB s t [] p=[]:=fun p=>by
    unfold mB;rw [if_neg (fun hh=>aDx h p ⟨hh.1,hh.2.1⟩)]
   rw [this,this,this,this]
  unfold oW;rw [he];exact if_neg (Z2 h)
 ·rfl
theorem aC8 (s t:Sg):GZ s t=fV s t:=by
 unfold GZ;split
 ·rename_i h;rw [aBV h]
 ·rfl
end Go.Aw
end

noncomputable section
namespace Go.Aw
set_option maxRecDepth 100000
def CV (v:Pt):Bool:=decide (v.2<0) || (decide (v.2=0)&&decide (v.1<0))
def aIK:Nat × XF:=(242,gX (s1 cP fun v=>(true,.bool (CV v))))
theorem aMf:cH Go.Proofs.Tryz.prog aIK.1 aIK.2:=x1 cP (xl:=[]) .nil (fun _=>rfl) fun a _=>by
 obtain⟨ax,ay⟩:=a;unfold c9
 repeat' ((conv=>whnf);refine bm (fun h=>?_) (fun h=>?_))
 all_goals (conv=>whnf)
 all_goals (simp only [gL,tS,iT,gR,beq_iff_eq,beq_eq_false_iff_ne,ne_eq,Bool.not_eq_false,Bool.not_eq_true,decide_eq_true_eq,decide_eq_false_iff_not] at *)
 all_goals (show _=Value.bool (CV _);unfold CV;simp_all)
def crP (w v:Pt):Int:=w.1*v.2 - w.2*v.1
def Q7 (w v:Pt):Int:=if CV w=CV v then jG 0 (crP w v) else if CV v=true then -1 else 1
def aHl:Nat × XF:=(210,gX (s2 cP cP fun w v=>(wide w&&wide v,iv (Q7 w v))))
theorem aMS:cH Go.Proofs.Tryz.prog aHl.1 aHl.2:=x2 cP cP (xl:=[aIK,RM]) (.cons aMf (.cons Y5 .nil)) (fun _ _=>rfl) fun w v hp=>by
 obtain⟨wx,wy⟩:=w;obtain⟨vx,vy⟩:=v;simp only [wide,Bool.and_eq_true,decide_eq_true_eq] at hp;have m1:=vT (a:=wx) (b:=vy) (A:=1000000) (B:=1000000) (by omega) (by omega) (by omega) (by omega);have m2:=vT (a:=wy) (b:=vx) (A:=1000000) (B:=1000000) (by omega) (by omega) (by omega) (by omega);unfold c9
 repeat' ((conv=>whnf);refine bm (fun h=>?_) (fun h=>?_))
 all_goals (conv=>whnf)
 all_goals first
  |(exfalso;simp [aA,aB,aI] at h;omega)
  |(show iv _=iv (Q7 _ _);unfold Q7;simp [aA,aB] at *;simp_all;done)
  |(show iv _=iv (Q7 _ _);unfold Q7 crP;simp [aA,aB] at *;simp_all)
  |trace_state
structure Dt where
 dx:Int
 dy:Int
 no:Int
 fr:Int
 tt:Int
def pS:El Dt:=⟨fun e=>[iv e.dx,iv e.dy,iv e.no,iv e.fr,iv e.tt],5,fun _=>rfl,fun _=>rfl,by decide⟩
def bY (m:List Dt)(i:Nat):Dt:=m.getD i ⟨0,0,0,0,0⟩
theorem pC {m:List Dt}{i:Nat}(h:i<m.length):bY m i=m[i]:=by
 unfold bY;rw [List.getD_eq_getElem?_getD,List.getElem?_eq_getElem h];rfl
theorem aGC (m:List Dt){i o:Nat}(hi:i<m.length)(ho:o=i*5):nR (flat pS.fl m) o 5=some [iv (bY m i).dx,iv (bY m i).dy,iv (bY m i).no,iv (bY m i).fr,iv (bY m i).tt]:=by
 rw [pC hi];exact zY pS m hi ho
def eT (d:Dt):Pt:=(d.dx,d.dy)
theorem WE (m:List Dt){i o:Nat}(hi:i<m.length)(ho:o=i*5):nR (flat pS.fl m) o 2=some [iv (eT (bY m i)).1,iv (eT (bY m i)).2]:=by
 have h1:nth (flat pS.fl m) o=some (iv (bY m i).dx):=by
  rw [pC hi];exact l9 pS m hi (k:=0) rfl (by decide) (by rw [ho];rfl)
 have h2:nth (flat pS.fl m) (o+1)=some (iv (bY m i).dy):=by
  rw [pC hi];exact l9 pS m hi (k:=1) rfl (by decide) (by rw [ho];rfl)
 simp only [nR,h1,h2];rfl
def nN (h:Heap)(p:Nat)(D:List Dt):Prop:=∃ b c k0 k1 wr g sz r0 wr1 g1 sz1 r1 wr2 g2 sz2 cs n0 c0 n1 c1 F cc,
 look h p=some (.cells wr g sz (.pointer (some ⟨b,0,none⟩)::r0)) ∧
 look h b=some (.cells wr1 g1 sz1 (.slice (some ⟨k0,0,none⟩) n0 c0::.slice (some ⟨k1,0,none⟩) n1 c1::iv F::.slice (some ⟨c,0,none⟩) D.length cc::r1)) ∧
 look h c=some (.cells wr2 g2 sz2 cs)∧cs.take (flat pS.fl D).length=flat pS.fl D
def fW (D:List Dt):Bool:=D.all fun d=>wide (eT d)
def aBD (D:List Dt)(x y:Int):Int:=Q7 (eT (bY D x.toNat)) (eT (bY D y.toNat))
def tP (D:List Dt)(x y:Int):Bool:=decide (0≤x)&&decide (x<D.length)&&(decide (0≤y)&&decide (y<D.length))&&fW D
def VD:Nat × XF:=(209,fun args h nx K=>∃ x y p D,args=[iv x,iv y,.pointer (some ⟨p,0,none⟩)]∧nN h p D∧dJ (tP D x y) (K (iv (aBD D x y)) h nx))
def aJ4 (D:List Dt)(n0 c0 n1 c1:Nat)(F:Int)(cc:Nat):Heap:=[(0,.cells false false 1 [.pointer (some ⟨1,0,none⟩)]),(1,.cells false false 1 [.slice (some ⟨3,0,none⟩) n0 c0,.slice (some ⟨4,0,none⟩) n1 c1,iv F,.slice (some ⟨2,0,none⟩) D.length cc]),(2,.cells false true 5 (flat pS.fl D))]
def aMo (p b c k0 k1:Nat):Nat→Nat
 |0=>p
 |1=>b
 |2=>c
 |3=>k0
 |_=>k1
theorem aH9 {h:Heap}{p nx:Nat}{D:List Dt}(hd:nN h p D)(x y:Int):∃ n0 c0 n1 c1 F cc,In [iv x,iv y,.pointer (some ⟨0,0,none⟩)] (aJ4 D n0 c0 n1 c1 F cc) 5 [iv x,iv y,.pointer (some ⟨p,0,none⟩)] h nx:=by
 obtain⟨b,c,k0,k1,wr,g,sz,r0,wr1,g1,sz1,r1,wr2,g2,sz2,cs,n0,c0,n1,c1,F,cc,h1,h2,h3,h4⟩:=hd;refine⟨n0,c0,n1,c1,F,cc,xK (aMo p b c k0 k1) rfl ?_ ?_⟩
 ·refine List.forall_mem_cons.2 ⟨cY rfl,List.forall_mem_cons.2 ⟨cY rfl,List.forall_mem_cons.2 ⟨⟨by decide,rfl⟩,fun _ h=>by cases h⟩⟩⟩
 ·intro k o hk;unfold aJ4 at hk;rw [aE] at hk;split at hk
  ·rename_i hb;injection hk with hk;subst hk;rw [← beq_true hb]
   refine⟨by decide,false,1,_,rfl,by decide,(fun h=>by cases h),List.forall_mem_cons.2 ⟨⟨by decide,rfl⟩,fun _ h=>by cases h⟩,wr,g,sz,_,h1,rfl⟩
  rw [aE] at hk;split at hk
  ·rename_i hb;injection hk with hk;subst hk;rw [← beq_true hb]
   refine⟨by decide,false,1,_,rfl,by decide,(fun h=>by cases h),?_,wr1,g1,sz1,_,h2,rfl⟩;refine List.forall_mem_cons.2 ⟨⟨by decide,fun h=>by cases h⟩,List.forall_mem_cons.2 ⟨⟨by decide,fun h=>by cases h⟩,List.forall_mem_cons.2 ⟨cL rfl,List.forall_mem_cons.2 ⟨⟨by decide,fun h=>by cases h⟩,fun _ h=>by cases h⟩⟩⟩⟩
  rw [aE] at hk;split at hk
  ·rename_i hb;injection hk with hk;subst hk;rw [← beq_true hb]
   exact⟨by decide,true,5,_,rfl,by decide,fun _=>aG pS D,fun v hv=>cL (aW (aG pS D) hv),wr2,g2,sz2,cs,h3,by rw [h4];exact (bW (aG pS D)).symm⟩
  ·exact bV hk
theorem aFQ:cH Go.Proofs.Tryz.prog VD.1 VD.2:=by
 refine (gC (S:=fun args0 h0 n0 v1 h1 m=>∃ x y D n1 c1 n2 c2 F cc,tP D x y=true∧args0=[iv x,iv y,.pointer (some ⟨0,0,none⟩)]∧h0=aJ4 D n1 c1 n2 c2 F cc∧n0=5∧v1=iv (aBD D x y)∧h1=[]∧m=0) (aL (xl:=[aHl]) (.cons aMS .nil)) ?_).mono ?_ ?_
 ·rintro args0 h0 n0 v1 h1 m ⟨x,y,D,n1,c1,n2,c2,F,cc,hok,rfl,rfl,rfl,rfl,rfl,rfl⟩;refine⟨rfl,fun u _ _=>u=iv (aBD D x y),?_,fun v h nx e=>by rw [e];exact kD rfl⟩;simp only [tP,Bool.and_eq_true,decide_eq_true_eq] at hok;obtain⟨⟨⟨h0,h1⟩,h2,h3⟩,hw⟩:=hok;have wx:wide (eT (bY D x.toNat))=true:=by
   rw [pC (by omega)];exact List.all_eq_true.1 hw _ (List.getElem_mem _)
  have wy:wide (eT (bY D y.toNat))=true:=by
   rw [pC (by omega)];exact List.all_eq_true.1 hw _ (List.getElem_mem _)
  ((conv=>whnf);refine bm (fun a1=>?_) (fun a1=>?_))
  ·(conv=>whnf);refine nV (WE D (i:=x.toNat) (by omega) ?_) ?_
   ·show _+Int.toNat x*5=_;omega
   ((conv=>whnf);refine bm (fun a2=>?_) (fun a2=>?_))
   ·(conv=>whnf);refine nV (WE D (i:=y.toNat) (by omega) ?_) ?_
    ·show _+Int.toNat y*5=_;omega
    ((conv=>whnf);refine bm (fun a3=>?_) (fun a3=>?_))
    ·(conv=>whnf);rfl
    ·exfalso;have a3:(wide (eT (bY D x.toNat))&&wide (eT (bY D y.toNat)))=false:=a3;rw [wx,wy] at a3;cases a3
   ·exfalso;simp [aA,aB] at a2;omega
  ·exfalso;simp [aA,aB] at a1;omega
 ·rintro args h nx K ⟨x,y,p,D,rfl,hd,hx⟩;obtain⟨hb,hx⟩:=aH.1 hx;obtain⟨n0,c0,n1,c1,F,cc,i⟩:=aH9 (nx:=nx) hd x y;refine⟨_,_,5,_,[],0,⟨x,y,D,n0,c0,n1,c1,F,cc,hb,rfl,rfl,rfl,rfl,rfl,rfl⟩,i,?_⟩;exact hx
 ·rintro args h nx K ⟨x,y,p,D,rfl,hd,hx⟩;obtain⟨hb,hx⟩:=aH.1 hx;exact⟨_,_,_,hx,fun K' hk'=>⟨x,y,p,D,rfl,hd,aJ hb hk'⟩⟩
end Go.Aw
end

noncomputable section
namespace Go.Aw
open Go.RowKit
section
variable {α:Type}(E:El α)
theorem K6 {ι ι':Nat→Loc}{B:Nat}{w:World}{sz:Nat}{cs:List Value}{loc:Loc}(hg:dG cs=true)(h:jZ ι B w (.cells true false sz cs) loc):jZ ι' B w (.cells true false sz cs) loc:=by
 cases loc with
 |nil p=>exact h
 |lay b o e =>
  obtain⟨x1,x2,arr,t,x3,x4,x5⟩:=h;refine⟨x1,x2,arr,t,x3,x4,fun i v hv=>?_⟩;rw [x5 i v hv,kM (aW hg (List.mem_of_getElem? hv)),kM (aW hg (List.mem_of_getElem? hv))]
end
end Go.Aw
end
