/-
  Parts of a proof. No condition.
-/
import Derived.Test.YtjahkcbdecgbhaaGreatQAr
import Derived.Test.YtjahkcbdecgbhaaGreatQAz
set_option linter.unusedSimpArgs false
set_option linter.unusedVariables false
noncomputable section
namespace Go.Aw
set_option maxRecDepth 100000
set_option maxHeartbeats 4000000
def OO (l:List Pt)(m:List Ed):Bool:=(eH (aV l m m.length) (outs l m)).all id
def dD (l:List Pt)(m:List Ed):P7:=nmD l (aV l m m.length) (outs l m)
def EC (l:List Pt)(m:List Ed)(i:Nat):Bool:=decide ((cX m i).l=aB (dD l m).face (2*i))&&decide ((cX m i).r=aB (dD l m).face (2*i+1))
def cN (l:List Pt)(m:List Ed)(n:Int):Bool:=mE l m n&&(OO l m&&(AO (dD l m)&&(decide ((dD l m).many=n)&&m8 (EC l m) m.length)))
def YU (l:List Pt)(m:List Ed)(c1 c2:Nat)(n:Int):Heap:=(7,N5 (WD l m c1 c2 n) (.slice (some ⟨2003,0,none⟩) (aV l m m.length).length (aV l m m.length).length))::(2003,.cells true false 1 (flat aL.fl (dD l m).face))::lT 3 (uG l m)
def aIu (l:List Pt)(m:List Ed)(c1 c2:Nat)(n:Int):KE:=fun v h nx =>
 (cN l m n=true∧L6 (.tuple #[.pointer (some ⟨7,0,none⟩),iv 0]) (YU l m c1 c2 n) 2004 v h nx)∨(cN l m n=false∧v=.tuple #[.pointer none,iv 1])
def ZC (N:Nat)(j:Int):List (Nat × Value):=[(1,.pointer (some ⟨2,0,none⟩)),(17,iv N),(18,iv j)]
def PK (N:Nat)(j z:Int):List (Nat × Value):=(4,iv j)::(21,iv j)::(22,iv z)::ZC N j
theorem Z8 {l:List Pt}{m:List Ed}{c1 c2:Nat}{n:Int}:look (PA (WD l m c1 c2 n)) 2=some (.cells false false 1 [.slice (some ⟨0,0,none⟩) l.length c1,.slice (some ⟨1,0,none⟩) m.length c2,iv n]):=by
 unfold PA WD;rw [bA (by omega),bA (by omega)];unfold n7;rw [fY];split
 ·rename_i o' ho;exfalso;obtain⟨j,q,e1,_,_⟩:=jV _ ho;omega
 ·rfl
theorem IE {b n0 nx:Nat}{I:KS}{e0 e:List (Nat × Value)}{h0 h:Heap}(hI:I e0 h0 n0)(he:∀ p∈e0,look e p.1=some (iB id p.2)∧A0 n0 p.2)(hh:∀ k o,look h0 k=some o→look h k=some o)(hok:y6 h0 n0)(hb:b≤n0):qU b I e h nx :=
 ⟨e0,h0,n0,id,hI,fun t v hv=>he (t,v) (bF hv),fun k o hk=>⟨(hok k o hk).1,o,hh k o hk,(hok k o hk).2⟩,fun _ _ _ _ _ _ e=>e,fun _ _=>rfl,hb⟩
def hF (l:List Pt)(m:List Ed)(c1 c2:Nat)(n:Int):Heap :=
 (7,N5 (WD l m c1 c2 n) (.slice (some ⟨2003,0,none⟩) (WD l m c1 c2 n).D.length (WD l m c1 c2 n).D.length))::(2003,.cells true false 1 (flat aL.fl (dD l m).face))::(2,.cells false false 1 [.slice (some ⟨0,0,none⟩) l.length c1,.slice (some ⟨1,0,none⟩) m.length c2,iv n]) ::
 (0,.cells false true aZ.sz (flat aZ.fl l))::(1,.cells false true aY.sz (flat aY.fl m))::lT 3 (uG l m)
theorem UL {l:List Pt}{m:List Ed}{c1 c2:Nat}{n:Int}:∀ k o,look (YU l m c1 c2 n) k=some o→look (hF l m c1 c2 n) k=some o:=by
 intro k o hk;unfold YU at hk;rw [aC] at hk;split at hk
 ·rename_i hb;rw [← beq_true hb,← hk];rfl
 rename_i hb7;rw [aC] at hk;split at hk
 ·rename_i hb;rw [← beq_true hb,← hk];rfl
 rename_i hb3;have h7:(7:Nat)≠k:=beq_false hb7;have h3:(2003:Nat)≠k:=beq_false hb3;obtain⟨j,q,e1,_,_⟩:=jV _ hk;unfold hF;rw [bA h7,bA h3,bA (by omega),bA (by omega),bA (by omega)];exact hk
def YN (N c2:Nat)(j:Int):List (Nat × Value):=[(7,.pointer (some ⟨7,0,none⟩)),(59,.slice (some ⟨1,0,none⟩) N c2),(60,iv N),(61,iv j)]
theorem QZ {l:List Pt}{m:List Ed}{c1 c2:Nat}{n:Int}(hl:l.length≤1000):y6 (hF l m c1 c2 n) 2004:=by
 have hsl:∀ {q a b:Nat},q<2004→AB 2004 (.slice (some ⟨q,0,none⟩) a b):=fun {q a b} hq=>⟨hq,fun h=>by cases h⟩;refine dC (dC (dC (dC (dC (D0 (aAu (n:=3) (M9 hl) vK) (by omega)) (by omega) (aK (aE _ _))) (by omega) (aK (aE _ _))) (by omega) ⟨rfl,rfl,rfl,rfl,?_⟩) (by omega) (aK (aE _ _))) (by omega) ⟨rfl,rfl,rfl,rfl,?_⟩
 ·exact List.forall_mem_cons.2 ⟨hsl (by omega),List.forall_mem_cons.2 ⟨hsl (by omega),List.forall_mem_cons.2 ⟨cA rfl,fun _ h=>(by cases h)⟩⟩⟩
 ·exact List.forall_mem_cons.2 ⟨hsl (show 3<2004 by omega),List.forall_mem_cons.2 ⟨hsl (show 4<2004 by omega),List.forall_mem_cons.2 ⟨cA rfl,List.forall_mem_cons.2 ⟨hsl (show 9<2004 by omega),List.forall_mem_cons.2 ⟨hsl (show 8<2004 by omega),List.forall_mem_cons.2 ⟨hsl (by omega),fun _ h=>(by cases h)⟩⟩⟩⟩⟩⟩
theorem aFY {l:List Pt}{m:List Ed}{c1 c2:Nat}{n:Int}(hl:l.length≤1000):L6 (.tuple #[.pointer (some ⟨7,0,none⟩),iv 0]) (YU l m c1 c2 n) 2004 (.tuple #[.pointer (some ⟨7,0,none⟩),iv 0]) (hF l m c1 c2 n) 2004:=by
 refine⟨id,fun t u hu=>?_,fun k o hk=>?_,fun _ _ _ _ _ _ e=>e,fun _ _=>rfl,by omega⟩
 ·have hm:=bF hu;simp only [List.mem_cons,List.not_mem_nil,or_false] at hm;injection hm with e1 e2;subst e1 e2;refine⟨by simp [iB,tr,dS,bS,dT,lB];rfl,?_⟩;intro v hv;simp only [List.mem_cons,List.not_mem_nil,or_false] at hv;rcases hv with rfl|rfl
  ·exact⟨Nat.le_of_ble_eq_true rfl,rfl⟩
  ·exact gR (cA rfl)
 ·have h:=UL k o hk;obtain⟨a1,a2⟩:=QZ hl k o h;exact⟨a1,o,h,a2⟩
theorem aEX {l:List Pt}{m:List Ed}{k:Nat}(h:k<3):look (lT 3 (uG l m)) k=none:=by
 cases hl:look (lT 3 (uG l m)) k with
 |none=>rfl
 |some o =>
  obtain⟨j,q,e1,_,_⟩:=jV _ hl;omega
theorem aGD {l:List Pt}{m:List Ed}{c1 c2:Nat}{n:Int}:∀ k o,look (hF l m c1 c2 n) k=some o→look (PA (WD l m c1 c2 n)) k=some o:=by
 intro k o hk;unfold hF at hk;rw [aC] at hk;split at hk
 ·rename_i hb;rw [← beq_true hb,← hk];rfl
 rename_i hb7;rw [aC] at hk;split at hk
 ·rename_i hb;rw [← beq_true hb,← hk];rfl
 rename_i hb3;rw [aC] at hk;split at hk
 ·rename_i hb;rw [← beq_true hb,Z8,← hk]
 have h7:(7:Nat)≠k:=beq_false hb7;have h3:(2003:Nat)≠k:=beq_false hb3;show look ((7,_)::(2003,_)::app (lT 3 (uG l m)) (eG (LR l m c1 c2 n))) k=some o;rw [bA h7,bA h3,fY];rw [aC] at hk;split at hk
 ·rename_i hb;rw [← beq_true hb,aEX (by omega),← hk];rfl
 rw [aC] at hk;split at hk
 ·rename_i hb;rw [← beq_true hb,aEX (by omega),← hk];rfl
 rw [hk]
theorem w69 (l:List Pt)(m:List Ed)(n:Int)(c1 c2:Nat)(hl:l.length≤1000)(hm:m.length≤1000)
  (hP:dH l m n=true→uL l (aV l m m.length) (outs l m)=true∧aAA (aV l m m.length) (outs l m)=true∧XI (aV l m m.length) (outs l m)=true∧1≤l.length) :
  body [VF,aDv,TK,U9,VI,(155,aFW)] 69 [aD l.length m.length c1 c2 n] (aH aZ aY l m) 2 (aIu l m c1 c2 n):=by
 (conv=>whnf);refine⟨l,m,aM aZ rfl,aM aY rfl,?_⟩;((conv=>whnf);refine bm (fun a0=>?_) (fun a0=>?_))
 ·((conv=>whnf);refine bm (fun a1=>?_) (fun a1=>?_))
  ·have hno:dH l m n=false:=by
    have a1:(!dH l m n)=true:=a1;simpa using a1
   (conv=>whnf);exact .inr ⟨by rw [cN,mE,hno];rfl,rfl⟩
  ·have hlst:dH l m n=true:=by
    have a1:(!dH l m n)=false:=a1;simpa using a1
   have hM:YT l m=true:=by
    have hh:=hlst;simp only [dH,Bool.and_eq_true] at hh;exact QV hl hm (fun i hi=>fH hh.2.1 hi) (fun i hi=>fH hh.2.2.1 hi)
   (conv=>whnf);refine⟨fun q e h nx=>∃ (i:Nat) (j:Int),j=i∧i≤m.length∧q=m.length - i∧(∀ t,t<i→∀ k,k<t→O8 l m t k=true)∧e=ZC m.length j∧h=LR l m c1 c2 n∧nx=3,⟨m.length,?_⟩,?_⟩
   ·refine cO (e0:=ZC m.length 0) (h0:=LR l m c1 c2 n) (n0:=3) ⟨0,0,rfl,Nat.zero_le _,rfl,fun t ht=>absurd ht (Nat.not_lt_zero t),rfl,rfl,rfl⟩ ?_ ?_ (by decide)
    ·unfold ZC;((repeat' refine iE rfl rfl ?_);exact iN)
    ·unfold LR bP aH;((repeat'(first|refine iF rfl rfl ?_|refine iC rfl rfl rfl ?_|refine iJ rfl rfl rfl rfl ?_));exact iN)
   ·rintro q e h nx ⟨i,j,hj,hi,rfl,hme,rfl,rfl,rfl⟩;unfold ZC LR bP aH;((conv=>whnf);refine bm (fun h3=>?_) (fun h3=>?_))
    ·have hlt:i<m.length:=(by simp [aA,aF] at h3;omega);(conv=>whnf);refine⟨fun q e h nx=>∃ (k:Nat) (z:Int),z=k∧k≤i∧q=i - k∧(∀ t,t<k→O8 l m i t=true)∧e=PK m.length j z∧h=LR l m c1 c2 n∧nx=3,⟨i,?_⟩,?_⟩
     ·refine cO (e0:=PK m.length j 0) (h0:=LR l m c1 c2 n) (n0:=3) ⟨0,0,rfl,Nat.zero_le _,rfl,fun t ht=>absurd ht (Nat.not_lt_zero t),rfl,rfl,rfl⟩ ?_ ?_ (by decide)
      ·unfold PK ZC;((repeat' refine iE rfl rfl ?_);exact iN)
      ·unfold LR bP aH;((repeat'(first|refine iF rfl rfl ?_|refine iC rfl rfl rfl ?_|refine iJ rfl rfl rfl rfl ?_));exact iN)
     ·rintro q e h nx ⟨k,z,hz,hk,rfl,hmk,rfl,rfl,rfl⟩;unfold PK ZC LR bP aH;((conv=>whnf);refine bm (fun h4=>?_) (fun h4=>?_))
      ·have hkl:k<i:=(by simp [aA,aF] at h4;omega);have ej:j.toNat=i:=(by omega);have ez:z.toNat=k:=(by omega);(conv=>whnf);refine⟨l,m,aM aZ rfl,aM aY rfl,?_⟩;((conv=>whnf);refine bm (fun h5=>?_) (fun h5=>?_))
       ·(conv=>whnf);refine⟨l,m,aM aZ rfl,aM aY rfl,?_⟩;((conv=>whnf);refine bm (fun h6=>?_) (fun h6=>?_))
        ·(conv=>whnf);have em:EL (dO l m j.toNat) (dO l m z.toNat)=jJ (dO l m i) (dO l m k):=(by rw [ej,ez,aA9]);((conv=>whnf);refine bm (fun h7=>?_) (fun h7=>?_))
         ·have h7:¬ jJ (dO l m i) (dO l m k)=0:=(by rw [← em];simpa [aA,aF] using h7);((conv=>whnf);refine bm (fun h8=>?_) (fun h8=>?_))
          ·have h8:¬ jJ (dO l m i) (dO l m k)=1:=(by rw [← em];simpa [aA,aF] using h8);(conv=>whnf);exact .inr ⟨by rw [cN,aFq hlt hkl (by rw [O8,decide_eq_false h7,decide_eq_false h8];rfl)];rfl,rfl⟩
          ·have h8:jJ (dO l m i) (dO l m k)=1:=(by rw [← em];simpa [aA,aF] using h8);have hyes:O8 l m i k=true:=(by rw [O8,decide_eq_true h8,Bool.or_true]);((conv=>whnf);refine bm (fun h9=>?_) (fun h9=>?_))
           ·(conv=>whnf);refine⟨i - (k+1),by omega,?_⟩;refine cO (e0:=PK m.length j (z+1)) (h0:=LR l m c1 c2 n) (n0:=3) ⟨k+1,z+1,by omega,by omega,rfl,fun t ht=>?_,rfl,rfl,rfl⟩ ?_ ?_ (by decide)
            ·by_cases htk:t=k
             ·rw [htk];exact hyes
             ·exact hmk t (by omega)
            ·unfold PK ZC;((repeat' refine iE rfl rfl ?_);exact iN)
            ·unfold LR bP aH;((repeat'(first|refine iF rfl rfl ?_|refine iC rfl rfl rfl ?_|refine iJ rfl rfl rfl rfl ?_));exact iN)
           ·exfalso;simp [aA,aF,aI] at h9;omega
         ·have h7:jJ (dO l m i) (dO l m k)=0:=(by rw [← em];simpa [aA,aF] using h7);have hyes:O8 l m i k=true:=(by rw [O8,decide_eq_true h7,Bool.true_or]);((conv=>whnf);refine bm (fun h9=>?_) (fun h9=>?_))
          ·(conv=>whnf);refine⟨i - (k+1),by omega,?_⟩;refine cO (e0:=PK m.length j (z+1)) (h0:=LR l m c1 c2 n) (n0:=3) ⟨k+1,z+1,by omega,by omega,rfl,fun t ht=>?_,rfl,rfl,rfl⟩ ?_ ?_ (by decide)
           ·by_cases htk:t=k
            ·rw [htk];exact hyes
            ·exact hmk t (by omega)
           ·unfold PK ZC;((repeat' refine iE rfl rfl ?_);exact iN)
           ·unfold LR bP aH;((repeat'(first|refine iF rfl rfl ?_|refine iC rfl rfl rfl ?_|refine iJ rfl rfl rfl rfl ?_));exact iN)
          ·exfalso;simp [aA,aF,aI] at h9;omega
        ·exfalso;have h6:(YT l m&&(decide (0≤z)&&decide (z<m.length)))=false:=h6;rw [hM,decide_eq_true (show 0≤z by omega),decide_eq_true (show z<m.length by omega)] at h6;cases h6
       ·exfalso;have h5:(YT l m&&(decide (0≤j)&&decide (j<m.length)))=false:=h5;rw [hM,decide_eq_true (show 0≤j by omega),decide_eq_true (show j<m.length by omega)] at h5;cases h5
      ·have hge:k=i:=(by simp [aA,aF] at h4;omega);((conv=>whnf);refine bm (fun h5=>?_) (fun h5=>?_))
       ·(conv=>whnf);refine⟨m.length - (i+1),by omega,?_⟩;refine cO (e0:=ZC m.length (j+1)) (h0:=LR l m c1 c2 n) (n0:=3) ⟨i+1,j+1,by omega,by omega,rfl,fun t ht=>?_,rfl,rfl,rfl⟩ ?_ ?_ (by decide)
        ·by_cases hti:t=i
         ·rw [hti];exact fun k' hk'=>hmk k' (by omega)
         ·exact hme t (by omega)
        ·unfold ZC;((repeat' refine iE rfl rfl ?_);exact iN)
        ·unfold LR bP aH;((repeat'(first|refine iF rfl rfl ?_|refine iC rfl rfl rfl ?_|refine iJ rfl rfl rfl rfl ?_));exact iN)
       ·exfalso;simp [aA,aF,aI] at h5;omega
    ·have hge:i=m.length:=(by simp [aA,aF] at h3;omega);have hpln:mE l m n=true:=by
      rw [mE,hlst,kG (fun i hi=>kG (hme i (by omega)))];rfl
     obtain⟨p1,p2,p3,p4⟩:=hP hlst;(conv=>whnf);refine⟨l,m,n,.slice (some ⟨0,0,none⟩) l.length c1,.slice (some ⟨1,0,none⟩) m.length c2,rfl,aM aZ rfl,aM aY rfl,hlst,?_⟩;(conv=>whnf);have hW:uP (app (lT 3 (aCO l m c1 c2 n)) (eG (LR l m c1 c2 n))) 7 3 4 9 8 0 (fun i=>3+(i+1000)) l (aV l m m.length) (outs l m) m.length c1 c2 n none:=by
      rw [aBD];exact V3.at (ext_cons (fun _ _ h=>h) aF9) rfl
     refine⟨7,[],3,4,9,8,0,(fun i=>3+(i+1000)),l,aV l m m.length,outs l m,m.length,c1,c2,n,none,rfl,hW,?_⟩;rw [show cnS l (aV l m m.length) (outs l m) []=some (true,.bool (OO l m)) from by
      unfold cnS;rw [C0 p1,p3,eL,decide_eq_true p4];rfl]
     refine aJ rfl ?_;((conv=>whnf);refine bm (fun b1=>?_) (fun b1=>?_))
     ·have hc:OO l m=false:=by
       have b1:(!OO l m)=true:=b1;simpa using b1
      (conv=>whnf);exact .inr ⟨by rw [cN,hc,Bool.false_and,Bool.and_false],rfl⟩
     ·have hc:OO l m=true:=by
       have b1:(!OO l m)=false:=b1;simpa using b1
      (conv=>whnf);refine⟨WD l m c1 c2 n,aFZ hl p1 p2,rfl,aBD,rfl,?_⟩;((conv=>whnf);refine bm (fun b2=>?_) (fun b2=>?_))
      ·have hok:AO (dD l m)=true:=by
        have b2:((!AO (dD l m)) == false)=true:=b2;simpa using b2
       (conv=>whnf);rw [Z8];((conv=>whnf);refine bm (fun b3=>?_) (fun b3=>?_))
       ·have hne:¬ (dD l m).many=n:=by
         have b3:(!decide ((dD l m).many=n))=true:=b3;simpa using b3
        (conv=>whnf);exact .inr ⟨by rw [cN,decide_eq_false hne,Bool.false_and,Bool.and_false,Bool.and_false,Bool.and_false],rfl⟩
       ·have hmn:(dD l m).many=n:=by
         have b3:(!decide ((dD l m).many=n))=false:=b3;simpa using b3
        (conv=>whnf);rw [Z8];(conv=>whnf);have hfl:(dD l m).face.length=2*m.length:=by
         have:=(tR l (aV l m m.length) (outs l m) (aV l m m.length).length).1;exact this.trans (bM l m m.length)
        have hDl:(WD l m c1 c2 n).D.length=2*m.length:=bM l m m.length;have hhok:=QZ (m:=m) (c1:=c1) (c2:=c2) (n:=n) hl;refine⟨fun q e h nx=>∃ (i:Nat) (j:Int),j=i∧i≤m.length∧q=m.length - i∧(∀ t,t<i→EC l m t=true)∧e=YN m.length c2 j∧h=hF l m c1 c2 n∧nx=2004,⟨m.length,?_⟩,?_⟩
        ·refine IE (e0:=YN m.length c2 0) (h0:=hF l m c1 c2 n) (n0:=2004) ⟨0,0,rfl,Nat.zero_le _,rfl,fun t ht=>absurd ht (Nat.not_lt_zero t),rfl,rfl,rfl⟩ ?_ aGD hhok (by omega);unfold YN;((repeat' refine iE rfl rfl ?_);exact iN)
        ·clear hj hi hge h3 hme;rintro q e h nx ⟨i,j,hj,hi,rfl,hfa,rfl,rfl,rfl⟩;unfold YN;((conv=>whnf);refine bm (fun h3=>?_) (fun h3=>?_))
         ·have hlt:i<m.length:=(by simp [aA,aF] at h3;omega);((conv=>whnf);refine bm (fun g1=>?_) (fun g1=>?_))
          ·(conv=>whnf);refine IF (YH m (i:=i) (by omega) ?_) ?_
           ·show _+Int.toNat j*5=_;omega
           ((conv=>whnf);refine bm (fun g2=>?_) (fun g2=>?_))
           ·((conv=>whnf);refine bm (fun g3=>?_) (fun g3=>?_))
            ·(conv=>whnf);refine eP (cF (dD l m).face (i:=2*i) (by omega) ?_) ?_
             ·show _+Int.toNat (2*j)*1=_;omega
             ((conv=>whnf);refine bm (fun g4=>?_) (fun g4=>?_))
             ·have hL:(cX m i).l=aB (dD l m).face (2*i):=by
               have g4:((!decide ((cX m i).l=aB (dD l m).face (2*i))) == false)=true:=g4;simpa using g4
              ((conv=>whnf);refine bm (fun g5=>?_) (fun g5=>?_))
              ·((conv=>whnf);refine bm (fun g6=>?_) (fun g6=>?_))
               ·((conv=>whnf);refine bm (fun g7=>?_) (fun g7=>?_))
                ·(conv=>whnf);refine eP (cF (dD l m).face (i:=2*i+1) (by omega) ?_) ?_
                 ·show _+Int.toNat (2*j+1)*1=_;omega
                 ((conv=>whnf);refine bm (fun g8=>?_) (fun g8=>?_))
                 ·have hR:¬ (cX m i).r=aB (dD l m).face (2*i+1):=by
                   have g8:(!decide ((cX m i).r=aB (dD l m).face (2*i+1)))=true:=g8;simpa using g8
                  (conv=>whnf);exact .inr ⟨by rw [cN,kO hlt (show EC l m i=false by rw [EC,decide_eq_false hR,Bool.and_false]),Bool.and_false,Bool.and_false,Bool.and_false,Bool.and_false],rfl⟩
                 ·have hR:(cX m i).r=aB (dD l m).face (2*i+1):=by
                   have g8:(!decide ((cX m i).r=aB (dD l m).face (2*i+1)))=false:=g8;simpa using g8
                  ((conv=>whnf);refine bm (fun g9=>?_) (fun g9=>?_))
                  ·(conv=>whnf);refine⟨m.length - (i+1),by omega,?_⟩;refine IE (e0:=YN m.length c2 (j+1)) (h0:=hF l m c1 c2 n) (n0:=2004) ⟨i+1,j+1,by omega,by omega,rfl,fun t ht=>?_,rfl,rfl,rfl⟩ ?_ (a8 (aN (fun _ _ h=>h) (bQ hhok (Nat.le_refl _))) (bQ hhok (Nat.le_refl _))) hhok (by omega)
                   ·by_cases hti:t=i
                    ·rw [hti,EC,decide_eq_true hL,decide_eq_true hR];rfl
                    ·exact hfa t (by omega)
                   ·unfold YN;((repeat' refine iE rfl rfl ?_);exact iN)
                  ·exfalso;simp [aA,aF,aI] at g9;omega
                ·exfalso;simp [aA,aF,hDl] at g7;omega
               ·exfalso;simp [aA,aF,aI] at g6;omega
              ·exfalso;simp [aA,aF,aI] at g5;omega
             ·have hL:¬ (cX m i).l=aB (dD l m).face (2*i):=by
               have g4:((!decide ((cX m i).l=aB (dD l m).face (2*i))) == false)=false:=g4;simpa using g4
              (conv=>whnf);exact .inr ⟨by rw [cN,kO hlt (show EC l m i=false by rw [EC,decide_eq_false hL,Bool.false_and]),Bool.and_false,Bool.and_false,Bool.and_false,Bool.and_false],rfl⟩
            ·exfalso;simp [aA,aF,hDl] at g3;omega
           ·exfalso;simp [aA,aF,aI] at g2;omega
          ·exfalso;simp [aA,aF] at g1;omega
         ·have hge:i=m.length:=(by simp [aA,aF] at h3;omega);(conv=>whnf);refine .inl ⟨?_,aFY hl⟩;rw [cN,hpln,hc,hok,decide_eq_true hmn,kG (fun t ht=>hfa t (by omega))];rfl
      ·have hok:AO (dD l m)=false:=by
        have b2:((!AO (dD l m)) == false)=false:=b2;simpa using b2
       (conv=>whnf);exact .inr ⟨by rw [cN,hok,Bool.false_and,Bool.and_false,Bool.and_false],rfl⟩
 ·exfalso;have a0:(decide (l.length≤1000)&&decide (m.length≤1000))=false:=a0;rw [decide_eq_true hl,decide_eq_true hm] at a0;cases a0
end Go.Aw
end
