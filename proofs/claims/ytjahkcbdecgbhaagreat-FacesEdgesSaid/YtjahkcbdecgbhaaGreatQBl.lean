/-
  Parts of the proof, put together. No condition.
-/
import Derived.Test.YtjahkcbdecgbhaaGreatQBa
import Derived.Test.YtjahkcbdecgbhaaGreatQBk
set_option linter.unusedSimpArgs false
set_option linter.unusedVariables false
noncomputable section
namespace Go.Aw
set_option maxRecDepth 100000
set_option maxHeartbeats 4000000
def OU (l:List Pt)(m:List Ed):Bool:=(eO (a9 l m m.length) (outs l m)).all id
def dO (l:List Pt)(m:List Ed):PA:=nmD l (a9 l m m.length) (outs l m)
def GY (l:List Pt)(m:List Ed)(i:Nat):Bool:=decide ((cN m i).l=aN (dO l m).face (2*i))&&decide ((cN m i).r=aN (dO l m).face (2*i+1))
def dE (l:List Pt)(m:List Ed)(n:Int):Bool:=iA l m n&&(OU l m&&(A0 (dO l m)&&(decide ((dO l m).many=n)&&nU (GY l m) m.length)))
def WD (l:List Pt)(m:List Ed)(c1 c2:Nat)(n:Int):Heap:=(7,OW (VM l m c1 c2 n) (.slice (some ⟨2003,0,none⟩) (a9 l m m.length).length (a9 l m m.length).length))::(2003,.cells true false 1 (flat aO.fl (dO l m).face))::mZ 3 (vA l m)
def aHW (l:List Pt)(m:List Ed)(c1 c2:Nat)(n:Int):KE:=fun v h nx =>
 (dE l m n=true∧K2 (.tuple #[.pointer (some ⟨7,0,none⟩),iv 0]) (WD l m c1 c2 n) 2004 v h nx)∨(dE l m n=false∧v=.tuple #[.pointer none,iv 1])
def e69 (N:Nat)(j:Int):List (Nat × Value):=[(1,.pointer (some ⟨2,0,none⟩)),(17,iv N),(18,iv j)]
def M6 (N:Nat)(j z:Int):List (Nat × Value):=(4,iv j)::(21,iv j)::(22,iv z)::e69 N j
theorem aAO {l:List Pt}{m:List Ed}{c1 c2:Nat}{n:Int}:look (OB (VM l m c1 c2 n)) 2=some (.cells false false 1 [.slice (some ⟨0,0,none⟩) l.length c1,.slice (some ⟨1,0,none⟩) m.length c2,iv n]):=by
 unfold OB VM;rw [bB (by omega),bB (by omega)];unfold o8;rw [gK];split
 ·rename_i o' ho;exfalso;obtain⟨j,q,e1,_,_⟩:=lQ _ ho;omega
 ·rfl
theorem HU {b n0 nx:Nat}{I:KS}{e0 e:List (Nat × Value)}{h0 h:Heap}(hI:I e0 h0 n0)(he:∀ p∈e0,look e p.1=some (fV id p.2)∧wJ n0 p.2)(hh:∀ k o,look h0 k=some o→look h k=some o)(hok:xO h0 n0)(hb:b≤n0):qV b I e h nx :=
 ⟨e0,h0,n0,id,hI,fun t v hv=>he (t,v) (aZ hv),fun k o hk=>⟨(hok k o hk).1,o,hh k o hk,(hok k o hk).2⟩,fun _ _ _ _ _ _ e=>e,fun _ _=>rfl,hb⟩
def hF (l:List Pt)(m:List Ed)(c1 c2:Nat)(n:Int):Heap :=
 (7,OW (VM l m c1 c2 n) (.slice (some ⟨2003,0,none⟩) (VM l m c1 c2 n).D.length (VM l m c1 c2 n).D.length))::(2003,.cells true false 1 (flat aO.fl (dO l m).face))::(2,.cells false false 1 [.slice (some ⟨0,0,none⟩) l.length c1,.slice (some ⟨1,0,none⟩) m.length c2,iv n]) ::
 (0,.cells false true aP.sz (flat aP.fl l))::(1,.cells false true aR.sz (flat aR.fl m))::mZ 3 (vA l m)
theorem LO {l:List Pt}{m:List Ed}{c1 c2:Nat}{n:Int}:∀ k o,look (WD l m c1 c2 n) k=some o→look (hF l m c1 c2 n) k=some o:=by
 intro k o hk;unfold WD at hk;rw [aE] at hk;split at hk
 ·rename_i hb;rw [← beq_true hb,← hk];rfl
 rename_i hb7;rw [aE] at hk;split at hk
 ·rename_i hb;rw [← beq_true hb,← hk];rfl
 rename_i hb3;have h7:(7:Nat)≠k:=beq_false hb7;have h3:(2003:Nat)≠k:=beq_false hb3;obtain⟨j,q,e1,_,_⟩:=lQ _ hk;unfold hF;rw [bB h7,bB h3,bB (by omega),bB (by omega),bB (by omega)];exact hk
def X0 (N c2:Nat)(j:Int):List (Nat × Value):=[(7,.pointer (some ⟨7,0,none⟩)),(59,.slice (some ⟨1,0,none⟩) N c2),(60,iv N),(61,iv j)]
theorem J4 {l:List Pt}{m:List Ed}{c1 c2:Nat}{n:Int}(hl:l.length≤1000):xO (hF l m c1 c2 n) 2004:=by
 have hsl:∀ {q a b:Nat},q<2004→A8 2004 (.slice (some ⟨q,0,none⟩) a b):=fun {q a b} hq=>⟨hq,fun h=>by cases h⟩;refine cA (cA (cA (cA (cA (EG (QP (n:=3) (N7 hl) qI) (by omega)) (by omega) (aM (aI _ _))) (by omega) (aM (aI _ _))) (by omega) ⟨rfl,rfl,rfl,rfl,?_⟩) (by omega) (aM (aI _ _))) (by omega) ⟨rfl,rfl,rfl,rfl,?_⟩
 ·exact List.forall_mem_cons.2 ⟨hsl (by omega),List.forall_mem_cons.2 ⟨hsl (by omega),List.forall_mem_cons.2 ⟨cR rfl,fun _ h=>(by cases h)⟩⟩⟩
 ·exact List.forall_mem_cons.2 ⟨hsl (show 3<2004 by omega),List.forall_mem_cons.2 ⟨hsl (show 4<2004 by omega),List.forall_mem_cons.2 ⟨cR rfl,List.forall_mem_cons.2 ⟨hsl (show 9<2004 by omega),List.forall_mem_cons.2 ⟨hsl (show 8<2004 by omega),List.forall_mem_cons.2 ⟨hsl (by omega),fun _ h=>(by cases h)⟩⟩⟩⟩⟩⟩
theorem aGY {l:List Pt}{m:List Ed}{c1 c2:Nat}{n:Int}(hl:l.length≤1000):K2 (.tuple #[.pointer (some ⟨7,0,none⟩),iv 0]) (WD l m c1 c2 n) 2004 (.tuple #[.pointer (some ⟨7,0,none⟩),iv 0]) (hF l m c1 c2 n) 2004:=by
 refine⟨id,fun t u hu=>?_,fun k o hk=>?_,fun _ _ _ _ _ _ e=>e,fun _ _=>rfl,by omega⟩
 ·have hm:=aZ hu;simp only [List.mem_cons,List.not_mem_nil,or_false] at hm;injection hm with e1 e2;subst e1 e2;refine⟨by simp [fV,tr,dP,bR,dR,kA];rfl,?_⟩;intro v hv;simp only [List.mem_cons,List.not_mem_nil,or_false] at hv;rcases hv with rfl|rfl
  ·exact⟨Nat.le_of_ble_eq_true rfl,rfl⟩
  ·exact iR (cR rfl)
 ·have h:=LO k o hk;obtain⟨a1,a2⟩:=J4 hl k o h;exact⟨a1,o,h,a2⟩
theorem aEy {l:List Pt}{m:List Ed}{k:Nat}(h:k<3):look (mZ 3 (vA l m)) k=none:=by
 cases hl:look (mZ 3 (vA l m)) k with
 |none=>rfl
 |some o =>
  obtain⟨j,q,e1,_,_⟩:=lQ _ hl;omega
theorem aG5 {l:List Pt}{m:List Ed}{c1 c2:Nat}{n:Int}:∀ k o,look (hF l m c1 c2 n) k=some o→look (OB (VM l m c1 c2 n)) k=some o:=by
 intro k o hk;unfold hF at hk;rw [aE] at hk;split at hk
 ·rename_i hb;rw [← beq_true hb,← hk];rfl
 rename_i hb7;rw [aE] at hk;split at hk
 ·rename_i hb;rw [← beq_true hb,← hk];rfl
 rename_i hb3;rw [aE] at hk;split at hk
 ·rename_i hb;rw [← beq_true hb,aAO,← hk]
 have h7:(7:Nat)≠k:=beq_false hb7;have h3:(2003:Nat)≠k:=beq_false hb3;show look ((7,_)::(2003,_)::app (mZ 3 (vA l m)) (eJ (LG l m c1 c2 n))) k=some o;rw [bB h7,bB h3,gK];rw [aE] at hk;split at hk
 ·rename_i hb;rw [← beq_true hb,aEy (by omega),← hk];rfl
 rw [aE] at hk;split at hk
 ·rename_i hb;rw [← beq_true hb,aEy (by omega),← hk];rfl
 rw [hk]
theorem w69 (l:List Pt)(m:List Ed)(n:Int)(c1 c2:Nat)(hl:l.length≤1000)(hm:m.length≤1000)
  (hP:cY l m n=true→vB l (a9 l m m.length) (outs l m)=true∧ZP (a9 l m m.length) (outs l m)=true∧XH (a9 l m m.length) (outs l m)=true∧1≤l.length) :
  body [U0,W9,SO,SJ,VD,(155,aGO)] 69 [aF l.length m.length c1 c2 n] (aC aP aR l m) 2 (aHW l m c1 c2 n):=by
 (conv=>whnf);refine⟨l,m,aD aP rfl,aD aR rfl,?_⟩;((conv=>whnf);refine bm (fun a0=>?_) (fun a0=>?_))
 ·((conv=>whnf);refine bm (fun a1=>?_) (fun a1=>?_))
  ·have hno:cY l m n=false:=by
    have a1:(!cY l m n)=true:=a1;simpa using a1
   (conv=>whnf);exact .inr ⟨by rw [dE,iA,hno];rfl,rfl⟩
  ·have hlst:cY l m n=true:=by
    have a1:(!cY l m n)=false:=a1;simpa using a1
   have hM:oE l m=true:=by
    have hh:=hlst;simp only [cY,Bool.and_eq_true] at hh;exact LZ hl hm (fun i hi=>gG hh.2.1 hi) (fun i hi=>gG hh.2.2.1 hi)
   (conv=>whnf);refine⟨fun q e h nx=>∃ (i:Nat) (j:Int),j=i∧i≤m.length∧q=m.length - i∧(∀ t,t<i→∀ k,k<t→C5 l m t k=true)∧e=e69 m.length j∧h=LG l m c1 c2 n∧nx=3,⟨m.length,?_⟩,?_⟩
   ·refine aL (e0:=e69 m.length 0) (h0:=LG l m c1 c2 n) (n0:=3) ⟨0,0,rfl,Nat.zero_le _,rfl,fun t ht=>absurd ht (Nat.not_lt_zero t),rfl,rfl,rfl⟩ ?_ ?_ (by decide)
    ·unfold e69;((repeat' refine iE rfl rfl ?_);exact iN)
    ·unfold LG aW aC;((repeat'(first|refine iF rfl rfl ?_|refine iC rfl rfl rfl ?_|refine iJ rfl rfl rfl rfl ?_));exact iN)
   ·rintro q e h nx ⟨i,j,hj,hi,rfl,hme,rfl,rfl,rfl⟩;unfold e69 LG aW aC;((conv=>whnf);refine bm (fun h3=>?_) (fun h3=>?_))
    ·have hlt:i<m.length:=(by simp [aA,aB] at h3;omega);(conv=>whnf);refine⟨fun q e h nx=>∃ (k:Nat) (z:Int),z=k∧k≤i∧q=i - k∧(∀ t,t<k→C5 l m i t=true)∧e=M6 m.length j z∧h=LG l m c1 c2 n∧nx=3,⟨i,?_⟩,?_⟩
     ·refine aL (e0:=M6 m.length j 0) (h0:=LG l m c1 c2 n) (n0:=3) ⟨0,0,rfl,Nat.zero_le _,rfl,fun t ht=>absurd ht (Nat.not_lt_zero t),rfl,rfl,rfl⟩ ?_ ?_ (by decide)
      ·unfold M6 e69;((repeat' refine iE rfl rfl ?_);exact iN)
      ·unfold LG aW aC;((repeat'(first|refine iF rfl rfl ?_|refine iC rfl rfl rfl ?_|refine iJ rfl rfl rfl rfl ?_));exact iN)
     ·rintro q e h nx ⟨k,z,hz,hk,rfl,hmk,rfl,rfl,rfl⟩;unfold M6 e69 LG aW aC;((conv=>whnf);refine bm (fun h4=>?_) (fun h4=>?_))
      ·have hkl:k<i:=(by simp [aA,aB] at h4;omega);have ej:j.toNat=i:=(by omega);have ez:z.toNat=k:=(by omega);(conv=>whnf);refine⟨l,m,aD aP rfl,aD aR rfl,?_⟩;((conv=>whnf);refine bm (fun h5=>?_) (fun h5=>?_))
       ·(conv=>whnf);refine⟨l,m,aD aP rfl,aD aR rfl,?_⟩;((conv=>whnf);refine bm (fun h6=>?_) (fun h6=>?_))
        ·(conv=>whnf);have em:F6 (cC l m j.toNat) (cC l m z.toNat)=fI (cC l m i) (cC l m k):=(by rw [ej,ez,YY]);((conv=>whnf);refine bm (fun h7=>?_) (fun h7=>?_))
         ·have h7:¬ fI (cC l m i) (cC l m k)=0:=(by rw [← em];simpa [aA,aB] using h7);((conv=>whnf);refine bm (fun h8=>?_) (fun h8=>?_))
          ·have h8:¬ fI (cC l m i) (cC l m k)=1:=(by rw [← em];simpa [aA,aB] using h8);(conv=>whnf);exact .inr ⟨by rw [dE,aB3 hlt hkl (by rw [C5,decide_eq_false h7,decide_eq_false h8];rfl)];rfl,rfl⟩
          ·have h8:fI (cC l m i) (cC l m k)=1:=(by rw [← em];simpa [aA,aB] using h8);have hyes:C5 l m i k=true:=(by rw [C5,decide_eq_true h8,Bool.or_true]);((conv=>whnf);refine bm (fun h9=>?_) (fun h9=>?_))
           ·(conv=>whnf);refine⟨i - (k+1),by omega,?_⟩;refine aL (e0:=M6 m.length j (z+1)) (h0:=LG l m c1 c2 n) (n0:=3) ⟨k+1,z+1,by omega,by omega,rfl,fun t ht=>?_,rfl,rfl,rfl⟩ ?_ ?_ (by decide)
            ·by_cases htk:t=k
             ·rw [htk];exact hyes
             ·exact hmk t (by omega)
            ·unfold M6 e69;((repeat' refine iE rfl rfl ?_);exact iN)
            ·unfold LG aW aC;((repeat'(first|refine iF rfl rfl ?_|refine iC rfl rfl rfl ?_|refine iJ rfl rfl rfl rfl ?_));exact iN)
           ·exfalso;simp [aA,aB,aH] at h9;omega
         ·have h7:fI (cC l m i) (cC l m k)=0:=(by rw [← em];simpa [aA,aB] using h7);have hyes:C5 l m i k=true:=(by rw [C5,decide_eq_true h7,Bool.true_or]);((conv=>whnf);refine bm (fun h9=>?_) (fun h9=>?_))
          ·(conv=>whnf);refine⟨i - (k+1),by omega,?_⟩;refine aL (e0:=M6 m.length j (z+1)) (h0:=LG l m c1 c2 n) (n0:=3) ⟨k+1,z+1,by omega,by omega,rfl,fun t ht=>?_,rfl,rfl,rfl⟩ ?_ ?_ (by decide)
           ·by_cases htk:t=k
            ·rw [htk];exact hyes
            ·exact hmk t (by omega)
           ·unfold M6 e69;((repeat' refine iE rfl rfl ?_);exact iN)
           ·unfold LG aW aC;((repeat'(first|refine iF rfl rfl ?_|refine iC rfl rfl rfl ?_|refine iJ rfl rfl rfl rfl ?_));exact iN)
          ·exfalso;simp [aA,aB,aH] at h9;omega
        ·exfalso;have h6:(oE l m&&(decide (0≤z)&&decide (z<m.length)))=false:=h6;rw [hM,decide_eq_true (show 0≤z by omega),decide_eq_true (show z<m.length by omega)] at h6;cases h6
       ·exfalso;have h5:(oE l m&&(decide (0≤j)&&decide (j<m.length)))=false:=h5;rw [hM,decide_eq_true (show 0≤j by omega),decide_eq_true (show j<m.length by omega)] at h5;cases h5
      ·have hge:k=i:=(by simp [aA,aB] at h4;omega);((conv=>whnf);refine bm (fun h5=>?_) (fun h5=>?_))
       ·(conv=>whnf);refine⟨m.length - (i+1),by omega,?_⟩;refine aL (e0:=e69 m.length (j+1)) (h0:=LG l m c1 c2 n) (n0:=3) ⟨i+1,j+1,by omega,by omega,rfl,fun t ht=>?_,rfl,rfl,rfl⟩ ?_ ?_ (by decide)
        ·by_cases hti:t=i
         ·rw [hti];exact fun k' hk'=>hmk k' (by omega)
         ·exact hme t (by omega)
        ·unfold e69;((repeat' refine iE rfl rfl ?_);exact iN)
        ·unfold LG aW aC;((repeat'(first|refine iF rfl rfl ?_|refine iC rfl rfl rfl ?_|refine iJ rfl rfl rfl rfl ?_));exact iN)
       ·exfalso;simp [aA,aB,aH] at h5;omega
    ·have hge:i=m.length:=(by simp [aA,aB] at h3;omega);have hpln:iA l m n=true:=by
      rw [iA,hlst,eS (fun i hi=>eS (hme i (by omega)))];rfl
     obtain⟨p1,p2,p3,p4⟩:=hP hlst;(conv=>whnf);refine⟨l,m,n,.slice (some ⟨0,0,none⟩) l.length c1,.slice (some ⟨1,0,none⟩) m.length c2,rfl,aD aP rfl,aD aR rfl,hlst,?_⟩;(conv=>whnf);have hW:vL (app (mZ 3 (aC8 l m c1 c2 n)) (eJ (LG l m c1 c2 n))) 7 3 4 9 8 0 (fun i=>3+(i+1000)) l (a9 l m m.length) (outs l m) m.length c1 c2 n none:=by
      rw [aAS];exact UZ.at (ext_cons (fun _ _ h=>h) aEW) rfl
     refine⟨7,[],3,4,9,8,0,(fun i=>3+(i+1000)),l,a9 l m m.length,outs l m,m.length,c1,c2,n,none,rfl,hW,?_⟩;rw [show cnS l (a9 l m m.length) (outs l m) []=some (true,.bool (OU l m)) from by
      unfold cnS;rw [CV p1,p3,eY,decide_eq_true p4];rfl]
     refine aJ rfl ?_;((conv=>whnf);refine bm (fun b1=>?_) (fun b1=>?_))
     ·have hc:OU l m=false:=by
       have b1:(!OU l m)=true:=b1;simpa using b1
      (conv=>whnf);exact .inr ⟨by rw [dE,hc,Bool.false_and,Bool.and_false],rfl⟩
     ·have hc:OU l m=true:=by
       have b1:(!OU l m)=false:=b1;simpa using b1
      (conv=>whnf);refine⟨VM l m c1 c2 n,aFE hl p1 p2,rfl,aAS,rfl,?_⟩;((conv=>whnf);refine bm (fun b2=>?_) (fun b2=>?_))
      ·have hok:A0 (dO l m)=true:=by
        have b2:((!A0 (dO l m)) == false)=true:=b2;simpa using b2
       (conv=>whnf);rw [aAO];((conv=>whnf);refine bm (fun b3=>?_) (fun b3=>?_))
       ·have hne:¬ (dO l m).many=n:=by
         have b3:(!decide ((dO l m).many=n))=true:=b3;simpa using b3
        (conv=>whnf);exact .inr ⟨by rw [dE,decide_eq_false hne,Bool.false_and,Bool.and_false,Bool.and_false,Bool.and_false],rfl⟩
       ·have hmn:(dO l m).many=n:=by
         have b3:(!decide ((dO l m).many=n))=false:=b3;simpa using b3
        (conv=>whnf);rw [aAO];(conv=>whnf);have hfl:(dO l m).face.length=2*m.length:=by
         have:=(AV l (a9 l m m.length) (outs l m) (a9 l m m.length).length).1;exact this.trans (bP l m m.length)
        have hDl:(VM l m c1 c2 n).D.length=2*m.length:=bP l m m.length;have hhok:=J4 (m:=m) (c1:=c1) (c2:=c2) (n:=n) hl;refine⟨fun q e h nx=>∃ (i:Nat) (j:Int),j=i∧i≤m.length∧q=m.length - i∧(∀ t,t<i→GY l m t=true)∧e=X0 m.length c2 j∧h=hF l m c1 c2 n∧nx=2004,⟨m.length,?_⟩,?_⟩
        ·refine HU (e0:=X0 m.length c2 0) (h0:=hF l m c1 c2 n) (n0:=2004) ⟨0,0,rfl,Nat.zero_le _,rfl,fun t ht=>absurd ht (Nat.not_lt_zero t),rfl,rfl,rfl⟩ ?_ aG5 hhok (by omega);unfold X0;((repeat' refine iE rfl rfl ?_);exact iN)
        ·clear hj hi hge h3 hme;rintro q e h nx ⟨i,j,hj,hi,rfl,hfa,rfl,rfl,rfl⟩;unfold X0;((conv=>whnf);refine bm (fun h3=>?_) (fun h3=>?_))
         ·have hlt:i<m.length:=(by simp [aA,aB] at h3;omega);((conv=>whnf);refine bm (fun g1=>?_) (fun g1=>?_))
          ·(conv=>whnf);refine mR (A4 m (i:=i) (by omega) ?_) ?_
           ·show _+Int.toNat j*5=_;omega
           ((conv=>whnf);refine bm (fun g2=>?_) (fun g2=>?_))
           ·((conv=>whnf);refine bm (fun g3=>?_) (fun g3=>?_))
            ·(conv=>whnf);refine fY (fR (dO l m).face (i:=2*i) (by omega) ?_) ?_
             ·show _+Int.toNat (2*j)*1=_;omega
             ((conv=>whnf);refine bm (fun g4=>?_) (fun g4=>?_))
             ·have hL:(cN m i).l=aN (dO l m).face (2*i):=by
               have g4:((!decide ((cN m i).l=aN (dO l m).face (2*i))) == false)=true:=g4;simpa using g4
              ((conv=>whnf);refine bm (fun g5=>?_) (fun g5=>?_))
              ·((conv=>whnf);refine bm (fun g6=>?_) (fun g6=>?_))
               ·((conv=>whnf);refine bm (fun g7=>?_) (fun g7=>?_))
                ·(conv=>whnf);refine fY (fR (dO l m).face (i:=2*i+1) (by omega) ?_) ?_
                 ·show _+Int.toNat (2*j+1)*1=_;omega
                 ((conv=>whnf);refine bm (fun g8=>?_) (fun g8=>?_))
                 ·have hR:¬ (cN m i).r=aN (dO l m).face (2*i+1):=by
                   have g8:(!decide ((cN m i).r=aN (dO l m).face (2*i+1)))=true:=g8;simpa using g8
                  (conv=>whnf);exact .inr ⟨by rw [dE,fD hlt (show GY l m i=false by rw [GY,decide_eq_false hR,Bool.and_false]),Bool.and_false,Bool.and_false,Bool.and_false,Bool.and_false],rfl⟩
                 ·have hR:(cN m i).r=aN (dO l m).face (2*i+1):=by
                   have g8:(!decide ((cN m i).r=aN (dO l m).face (2*i+1)))=false:=g8;simpa using g8
                  ((conv=>whnf);refine bm (fun g9=>?_) (fun g9=>?_))
                  ·(conv=>whnf);refine⟨m.length - (i+1),by omega,?_⟩;refine HU (e0:=X0 m.length c2 (j+1)) (h0:=hF l m c1 c2 n) (n0:=2004) ⟨i+1,j+1,by omega,by omega,rfl,fun t ht=>?_,rfl,rfl,rfl⟩ ?_ (fZ (cU (fun _ _ h=>h) (bM hhok (Nat.le_refl _))) (bM hhok (Nat.le_refl _))) hhok (by omega)
                   ·by_cases hti:t=i
                    ·rw [hti,GY,decide_eq_true hL,decide_eq_true hR];rfl
                    ·exact hfa t (by omega)
                   ·unfold X0;((repeat' refine iE rfl rfl ?_);exact iN)
                  ·exfalso;simp [aA,aB,aH] at g9;omega
                ·exfalso;simp [aA,aB,hDl] at g7;omega
               ·exfalso;simp [aA,aB,aH] at g6;omega
              ·exfalso;simp [aA,aB,aH] at g5;omega
             ·have hL:¬ (cN m i).l=aN (dO l m).face (2*i):=by
               have g4:((!decide ((cN m i).l=aN (dO l m).face (2*i))) == false)=false:=g4;simpa using g4
              (conv=>whnf);exact .inr ⟨by rw [dE,fD hlt (show GY l m i=false by rw [GY,decide_eq_false hL,Bool.false_and]),Bool.and_false,Bool.and_false,Bool.and_false,Bool.and_false],rfl⟩
            ·exfalso;simp [aA,aB,hDl] at g3;omega
           ·exfalso;simp [aA,aB,aH] at g2;omega
          ·exfalso;simp [aA,aB] at g1;omega
         ·have hge:i=m.length:=(by simp [aA,aB] at h3;omega);(conv=>whnf);refine .inl ⟨?_,aGY hl⟩;rw [dE,hpln,hc,hok,decide_eq_true hmn,eS (fun t ht=>hfa t (by omega))];rfl
      ·have hok:A0 (dO l m)=false:=by
        have b2:((!A0 (dO l m)) == false)=false:=b2;simpa using b2
       (conv=>whnf);exact .inr ⟨by rw [dE,hok,Bool.false_and,Bool.and_false,Bool.and_false],rfl⟩
 ·exfalso;have a0:(decide (l.length≤1000)&&decide (m.length≤1000))=false:=a0;rw [decide_eq_true hl,decide_eq_true hm] at a0;cases a0
end Go.Aw
end
