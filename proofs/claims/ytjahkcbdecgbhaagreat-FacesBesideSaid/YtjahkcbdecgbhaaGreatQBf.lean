/-
  Parts of a proof. No condition.
-/
import Derived.Test.YtjahkcbdecgbhaaGreatQAv
import Derived.Test.YtjahkcbdecgbhaaGreatQBe
set_option linter.unusedSimpArgs false
set_option linter.unusedVariables false
noncomputable section
namespace Go.Aw
set_option maxRecDepth 100000
set_option maxHeartbeats 4000000
def P5 (l:List Pt)(m:List Ed):Bool:=(eX (aR l m m.length) (outs l m)).all id
def cE (l:List Pt)(m:List Ed):NB:=nmD l (aR l m m.length) (outs l m)
def DA (l:List Pt)(m:List Ed)(i:Nat):Bool:=decide ((cO m i).l=aK (cE l m).face (2*i))&&decide ((cO m i).r=aK (cE l m).face (2*i+1))
def cF (l:List Pt)(m:List Ed)(n:Int):Bool:=gG l m n&&(P5 l m&&(y0 (cE l m)&&(decide ((cE l m).many=n)&&nU (DA l m) m.length)))
def T7 (l:List Pt)(m:List Ed)(c1 c2:Nat)(n:Int):Heap:=(7,NF (WJ l m c1 c2 n) (.slice (some ⟨2003,0,none⟩) (aR l m m.length).length (aR l m m.length).length))::(2003,.cells true false 1 (flat aN.fl (cE l m).face))::kQ 3 (tX l m)
def aJN (l:List Pt)(m:List Ed)(c1 c2:Nat)(n:Int):KE:=fun v h nx =>
 (cF l m n=true∧F8 (.tuple #[.pointer (some ⟨7,0,none⟩),iv 0]) (T7 l m c1 c2 n) 2004 v h nx)∨(cF l m n=false∧v=.tuple #[.pointer none,iv 1])
def e69 (N:Nat)(j:Int):List (Nat × Value):=[(1,.pointer (some ⟨2,0,none⟩)),(17,iv N),(18,iv j)]
def Q2 (N:Nat)(j z:Int):List (Nat × Value):=(4,iv j)::(21,iv j)::(22,iv z)::e69 N j
theorem aBb {l:List Pt}{m:List Ed}{c1 c2:Nat}{n:Int}:look (N4 (WJ l m c1 c2 n)) 2=some (.cells false false 1 [.slice (some ⟨0,0,none⟩) l.length c1,.slice (some ⟨1,0,none⟩) m.length c2,iv n]):=by
 unfold N4 WJ;rw [bC (by omega),bC (by omega)];unfold pL;rw [fD];split
 ·rename_i o' ho;exfalso;obtain⟨j,q,e1,_,_⟩:=iU _ ho;omega
 ·rfl
theorem I8 {b n0 nx:Nat}{I:KS}{e0 e:List (Nat × Value)}{h0 h:Heap}(hI:I e0 h0 n0)(he:∀ p∈e0,look e p.1=some (iQ id p.2)∧BB n0 p.2)(hh:∀ k o,look h0 k=some o→look h k=some o)(hok:xC h0 n0)(hb:b≤n0):qU b I e h nx :=
 ⟨e0,h0,n0,id,hI,fun t v hv=>he (t,v) (bA hv),fun k o hk=>⟨(hok k o hk).1,o,hh k o hk,(hok k o hk).2⟩,fun _ _ _ _ _ _ e=>e,fun _ _=>rfl,hb⟩
def hF (l:List Pt)(m:List Ed)(c1 c2:Nat)(n:Int):Heap :=
 (7,NF (WJ l m c1 c2 n) (.slice (some ⟨2003,0,none⟩) (WJ l m c1 c2 n).D.length (WJ l m c1 c2 n).D.length))::(2003,.cells true false 1 (flat aN.fl (cE l m).face))::(2,.cells false false 1 [.slice (some ⟨0,0,none⟩) l.length c1,.slice (some ⟨1,0,none⟩) m.length c2,iv n]) ::
 (0,.cells false true aP.sz (flat aP.fl l))::(1,.cells false true aS.sz (flat aS.fl m))::kQ 3 (tX l m)
theorem LR {l:List Pt}{m:List Ed}{c1 c2:Nat}{n:Int}:∀ k o,look (T7 l m c1 c2 n) k=some o→look (hF l m c1 c2 n) k=some o:=by
 intro k o hk;unfold T7 at hk;rw [aE] at hk;split at hk
 ·rename_i hb;rw [← beq_true hb,← hk];rfl
 rename_i hb7;rw [aE] at hk;split at hk
 ·rename_i hb;rw [← beq_true hb,← hk];rfl
 rename_i hb3;have h7:(7:Nat)≠k:=beq_false hb7;have h3:(2003:Nat)≠k:=beq_false hb3;obtain⟨j,q,e1,_,_⟩:=iU _ hk;unfold hF;rw [bC h7,bC h3,bC (by omega),bC (by omega),bC (by omega)];exact hk
def YJ (N c2:Nat)(j:Int):List (Nat × Value):=[(7,.pointer (some ⟨7,0,none⟩)),(59,.slice (some ⟨1,0,none⟩) N c2),(60,iv N),(61,iv j)]
theorem K7 {l:List Pt}{m:List Ed}{c1 c2:Nat}{n:Int}(hl:l.length≤1000):xC (hF l m c1 c2 n) 2004:=by
 have hsl:∀ {q a b:Nat},q<2004→B3 2004 (.slice (some ⟨q,0,none⟩) a b):=fun {q a b} hq=>⟨hq,fun h=>by cases h⟩;refine cA (cA (cA (cA (cA (uE (T5 (n:=3) (QE hl) rV) (by omega)) (by omega) (aO (aG _ _))) (by omega) (aO (aG _ _))) (by omega) ⟨rfl,rfl,rfl,rfl,?_⟩) (by omega) (aO (aG _ _))) (by omega) ⟨rfl,rfl,rfl,rfl,?_⟩
 ·exact List.forall_mem_cons.2 ⟨hsl (by omega),List.forall_mem_cons.2 ⟨hsl (by omega),List.forall_mem_cons.2 ⟨cL rfl,fun _ h=>(by cases h)⟩⟩⟩
 ·exact List.forall_mem_cons.2 ⟨hsl (show 3<2004 by omega),List.forall_mem_cons.2 ⟨hsl (show 4<2004 by omega),List.forall_mem_cons.2 ⟨cL rfl,List.forall_mem_cons.2 ⟨hsl (show 9<2004 by omega),List.forall_mem_cons.2 ⟨hsl (show 8<2004 by omega),List.forall_mem_cons.2 ⟨hsl (by omega),fun _ h=>(by cases h)⟩⟩⟩⟩⟩⟩
theorem aH7 {l:List Pt}{m:List Ed}{c1 c2:Nat}{n:Int}(hl:l.length≤1000):F8 (.tuple #[.pointer (some ⟨7,0,none⟩),iv 0]) (T7 l m c1 c2 n) 2004 (.tuple #[.pointer (some ⟨7,0,none⟩),iv 0]) (hF l m c1 c2 n) 2004:=by
 refine⟨id,fun t u hu=>?_,fun k o hk=>?_,fun _ _ _ _ _ _ e=>e,fun _ _=>rfl,by omega⟩
 ·have hm:=bA hu;simp only [List.mem_cons,List.not_mem_nil,or_false] at hm;injection hm with e1 e2;subst e1 e2;refine⟨by simp [iQ,tr,dU,bR,dV,lW];rfl,?_⟩;intro v hv;simp only [List.mem_cons,List.not_mem_nil,or_false] at hv;rcases hv with rfl|rfl
  ·exact⟨Nat.le_of_ble_eq_true rfl,rfl⟩
  ·exact jD (cL rfl)
 ·have h:=LR k o hk;obtain⟨a1,a2⟩:=K7 hl k o h;exact⟨a1,o,h,a2⟩
theorem aGq {l:List Pt}{m:List Ed}{k:Nat}(h:k<3):look (kQ 3 (tX l m)) k=none:=by
 cases hl:look (kQ 3 (tX l m)) k with
 |none=>rfl
 |some o =>
  obtain⟨j,q,e1,_,_⟩:=iU _ hl;omega
theorem aHk {l:List Pt}{m:List Ed}{c1 c2:Nat}{n:Int}:∀ k o,look (hF l m c1 c2 n) k=some o→look (N4 (WJ l m c1 c2 n)) k=some o:=by
 intro k o hk;unfold hF at hk;rw [aE] at hk;split at hk
 ·rename_i hb;rw [← beq_true hb,← hk];rfl
 rename_i hb7;rw [aE] at hk;split at hk
 ·rename_i hb;rw [← beq_true hb,← hk];rfl
 rename_i hb3;rw [aE] at hk;split at hk
 ·rename_i hb;rw [← beq_true hb,aBb,← hk]
 have h7:(7:Nat)≠k:=beq_false hb7;have h3:(2003:Nat)≠k:=beq_false hb3;show look ((7,_)::(2003,_)::app (kQ 3 (tX l m)) (eU (KR l m c1 c2 n))) k=some o;rw [bC h7,bC h3,fD];rw [aE] at hk;split at hk
 ·rename_i hb;rw [← beq_true hb,aGq (by omega),← hk];rfl
 rw [aE] at hk;split at hk
 ·rename_i hb;rw [← beq_true hb,aGq (by omega),← hk];rfl
 rw [hk]
theorem w69 (l:List Pt)(m:List Ed)(n:Int)(c1 c2:Nat)(hl:l.length≤1000)(hm:m.length≤1000)
  (hP:cX l m n=true→vW l (aR l m m.length) (outs l m)=true∧aBj (aR l m m.length) (outs l m)=true∧ZB (aR l m m.length) (outs l m)=true∧1≤l.length) :
  body [QW,aBE,P7,OZ,NO,(155,aE1)] 69 [aF l.length m.length c1 c2 n] (aD aP aS l m) 2 (aJN l m c1 c2 n):=by
 (conv=>whnf);refine⟨l,m,aC aP rfl,aC aS rfl,?_⟩;((conv=>whnf);refine bm (fun a0=>?_) (fun a0=>?_))
 ·((conv=>whnf);refine bm (fun a1=>?_) (fun a1=>?_))
  ·have hno:cX l m n=false:=by
    have a1:(!cX l m n)=true:=a1;simpa using a1
   (conv=>whnf);exact .inr ⟨by rw [cF,gG,hno];rfl,rfl⟩
  ·have hlst:cX l m n=true:=by
    have a1:(!cX l m n)=false:=a1;simpa using a1
   have hM:oG l m=true:=by
    have hh:=hlst;simp only [cX,Bool.and_eq_true] at hh;exact M4 hl hm (fun i hi=>fG hh.2.1 hi) (fun i hi=>fG hh.2.2.1 hi)
   (conv=>whnf);refine⟨fun q e h nx=>∃ (i:Nat) (j:Int),j=i∧i≤m.length∧q=m.length - i∧(∀ t,t<i→∀ k,k<t→DL l m t k=true)∧e=e69 m.length j∧h=KR l m c1 c2 n∧nx=3,⟨m.length,?_⟩,?_⟩
   ·refine aM (e0:=e69 m.length 0) (h0:=KR l m c1 c2 n) (n0:=3) ⟨0,0,rfl,Nat.zero_le _,rfl,fun t ht=>absurd ht (Nat.not_lt_zero t),rfl,rfl,rfl⟩ ?_ ?_ (by decide)
    ·unfold e69;((repeat' refine iE rfl rfl ?_);exact iN)
    ·unfold KR aY aD;((repeat'(first|refine iF rfl rfl ?_|refine iC rfl rfl rfl ?_|refine iJ rfl rfl rfl rfl ?_));exact iN)
   ·rintro q e h nx ⟨i,j,hj,hi,rfl,hme,rfl,rfl,rfl⟩;unfold e69 KR aY aD;((conv=>whnf);refine bm (fun h3=>?_) (fun h3=>?_))
    ·have hlt:i<m.length:=(by simp [aA,aB] at h3;omega);(conv=>whnf);refine⟨fun q e h nx=>∃ (k:Nat) (z:Int),z=k∧k≤i∧q=i - k∧(∀ t,t<k→DL l m i t=true)∧e=Q2 m.length j z∧h=KR l m c1 c2 n∧nx=3,⟨i,?_⟩,?_⟩
     ·refine aM (e0:=Q2 m.length j 0) (h0:=KR l m c1 c2 n) (n0:=3) ⟨0,0,rfl,Nat.zero_le _,rfl,fun t ht=>absurd ht (Nat.not_lt_zero t),rfl,rfl,rfl⟩ ?_ ?_ (by decide)
      ·unfold Q2 e69;((repeat' refine iE rfl rfl ?_);exact iN)
      ·unfold KR aY aD;((repeat'(first|refine iF rfl rfl ?_|refine iC rfl rfl rfl ?_|refine iJ rfl rfl rfl rfl ?_));exact iN)
     ·rintro q e h nx ⟨k,z,hz,hk,rfl,hmk,rfl,rfl,rfl⟩;unfold Q2 e69 KR aY aD;((conv=>whnf);refine bm (fun h4=>?_) (fun h4=>?_))
      ·have hkl:k<i:=(by simp [aA,aB] at h4;omega);have ej:j.toNat=i:=(by omega);have ez:z.toNat=k:=(by omega);(conv=>whnf);refine⟨l,m,aC aP rfl,aC aS rfl,?_⟩;((conv=>whnf);refine bm (fun h5=>?_) (fun h5=>?_))
       ·(conv=>whnf);refine⟨l,m,aC aP rfl,aC aS rfl,?_⟩;((conv=>whnf);refine bm (fun h6=>?_) (fun h6=>?_))
        ·(conv=>whnf);have em:GZ (cW l m j.toNat) (cW l m z.toNat)=fV (cW l m i) (cW l m k):=(by rw [ej,ez,aC8]);((conv=>whnf);refine bm (fun h7=>?_) (fun h7=>?_))
         ·have h7:¬ fV (cW l m i) (cW l m k)=0:=(by rw [← em];simpa [aA,aB] using h7);((conv=>whnf);refine bm (fun h8=>?_) (fun h8=>?_))
          ·have h8:¬ fV (cW l m i) (cW l m k)=1:=(by rw [← em];simpa [aA,aB] using h8);(conv=>whnf);exact .inr ⟨by rw [cF,aDa hlt hkl (by rw [DL,decide_eq_false h7,decide_eq_false h8];rfl)];rfl,rfl⟩
          ·have h8:fV (cW l m i) (cW l m k)=1:=(by rw [← em];simpa [aA,aB] using h8);have hyes:DL l m i k=true:=(by rw [DL,decide_eq_true h8,Bool.or_true]);((conv=>whnf);refine bm (fun h9=>?_) (fun h9=>?_))
           ·(conv=>whnf);refine⟨i - (k+1),by omega,?_⟩;refine aM (e0:=Q2 m.length j (z+1)) (h0:=KR l m c1 c2 n) (n0:=3) ⟨k+1,z+1,by omega,by omega,rfl,fun t ht=>?_,rfl,rfl,rfl⟩ ?_ ?_ (by decide)
            ·by_cases htk:t=k
             ·rw [htk];exact hyes
             ·exact hmk t (by omega)
            ·unfold Q2 e69;((repeat' refine iE rfl rfl ?_);exact iN)
            ·unfold KR aY aD;((repeat'(first|refine iF rfl rfl ?_|refine iC rfl rfl rfl ?_|refine iJ rfl rfl rfl rfl ?_));exact iN)
           ·exfalso;simp [aA,aB,aI] at h9;omega
         ·have h7:fV (cW l m i) (cW l m k)=0:=(by rw [← em];simpa [aA,aB] using h7);have hyes:DL l m i k=true:=(by rw [DL,decide_eq_true h7,Bool.true_or]);((conv=>whnf);refine bm (fun h9=>?_) (fun h9=>?_))
          ·(conv=>whnf);refine⟨i - (k+1),by omega,?_⟩;refine aM (e0:=Q2 m.length j (z+1)) (h0:=KR l m c1 c2 n) (n0:=3) ⟨k+1,z+1,by omega,by omega,rfl,fun t ht=>?_,rfl,rfl,rfl⟩ ?_ ?_ (by decide)
           ·by_cases htk:t=k
            ·rw [htk];exact hyes
            ·exact hmk t (by omega)
           ·unfold Q2 e69;((repeat' refine iE rfl rfl ?_);exact iN)
           ·unfold KR aY aD;((repeat'(first|refine iF rfl rfl ?_|refine iC rfl rfl rfl ?_|refine iJ rfl rfl rfl rfl ?_));exact iN)
          ·exfalso;simp [aA,aB,aI] at h9;omega
        ·exfalso;have h6:(oG l m&&(decide (0≤z)&&decide (z<m.length)))=false:=h6;rw [hM,decide_eq_true (show 0≤z by omega),decide_eq_true (show z<m.length by omega)] at h6;cases h6
       ·exfalso;have h5:(oG l m&&(decide (0≤j)&&decide (j<m.length)))=false:=h5;rw [hM,decide_eq_true (show 0≤j by omega),decide_eq_true (show j<m.length by omega)] at h5;cases h5
      ·have hge:k=i:=(by simp [aA,aB] at h4;omega);((conv=>whnf);refine bm (fun h5=>?_) (fun h5=>?_))
       ·(conv=>whnf);refine⟨m.length - (i+1),by omega,?_⟩;refine aM (e0:=e69 m.length (j+1)) (h0:=KR l m c1 c2 n) (n0:=3) ⟨i+1,j+1,by omega,by omega,rfl,fun t ht=>?_,rfl,rfl,rfl⟩ ?_ ?_ (by decide)
        ·by_cases hti:t=i
         ·rw [hti];exact fun k' hk'=>hmk k' (by omega)
         ·exact hme t (by omega)
        ·unfold e69;((repeat' refine iE rfl rfl ?_);exact iN)
        ·unfold KR aY aD;((repeat'(first|refine iF rfl rfl ?_|refine iC rfl rfl rfl ?_|refine iJ rfl rfl rfl rfl ?_));exact iN)
       ·exfalso;simp [aA,aB,aI] at h5;omega
    ·have hge:i=m.length:=(by simp [aA,aB] at h3;omega);have hpln:gG l m n=true:=by
      rw [gG,hlst,fB (fun i hi=>fB (hme i (by omega)))];rfl
     obtain⟨p1,p2,p3,p4⟩:=hP hlst;(conv=>whnf);refine⟨l,m,n,.slice (some ⟨0,0,none⟩) l.length c1,.slice (some ⟨1,0,none⟩) m.length c2,rfl,aC aP rfl,aC aS rfl,hlst,?_⟩;(conv=>whnf);have hW:wP (app (kQ 3 (aDX l m c1 c2 n)) (eU (KR l m c1 c2 n))) 7 3 4 9 8 0 (fun i=>3+(i+1000)) l (aR l m m.length) (outs l m) m.length c1 c2 n none:=by
      rw [aBJ];exact XG.at (ext_cons (fun _ _ h=>h) aGa) rfl
     refine⟨7,[],3,4,9,8,0,(fun i=>3+(i+1000)),l,aR l m m.length,outs l m,m.length,c1,c2,n,none,rfl,hW,?_⟩;rw [show cnS l (aR l m m.length) (outs l m) []=some (true,.bool (P5 l m)) from by
      unfold cnS;rw [DO p1,p3,fF,decide_eq_true p4];rfl]
     refine aJ rfl ?_;((conv=>whnf);refine bm (fun b1=>?_) (fun b1=>?_))
     ·have hc:P5 l m=false:=by
       have b1:(!P5 l m)=true:=b1;simpa using b1
      (conv=>whnf);exact .inr ⟨by rw [cF,hc,Bool.false_and,Bool.and_false],rfl⟩
     ·have hc:P5 l m=true:=by
       have b1:(!P5 l m)=false:=b1;simpa using b1
      (conv=>whnf);refine⟨WJ l m c1 c2 n,aHy hl p1 p2,rfl,aBJ,rfl,?_⟩;((conv=>whnf);refine bm (fun b2=>?_) (fun b2=>?_))
      ·have hok:y0 (cE l m)=true:=by
        have b2:((!y0 (cE l m)) == false)=true:=b2;simpa using b2
       (conv=>whnf);rw [aBb];((conv=>whnf);refine bm (fun b3=>?_) (fun b3=>?_))
       ·have hne:¬ (cE l m).many=n:=by
         have b3:(!decide ((cE l m).many=n))=true:=b3;simpa using b3
        (conv=>whnf);exact .inr ⟨by rw [cF,decide_eq_false hne,Bool.false_and,Bool.and_false,Bool.and_false,Bool.and_false],rfl⟩
       ·have hmn:(cE l m).many=n:=by
         have b3:(!decide ((cE l m).many=n))=false:=b3;simpa using b3
        (conv=>whnf);rw [aBb];(conv=>whnf);have hfl:(cE l m).face.length=2*m.length:=by
         have:=(nK l (aR l m m.length) (outs l m) (aR l m m.length).length).1;exact this.trans (bI l m m.length)
        have hDl:(WJ l m c1 c2 n).D.length=2*m.length:=bI l m m.length;have hhok:=K7 (m:=m) (c1:=c1) (c2:=c2) (n:=n) hl;refine⟨fun q e h nx=>∃ (i:Nat) (j:Int),j=i∧i≤m.length∧q=m.length - i∧(∀ t,t<i→DA l m t=true)∧e=YJ m.length c2 j∧h=hF l m c1 c2 n∧nx=2004,⟨m.length,?_⟩,?_⟩
        ·refine I8 (e0:=YJ m.length c2 0) (h0:=hF l m c1 c2 n) (n0:=2004) ⟨0,0,rfl,Nat.zero_le _,rfl,fun t ht=>absurd ht (Nat.not_lt_zero t),rfl,rfl,rfl⟩ ?_ aHk hhok (by omega);unfold YJ;((repeat' refine iE rfl rfl ?_);exact iN)
        ·clear hj hi hge h3 hme;rintro q e h nx ⟨i,j,hj,hi,rfl,hfa,rfl,rfl,rfl⟩;unfold YJ;((conv=>whnf);refine bm (fun h3=>?_) (fun h3=>?_))
         ·have hlt:i<m.length:=(by simp [aA,aB] at h3;omega);((conv=>whnf);refine bm (fun g1=>?_) (fun g1=>?_))
          ·(conv=>whnf);refine nV (BS m (i:=i) (by omega) ?_) ?_
           ·show _+Int.toNat j*5=_;omega
           ((conv=>whnf);refine bm (fun g2=>?_) (fun g2=>?_))
           ·((conv=>whnf);refine bm (fun g3=>?_) (fun g3=>?_))
            ·(conv=>whnf);refine gI (eK (cE l m).face (i:=2*i) (by omega) ?_) ?_
             ·show _+Int.toNat (2*j)*1=_;omega
             ((conv=>whnf);refine bm (fun g4=>?_) (fun g4=>?_))
             ·have hL:(cO m i).l=aK (cE l m).face (2*i):=by
               have g4:((!decide ((cO m i).l=aK (cE l m).face (2*i))) == false)=true:=g4;simpa using g4
              ((conv=>whnf);refine bm (fun g5=>?_) (fun g5=>?_))
              ·((conv=>whnf);refine bm (fun g6=>?_) (fun g6=>?_))
               ·((conv=>whnf);refine bm (fun g7=>?_) (fun g7=>?_))
                ·(conv=>whnf);refine gI (eK (cE l m).face (i:=2*i+1) (by omega) ?_) ?_
                 ·show _+Int.toNat (2*j+1)*1=_;omega
                 ((conv=>whnf);refine bm (fun g8=>?_) (fun g8=>?_))
                 ·have hR:¬ (cO m i).r=aK (cE l m).face (2*i+1):=by
                   have g8:(!decide ((cO m i).r=aK (cE l m).face (2*i+1)))=true:=g8;simpa using g8
                  (conv=>whnf);exact .inr ⟨by rw [cF,fT hlt (show DA l m i=false by rw [DA,decide_eq_false hR,Bool.and_false]),Bool.and_false,Bool.and_false,Bool.and_false,Bool.and_false],rfl⟩
                 ·have hR:(cO m i).r=aK (cE l m).face (2*i+1):=by
                   have g8:(!decide ((cO m i).r=aK (cE l m).face (2*i+1)))=false:=g8;simpa using g8
                  ((conv=>whnf);refine bm (fun g9=>?_) (fun g9=>?_))
                  ·(conv=>whnf);refine⟨m.length - (i+1),by omega,?_⟩;refine I8 (e0:=YJ m.length c2 (j+1)) (h0:=hF l m c1 c2 n) (n0:=2004) ⟨i+1,j+1,by omega,by omega,rfl,fun t ht=>?_,rfl,rfl,rfl⟩ ?_ (dT (bJ (fun _ _ h=>h) (bN hhok (Nat.le_refl _))) (bN hhok (Nat.le_refl _))) hhok (by omega)
                   ·by_cases hti:t=i
                    ·rw [hti,DA,decide_eq_true hL,decide_eq_true hR];rfl
                    ·exact hfa t (by omega)
                   ·unfold YJ;((repeat' refine iE rfl rfl ?_);exact iN)
                  ·exfalso;simp [aA,aB,aI] at g9;omega
                ·exfalso;simp [aA,aB,hDl] at g7;omega
               ·exfalso;simp [aA,aB,aI] at g6;omega
              ·exfalso;simp [aA,aB,aI] at g5;omega
             ·have hL:¬ (cO m i).l=aK (cE l m).face (2*i):=by
               have g4:((!decide ((cO m i).l=aK (cE l m).face (2*i))) == false)=false:=g4;simpa using g4
              (conv=>whnf);exact .inr ⟨by rw [cF,fT hlt (show DA l m i=false by rw [DA,decide_eq_false hL,Bool.false_and]),Bool.and_false,Bool.and_false,Bool.and_false,Bool.and_false],rfl⟩
            ·exfalso;simp [aA,aB,hDl] at g3;omega
           ·exfalso;simp [aA,aB,aI] at g2;omega
          ·exfalso;simp [aA,aB] at g1;omega
         ·have hge:i=m.length:=(by simp [aA,aB] at h3;omega);(conv=>whnf);refine .inl ⟨?_,aH7 hl⟩;rw [cF,hpln,hc,hok,decide_eq_true hmn,fB (fun t ht=>hfa t (by omega))];rfl
      ·have hok:y0 (cE l m)=false:=by
        have b2:((!y0 (cE l m)) == false)=false:=b2;simpa using b2
       (conv=>whnf);exact .inr ⟨by rw [cF,hok,Bool.false_and,Bool.and_false,Bool.and_false],rfl⟩
 ·exfalso;have a0:(decide (l.length≤1000)&&decide (m.length≤1000))=false:=a0;rw [decide_eq_true hl,decide_eq_true hm] at a0;cases a0
end Go.Aw
end
