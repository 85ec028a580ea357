/-
  Parts of a proof. No condition.
-/
import Derived.Test.YticajjhjehljpaaGreatQAr
import Derived.Test.YticajjhjehljpaaGreatQBa
set_option linter.unusedSimpArgs false
set_option linter.unusedVariables false
noncomputable section
namespace Go.Aw
set_option maxRecDepth 100000
set_option maxHeartbeats 4000000
def LN (l:List Pt)(m:List Ed):Bool:=(eF (aL l m m.length) (outs l m)).all id
def bX (l:List Pt)(m:List Ed):K7:=nmD l (aL l m m.length) (outs l m)
def GA (l:List Pt)(m:List Ed)(i:Nat):Bool:=decide ((dG m i).l=aH (bX l m).face (2*i))&&decide ((dG m i).r=aH (bX l m).face (2*i+1))
def cZ (l:List Pt)(m:List Ed)(n:Int):Bool:=iP l m n&&(LN l m&&(vC (bX l m)&&(decide ((bX l m).many=n)&&mG (GA l m) m.length)))
def VT (l:List Pt)(m:List Ed)(c1 c2:Nat)(n:Int):Heap:=(7,M5 (WH l m c1 c2 n) (.slice (some ⟨2003,0,none⟩) (aL l m m.length).length (aL l m m.length).length))::(2003,.cells true false 1 (flat aU.fl (bX l m).face))::m8 3 (tJ l m)
def aIL (l:List Pt)(m:List Ed)(c1 c2:Nat)(n:Int):KE:=fun v h nx =>
 (cZ l m n=true∧K1 (.tuple #[.pointer (some ⟨7,0,none⟩),iv 0]) (VT l m c1 c2 n) 2004 v h nx)∨(cZ l m n=false∧v=.tuple #[.pointer none,iv 1])
def YQ (N:Nat)(j:Int):List (Nat × Value):=[(1,.pointer (some ⟨2,0,none⟩)),(17,iv N),(18,iv j)]
def LY (N:Nat)(j z:Int):List (Nat × Value):=(4,iv j)::(21,iv j)::(22,iv z)::YQ N j
theorem Y7 {l:List Pt}{m:List Ed}{c1 c2:Nat}{n:Int}:look (N3 (WH l m c1 c2 n)) 2=some (.cells false false 1 [.slice (some ⟨0,0,none⟩) l.length c1,.slice (some ⟨1,0,none⟩) m.length c2,iv n]):=by
 unfold N3 WH;rw [aZ (by omega),aZ (by omega)];unfold oC;rw [gD];split
 ·rename_i o' ho;exfalso;obtain⟨j,q,e1,_,_⟩:=kW _ ho;omega
 ·rfl
theorem HK {b n0 nx:Nat}{I:KS}{e0 e:List (Nat × Value)}{h0 h:Heap}(hI:I e0 h0 n0)(he:∀ p∈e0,look e p.1=some (iM id p.2)∧BK n0 p.2)(hh:∀ k o,look h0 k=some o→look h k=some o)(hok:zS h0 n0)(hb:b≤n0):qI b I e h nx :=
 ⟨e0,h0,n0,id,hI,fun t v hv=>he (t,v) (bA hv),fun k o hk=>⟨(hok k o hk).1,o,hh k o hk,(hok k o hk).2⟩,fun _ _ _ _ _ _ e=>e,fun _ _=>rfl,hb⟩
def hF (l:List Pt)(m:List Ed)(c1 c2:Nat)(n:Int):Heap :=
 (7,M5 (WH l m c1 c2 n) (.slice (some ⟨2003,0,none⟩) (WH l m c1 c2 n).D.length (WH l m c1 c2 n).D.length))::(2003,.cells true false 1 (flat aU.fl (bX l m).face))::(2,.cells false false 1 [.slice (some ⟨0,0,none⟩) l.length c1,.slice (some ⟨1,0,none⟩) m.length c2,iv n]) ::
 (0,.cells false true a8.sz (flat a8.fl l))::(1,.cells false true aX.sz (flat aX.fl m))::m8 3 (tJ l m)
theorem JQ {l:List Pt}{m:List Ed}{c1 c2:Nat}{n:Int}:∀ k o,look (VT l m c1 c2 n) k=some o→look (hF l m c1 c2 n) k=some o:=by
 intro k o hk;unfold VT at hk;rw [aB] at hk;split at hk
 ·rename_i hb;rw [← beq_true hb,← hk];rfl
 rename_i hb7;rw [aB] at hk;split at hk
 ·rename_i hb;rw [← beq_true hb,← hk];rfl
 rename_i hb3;have h7:(7:Nat)≠k:=beq_false hb7;have h3:(2003:Nat)≠k:=beq_false hb3;obtain⟨j,q,e1,_,_⟩:=kW _ hk;unfold hF;rw [aZ h7,aZ h3,aZ (by omega),aZ (by omega),aZ (by omega)];exact hk
def WW (N c2:Nat)(j:Int):List (Nat × Value):=[(7,.pointer (some ⟨7,0,none⟩)),(59,.slice (some ⟨1,0,none⟩) N c2),(60,iv N),(61,iv j)]
theorem KU {l:List Pt}{m:List Ed}{c1 c2:Nat}{n:Int}(hl:l.length≤1000):zS (hF l m c1 c2 n) 2004:=by
 have hsl:∀ {q a b:Nat},q<2004→BR 2004 (.slice (some ⟨q,0,none⟩) a b):=fun {q a b} hq=>⟨hq,fun h=>by cases h⟩;refine cQ (cQ (cQ (cQ (cQ (xI (QY (n:=3) (OE hl) pJ) (by omega)) (by omega) (aI (aF _ _))) (by omega) (aI (aF _ _))) (by omega) ⟨rfl,rfl,rfl,rfl,?_⟩) (by omega) (aI (aF _ _))) (by omega) ⟨rfl,rfl,rfl,rfl,?_⟩
 ·exact List.forall_mem_cons.2 ⟨hsl (by omega),List.forall_mem_cons.2 ⟨hsl (by omega),List.forall_mem_cons.2 ⟨cD rfl,fun _ h=>(by cases h)⟩⟩⟩
 ·exact List.forall_mem_cons.2 ⟨hsl (show 3<2004 by omega),List.forall_mem_cons.2 ⟨hsl (show 4<2004 by omega),List.forall_mem_cons.2 ⟨cD rfl,List.forall_mem_cons.2 ⟨hsl (show 9<2004 by omega),List.forall_mem_cons.2 ⟨hsl (show 8<2004 by omega),List.forall_mem_cons.2 ⟨hsl (by omega),fun _ h=>(by cases h)⟩⟩⟩⟩⟩⟩
theorem aGO {l:List Pt}{m:List Ed}{c1 c2:Nat}{n:Int}(hl:l.length≤1000):K1 (.tuple #[.pointer (some ⟨7,0,none⟩),iv 0]) (VT l m c1 c2 n) 2004 (.tuple #[.pointer (some ⟨7,0,none⟩),iv 0]) (hF l m c1 c2 n) 2004:=by
 refine⟨id,fun t u hu=>?_,fun k o hk=>?_,fun _ _ _ _ _ _ e=>e,fun _ _=>rfl,by omega⟩
 ·have hm:=bA hu;simp only [List.mem_cons,List.not_mem_nil,or_false] at hm;injection hm with e1 e2;subst e1 e2;refine⟨by simp [iM,tr,dS,bQ,dU,j3];rfl,?_⟩;intro v hv;simp only [List.mem_cons,List.not_mem_nil,or_false] at hv;rcases hv with rfl|rfl
  ·exact⟨Nat.le_of_ble_eq_true rfl,rfl⟩
  ·exact fO (cD rfl)
 ·have h:=JQ k o hk;obtain⟨a1,a2⟩:=KU hl k o h;exact⟨a1,o,h,a2⟩
theorem aDN {l:List Pt}{m:List Ed}{k:Nat}(h:k<3):look (m8 3 (tJ l m)) k=none:=by
 cases hl:look (m8 3 (tJ l m)) k with
 |none=>rfl
 |some o =>
  obtain⟨j,q,e1,_,_⟩:=kW _ hl;omega
theorem aG5 {l:List Pt}{m:List Ed}{c1 c2:Nat}{n:Int}:∀ k o,look (hF l m c1 c2 n) k=some o→look (N3 (WH l m c1 c2 n)) k=some o:=by
 intro k o hk;unfold hF at hk;rw [aB] at hk;split at hk
 ·rename_i hb;rw [← beq_true hb,← hk];rfl
 rename_i hb7;rw [aB] at hk;split at hk
 ·rename_i hb;rw [← beq_true hb,← hk];rfl
 rename_i hb3;rw [aB] at hk;split at hk
 ·rename_i hb;rw [← beq_true hb,Y7,← hk]
 have h7:(7:Nat)≠k:=beq_false hb7;have h3:(2003:Nat)≠k:=beq_false hb3;show look ((7,_)::(2003,_)::app (m8 3 (tJ l m)) (dT (J9 l m c1 c2 n))) k=some o;rw [aZ h7,aZ h3,gD];rw [aB] at hk;split at hk
 ·rename_i hb;rw [← beq_true hb,aDN (by omega),← hk];rfl
 rw [aB] at hk;split at hk
 ·rename_i hb;rw [← beq_true hb,aDN (by omega),← hk];rfl
 rw [hk]
theorem w69 (l:List Pt)(m:List Ed)(n:Int)(c1 c2:Nat)(hl:l.length≤1000)(hm:m.length≤1000)
  (hP:cL l m n=true→rE l (aL l m m.length) (outs l m)=true∧ZR (aL l m m.length) (outs l m)=true∧VL (aL l m m.length) (outs l m)=true∧1≤l.length) :
  body [UC,aAR,SH,UR,SD,(83,aEW)] 35 [aC l.length m.length c1 c2 n] (aE a8 aX l m) 2 (aIL l m c1 c2 n):=by
 (conv=>whnf);refine⟨l,m,bJ a8 rfl,bJ aX rfl,?_⟩;((conv=>whnf);refine bm (fun a0=>?_) (fun a0=>?_))
 ·((conv=>whnf);refine bm (fun a1=>?_) (fun a1=>?_))
  ·have hno:cL l m n=false:=by
    have a1:(!cL l m n)=true:=a1;simpa using a1
   (conv=>whnf);exact .inr ⟨by rw [cZ,iP,hno];rfl,rfl⟩
  ·have hlst:cL l m n=true:=by
    have a1:(!cL l m n)=false:=a1;simpa using a1
   have hM:ND l m=true:=by
    have hh:=hlst;simp only [cL,Bool.and_eq_true] at hh;exact QQ hl hm (fun i hi=>eH hh.2.1 hi) (fun i hi=>eH hh.2.2.1 hi)
   (conv=>whnf);refine⟨fun q e h nx=>∃ (i:Nat) (j:Int),j=i∧i≤m.length∧q=m.length - i∧(∀ t,t<i→∀ k,k<t→H3 l m t k=true)∧e=YQ m.length j∧h=J9 l m c1 c2 n∧nx=3,⟨m.length,?_⟩,?_⟩
   ·refine c8 (e0:=YQ m.length 0) (h0:=J9 l m c1 c2 n) (n0:=3) ⟨0,0,rfl,Nat.zero_le _,rfl,fun t ht=>absurd ht (Nat.not_lt_zero t),rfl,rfl,rfl⟩ ?_ ?_ (by decide)
    ·unfold YQ;((repeat' refine iE rfl rfl ?_);exact iN)
    ·unfold J9 bI aE;((repeat'(first|refine iF rfl rfl ?_|refine iC rfl rfl rfl ?_|refine iJ rfl rfl rfl rfl ?_));exact iN)
   ·rintro q e h nx ⟨i,j,hj,hi,rfl,hme,rfl,rfl,rfl⟩;unfold YQ J9 bI aE;((conv=>whnf);refine bm (fun h3=>?_) (fun h3=>?_))
    ·have hlt:i<m.length:=(by simp [aA,aG] at h3;omega);(conv=>whnf);refine⟨fun q e h nx=>∃ (k:Nat) (z:Int),z=k∧k≤i∧q=i - k∧(∀ t,t<k→H3 l m i t=true)∧e=LY m.length j z∧h=J9 l m c1 c2 n∧nx=3,⟨i,?_⟩,?_⟩
     ·refine c8 (e0:=LY m.length j 0) (h0:=J9 l m c1 c2 n) (n0:=3) ⟨0,0,rfl,Nat.zero_le _,rfl,fun t ht=>absurd ht (Nat.not_lt_zero t),rfl,rfl,rfl⟩ ?_ ?_ (by decide)
      ·unfold LY YQ;((repeat' refine iE rfl rfl ?_);exact iN)
      ·unfold J9 bI aE;((repeat'(first|refine iF rfl rfl ?_|refine iC rfl rfl rfl ?_|refine iJ rfl rfl rfl rfl ?_));exact iN)
     ·rintro q e h nx ⟨k,z,hz,hk,rfl,hmk,rfl,rfl,rfl⟩;unfold LY YQ J9 bI aE;((conv=>whnf);refine bm (fun h4=>?_) (fun h4=>?_))
      ·have hkl:k<i:=(by simp [aA,aG] at h4;omega);have ej:j.toNat=i:=(by omega);have ez:z.toNat=k:=(by omega);(conv=>whnf);refine⟨l,m,bJ a8 rfl,bJ aX rfl,?_⟩;((conv=>whnf);refine bm (fun h5=>?_) (fun h5=>?_))
       ·(conv=>whnf);refine⟨l,m,bJ a8 rfl,bJ aX rfl,?_⟩;((conv=>whnf);refine bm (fun h6=>?_) (fun h6=>?_))
        ·(conv=>whnf);have em:E6 (bZ l m j.toNat) (bZ l m z.toNat)=iI (bZ l m i) (bZ l m k):=(by rw [ej,ez,aB6]);((conv=>whnf);refine bm (fun h7=>?_) (fun h7=>?_))
         ·have h7:¬ iI (bZ l m i) (bZ l m k)=0:=(by rw [← em];simpa [aA,aG] using h7);((conv=>whnf);refine bm (fun h8=>?_) (fun h8=>?_))
          ·have h8:¬ iI (bZ l m i) (bZ l m k)=1:=(by rw [← em];simpa [aA,aG] using h8);(conv=>whnf);exact .inr ⟨by rw [cZ,aFD hlt hkl (by rw [H3,decide_eq_false h7,decide_eq_false h8];rfl)];rfl,rfl⟩
          ·have h8:iI (bZ l m i) (bZ l m k)=1:=(by rw [← em];simpa [aA,aG] using h8);have hyes:H3 l m i k=true:=(by rw [H3,decide_eq_true h8,Bool.or_true]);((conv=>whnf);refine bm (fun h9=>?_) (fun h9=>?_))
           ·(conv=>whnf);refine⟨i - (k+1),by omega,?_⟩;refine c8 (e0:=LY m.length j (z+1)) (h0:=J9 l m c1 c2 n) (n0:=3) ⟨k+1,z+1,by omega,by omega,rfl,fun t ht=>?_,rfl,rfl,rfl⟩ ?_ ?_ (by decide)
            ·by_cases htk:t=k
             ·rw [htk];exact hyes
             ·exact hmk t (by omega)
            ·unfold LY YQ;((repeat' refine iE rfl rfl ?_);exact iN)
            ·unfold J9 bI aE;((repeat'(first|refine iF rfl rfl ?_|refine iC rfl rfl rfl ?_|refine iJ rfl rfl rfl rfl ?_));exact iN)
           ·exfalso;simp [aA,aG,aK] at h9;omega
         ·have h7:iI (bZ l m i) (bZ l m k)=0:=(by rw [← em];simpa [aA,aG] using h7);have hyes:H3 l m i k=true:=(by rw [H3,decide_eq_true h7,Bool.true_or]);((conv=>whnf);refine bm (fun h9=>?_) (fun h9=>?_))
          ·(conv=>whnf);refine⟨i - (k+1),by omega,?_⟩;refine c8 (e0:=LY m.length j (z+1)) (h0:=J9 l m c1 c2 n) (n0:=3) ⟨k+1,z+1,by omega,by omega,rfl,fun t ht=>?_,rfl,rfl,rfl⟩ ?_ ?_ (by decide)
           ·by_cases htk:t=k
            ·rw [htk];exact hyes
            ·exact hmk t (by omega)
           ·unfold LY YQ;((repeat' refine iE rfl rfl ?_);exact iN)
           ·unfold J9 bI aE;((repeat'(first|refine iF rfl rfl ?_|refine iC rfl rfl rfl ?_|refine iJ rfl rfl rfl rfl ?_));exact iN)
          ·exfalso;simp [aA,aG,aK] at h9;omega
        ·exfalso;have h6:(ND l m&&(decide (0≤z)&&decide (z<m.length)))=false:=h6;rw [hM,decide_eq_true (show 0≤z by omega),decide_eq_true (show z<m.length by omega)] at h6;cases h6
       ·exfalso;have h5:(ND l m&&(decide (0≤j)&&decide (j<m.length)))=false:=h5;rw [hM,decide_eq_true (show 0≤j by omega),decide_eq_true (show j<m.length by omega)] at h5;cases h5
      ·have hge:k=i:=(by simp [aA,aG] at h4;omega);((conv=>whnf);refine bm (fun h5=>?_) (fun h5=>?_))
       ·(conv=>whnf);refine⟨m.length - (i+1),by omega,?_⟩;refine c8 (e0:=YQ m.length (j+1)) (h0:=J9 l m c1 c2 n) (n0:=3) ⟨i+1,j+1,by omega,by omega,rfl,fun t ht=>?_,rfl,rfl,rfl⟩ ?_ ?_ (by decide)
        ·by_cases hti:t=i
         ·rw [hti];exact fun k' hk'=>hmk k' (by omega)
         ·exact hme t (by omega)
        ·unfold YQ;((repeat' refine iE rfl rfl ?_);exact iN)
        ·unfold J9 bI aE;((repeat'(first|refine iF rfl rfl ?_|refine iC rfl rfl rfl ?_|refine iJ rfl rfl rfl rfl ?_));exact iN)
       ·exfalso;simp [aA,aG,aK] at h5;omega
    ·have hge:i=m.length:=(by simp [aA,aG] at h3;omega);have hpln:iP l m n=true:=by
      rw [iP,hlst,kJ (fun i hi=>kJ (hme i (by omega)))];rfl
     obtain⟨p1,p2,p3,p4⟩:=hP hlst;(conv=>whnf);refine⟨l,m,n,.slice (some ⟨0,0,none⟩) l.length c1,.slice (some ⟨1,0,none⟩) m.length c2,rfl,bJ a8 rfl,bJ aX rfl,hlst,?_⟩;(conv=>whnf);have hW:uE (app (m8 3 (aC5 l m c1 c2 n)) (dT (J9 l m c1 c2 n))) 7 3 4 9 8 0 (fun i=>3+(i+1000)) l (aL l m m.length) (outs l m) m.length c1 c2 n none:=by
      rw [YI];exact RX.at (ext_cons (fun _ _ h=>h) aDO) rfl
     refine⟨7,[],3,4,9,8,0,(fun i=>3+(i+1000)),l,aL l m m.length,outs l m,m.length,c1,c2,n,none,rfl,hW,?_⟩;rw [show cnS l (aL l m m.length) (outs l m) []=some (true,.bool (LN l m)) from by
      unfold cnS;rw [CD p1,p3,eJ,decide_eq_true p4];rfl]
     refine aJ rfl ?_;((conv=>whnf);refine bm (fun b1=>?_) (fun b1=>?_))
     ·have hc:LN l m=false:=by
       have b1:(!LN l m)=true:=b1;simpa using b1
      (conv=>whnf);exact .inr ⟨by rw [cZ,hc,Bool.false_and,Bool.and_false],rfl⟩
     ·have hc:LN l m=true:=by
       have b1:(!LN l m)=false:=b1;simpa using b1
      (conv=>whnf);refine⟨WH l m c1 c2 n,aG1 hl p1 p2,rfl,YI,rfl,?_⟩;((conv=>whnf);refine bm (fun b2=>?_) (fun b2=>?_))
      ·have hok:vC (bX l m)=true:=by
        have b2:((!vC (bX l m)) == false)=true:=b2;simpa using b2
       (conv=>whnf);rw [Y7];((conv=>whnf);refine bm (fun b3=>?_) (fun b3=>?_))
       ·have hne:¬ (bX l m).many=n:=by
         have b3:(!decide ((bX l m).many=n))=true:=b3;simpa using b3
        (conv=>whnf);exact .inr ⟨by rw [cZ,decide_eq_false hne,Bool.false_and,Bool.and_false,Bool.and_false,Bool.and_false],rfl⟩
       ·have hmn:(bX l m).many=n:=by
         have b3:(!decide ((bX l m).many=n))=false:=b3;simpa using b3
        (conv=>whnf);rw [Y7];(conv=>whnf);have hfl:(bX l m).face.length=2*m.length:=by
         have:=(lV l (aL l m m.length) (outs l m) (aL l m m.length).length).1;exact this.trans (aY l m m.length)
        have hDl:(WH l m c1 c2 n).D.length=2*m.length:=aY l m m.length;have hhok:=KU (m:=m) (c1:=c1) (c2:=c2) (n:=n) hl;refine⟨fun q e h nx=>∃ (i:Nat) (j:Int),j=i∧i≤m.length∧q=m.length - i∧(∀ t,t<i→GA l m t=true)∧e=WW m.length c2 j∧h=hF l m c1 c2 n∧nx=2004,⟨m.length,?_⟩,?_⟩
        ·refine HK (e0:=WW m.length c2 0) (h0:=hF l m c1 c2 n) (n0:=2004) ⟨0,0,rfl,Nat.zero_le _,rfl,fun t ht=>absurd ht (Nat.not_lt_zero t),rfl,rfl,rfl⟩ ?_ aG5 hhok (by omega);unfold WW;((repeat' refine iE rfl rfl ?_);exact iN)
        ·clear hj hi hge h3 hme;rintro q e h nx ⟨i,j,hj,hi,rfl,hfa,rfl,rfl,rfl⟩;unfold WW;((conv=>whnf);refine bm (fun h3=>?_) (fun h3=>?_))
         ·have hlt:i<m.length:=(by simp [aA,aG] at h3;omega);((conv=>whnf);refine bm (fun g1=>?_) (fun g1=>?_))
          ·(conv=>whnf);refine K6 (aDz m (i:=i) (by omega) ?_) ?_
           ·show _+Int.toNat j*5=_;omega
           ((conv=>whnf);refine bm (fun g2=>?_) (fun g2=>?_))
           ·((conv=>whnf);refine bm (fun g3=>?_) (fun g3=>?_))
            ·(conv=>whnf);refine lD (j1 (bX l m).face (i:=2*i) (by omega) ?_) ?_
             ·show _+Int.toNat (2*j)*1=_;omega
             ((conv=>whnf);refine bm (fun g4=>?_) (fun g4=>?_))
             ·have hL:(dG m i).l=aH (bX l m).face (2*i):=by
               have g4:((!decide ((dG m i).l=aH (bX l m).face (2*i))) == false)=true:=g4;simpa using g4
              ((conv=>whnf);refine bm (fun g5=>?_) (fun g5=>?_))
              ·((conv=>whnf);refine bm (fun g6=>?_) (fun g6=>?_))
               ·((conv=>whnf);refine bm (fun g7=>?_) (fun g7=>?_))
                ·(conv=>whnf);refine lD (j1 (bX l m).face (i:=2*i+1) (by omega) ?_) ?_
                 ·show _+Int.toNat (2*j+1)*1=_;omega
                 ((conv=>whnf);refine bm (fun g8=>?_) (fun g8=>?_))
                 ·have hR:¬ (dG m i).r=aH (bX l m).face (2*i+1):=by
                   have g8:(!decide ((dG m i).r=aH (bX l m).face (2*i+1)))=true:=g8;simpa using g8
                  (conv=>whnf);exact .inr ⟨by rw [cZ,j9 hlt (show GA l m i=false by rw [GA,decide_eq_false hR,Bool.and_false]),Bool.and_false,Bool.and_false,Bool.and_false,Bool.and_false],rfl⟩
                 ·have hR:(dG m i).r=aH (bX l m).face (2*i+1):=by
                   have g8:(!decide ((dG m i).r=aH (bX l m).face (2*i+1)))=false:=g8;simpa using g8
                  ((conv=>whnf);refine bm (fun g9=>?_) (fun g9=>?_))
                  ·(conv=>whnf);refine⟨m.length - (i+1),by omega,?_⟩;refine HK (e0:=WW m.length c2 (j+1)) (h0:=hF l m c1 c2 n) (n0:=2004) ⟨i+1,j+1,by omega,by omega,rfl,fun t ht=>?_,rfl,rfl,rfl⟩ ?_ (lO (eI (fun _ _ h=>h) (bR hhok (Nat.le_refl _))) (bR hhok (Nat.le_refl _))) hhok (by omega)
                   ·by_cases hti:t=i
                    ·rw [hti,GA,decide_eq_true hL,decide_eq_true hR];rfl
                    ·exact hfa t (by omega)
                   ·unfold WW;((repeat' refine iE rfl rfl ?_);exact iN)
                  ·exfalso;simp [aA,aG,aK] at g9;omega
                ·exfalso;simp [aA,aG,hDl] at g7;omega
               ·exfalso;simp [aA,aG,aK] at g6;omega
              ·exfalso;simp [aA,aG,aK] at g5;omega
             ·have hL:¬ (dG m i).l=aH (bX l m).face (2*i):=by
               have g4:((!decide ((dG m i).l=aH (bX l m).face (2*i))) == false)=false:=g4;simpa using g4
              (conv=>whnf);exact .inr ⟨by rw [cZ,j9 hlt (show GA l m i=false by rw [GA,decide_eq_false hL,Bool.false_and]),Bool.and_false,Bool.and_false,Bool.and_false,Bool.and_false],rfl⟩
            ·exfalso;simp [aA,aG,hDl] at g3;omega
           ·exfalso;simp [aA,aG,aK] at g2;omega
          ·exfalso;simp [aA,aG] at g1;omega
         ·have hge:i=m.length:=(by simp [aA,aG] at h3;omega);(conv=>whnf);refine .inl ⟨?_,aGO hl⟩;rw [cZ,hpln,hc,hok,decide_eq_true hmn,kJ (fun t ht=>hfa t (by omega))];rfl
      ·have hok:vC (bX l m)=false:=by
        have b2:((!vC (bX l m)) == false)=false:=b2;simpa using b2
       (conv=>whnf);exact .inr ⟨by rw [cZ,hok,Bool.false_and,Bool.and_false,Bool.and_false],rfl⟩
 ·exfalso;have a0:(decide (l.length≤1000)&&decide (m.length≤1000))=false:=a0;rw [decide_eq_true hl,decide_eq_true hm] at a0;cases a0
end Go.Aw
end
