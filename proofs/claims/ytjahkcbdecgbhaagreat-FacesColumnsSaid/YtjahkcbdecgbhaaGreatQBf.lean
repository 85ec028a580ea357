/-
  Parts of a proof. No condition.
-/
import Derived.Test.YtjahkcbdecgbhaaGreatQAv
import Derived.Test.YtjahkcbdecgbhaaGreatQBe
set_option linter.unusedSimpArgs false
set_option linter.unusedVariables false
noncomputable section
namespace Go.Aw
set_option maxRecDepth 100000
set_option maxHeartbeats 4000000
def PC (l:List Pt)(m:List Ed):Bool:=(eR (bC l m m.length) (outs l m)).all id
def dR (l:List Pt)(m:List Ed):PO:=nmD l (bC l m m.length) (outs l m)
def G9 (l:List Pt)(m:List Ed)(i:Nat):Bool:=decide ((cC m i).l=aM (dR l m).face (2*i))&&decide ((cC m i).r=aM (dR l m).face (2*i+1))
def eK (l:List Pt)(m:List Ed)(n:Int):Bool:=gI l m n&&(PC l m&&(zU (dR l m)&&(decide ((dR l m).many=n)&&mS (G9 l m) m.length)))
def X2 (l:List Pt)(m:List Ed)(c1 c2:Nat)(n:Int):Heap:=(7,OM (XU l m c1 c2 n) (.slice (some ⟨2003,0,none⟩) (bC l m m.length).length (bC l m m.length).length))::(2003,.cells true false 1 (flat aO.fl (dR l m).face))::mU 3 (u6 l m)
def aJm (l:List Pt)(m:List Ed)(c1 c2:Nat)(n:Int):KE:=fun v h nx =>
 (eK l m n=true∧JR (.tuple #[.pointer (some ⟨7,0,none⟩),iv 0]) (X2 l m c1 c2 n) 2004 v h nx)∨(eK l m n=false∧v=.tuple #[.pointer none,iv 1])
def e69 (N:Nat)(j:Int):List (Nat × Value):=[(1,.pointer (some ⟨2,0,none⟩)),(17,iv N),(18,iv j)]
def NU (N:Nat)(j z:Int):List (Nat × Value):=(4,iv j)::(21,iv j)::(22,iv z)::e69 N j
theorem ZY {l:List Pt}{m:List Ed}{c1 c2:Nat}{n:Int}:look (M8 (XU l m c1 c2 n)) 2=some (.cells false false 1 [.slice (some ⟨0,0,none⟩) l.length c1,.slice (some ⟨1,0,none⟩) m.length c2,iv n]):=by
 unfold M8 XU;rw [bD (by omega),bD (by omega)];unfold oX;rw [gF];split
 ·rename_i o' ho;exfalso;obtain⟨j,q,e1,_,_⟩:=lK _ ho;omega
 ·rfl
theorem IT {b n0 nx:Nat}{I:KS}{e0 e:List (Nat × Value)}{h0 h:Heap}(hI:I e0 h0 n0)(he:∀ p∈e0,look e p.1=some (gP id p.2)∧xD n0 p.2)(hh:∀ k o,look h0 k=some o→look h k=some o)(hok:vB h0 n0)(hb:b≤n0):qU b I e h nx :=
 ⟨e0,h0,n0,id,hI,fun t v hv=>he (t,v) (a8 hv),fun k o hk=>⟨(hok k o hk).1,o,hh k o hk,(hok k o hk).2⟩,fun _ _ _ _ _ _ e=>e,fun _ _=>rfl,hb⟩
def hF (l:List Pt)(m:List Ed)(c1 c2:Nat)(n:Int):Heap :=
 (7,OM (XU l m c1 c2 n) (.slice (some ⟨2003,0,none⟩) (XU l m c1 c2 n).D.length (XU l m c1 c2 n).D.length))::(2003,.cells true false 1 (flat aO.fl (dR l m).face))::(2,.cells false false 1 [.slice (some ⟨0,0,none⟩) l.length c1,.slice (some ⟨1,0,none⟩) m.length c2,iv n]) ::
 (0,.cells false true aQ.sz (flat aQ.fl l))::(1,.cells false true aU.sz (flat aU.fl m))::mU 3 (u6 l m)
theorem KM {l:List Pt}{m:List Ed}{c1 c2:Nat}{n:Int}:∀ k o,look (X2 l m c1 c2 n) k=some o→look (hF l m c1 c2 n) k=some o:=by
 intro k o hk;unfold X2 at hk;rw [aD] at hk;split at hk
 ·rename_i hb;rw [← beq_true hb,← hk];rfl
 rename_i hb7;rw [aD] at hk;split at hk
 ·rename_i hb;rw [← beq_true hb,← hk];rfl
 rename_i hb3;have h7:(7:Nat)≠k:=beq_false hb7;have h3:(2003:Nat)≠k:=beq_false hb3;obtain⟨j,q,e1,_,_⟩:=lK _ hk;unfold hF;rw [bD h7,bD h3,bD (by omega),bD (by omega),bD (by omega)];exact hk
def X0 (N c2:Nat)(j:Int):List (Nat × Value):=[(7,.pointer (some ⟨7,0,none⟩)),(59,.slice (some ⟨1,0,none⟩) N c2),(60,iv N),(61,iv j)]
theorem J7 {l:List Pt}{m:List Ed}{c1 c2:Nat}{n:Int}(hl:l.length≤1000):vB (hF l m c1 c2 n) 2004:=by
 have hsl:∀ {q a b:Nat},q<2004→CR 2004 (.slice (some ⟨q,0,none⟩) a b):=fun {q a b} hq=>⟨hq,fun h=>by cases h⟩;refine bY (bY (bY (bY (bY (xP (QR (n:=3) (OD hl) rD) (by omega)) (by omega) (aN (aF _ _))) (by omega) (aN (aF _ _))) (by omega) ⟨rfl,rfl,rfl,rfl,?_⟩) (by omega) (aN (aF _ _))) (by omega) ⟨rfl,rfl,rfl,rfl,?_⟩
 ·exact List.forall_mem_cons.2 ⟨hsl (by omega),List.forall_mem_cons.2 ⟨hsl (by omega),List.forall_mem_cons.2 ⟨cG rfl,fun _ h=>(by cases h)⟩⟩⟩
 ·exact List.forall_mem_cons.2 ⟨hsl (show 3<2004 by omega),List.forall_mem_cons.2 ⟨hsl (show 4<2004 by omega),List.forall_mem_cons.2 ⟨cG rfl,List.forall_mem_cons.2 ⟨hsl (show 9<2004 by omega),List.forall_mem_cons.2 ⟨hsl (show 8<2004 by omega),List.forall_mem_cons.2 ⟨hsl (by omega),fun _ h=>(by cases h)⟩⟩⟩⟩⟩⟩
theorem aFq {l:List Pt}{m:List Ed}{c1 c2:Nat}{n:Int}(hl:l.length≤1000):JR (.tuple #[.pointer (some ⟨7,0,none⟩),iv 0]) (X2 l m c1 c2 n) 2004 (.tuple #[.pointer (some ⟨7,0,none⟩),iv 0]) (hF l m c1 c2 n) 2004:=by
 refine⟨id,fun t u hu=>?_,fun k o hk=>?_,fun _ _ _ _ _ _ e=>e,fun _ _=>rfl,by omega⟩
 ·have hm:=a8 hu;simp only [List.mem_cons,List.not_mem_nil,or_false] at hm;injection hm with e1 e2;subst e1 e2;refine⟨by simp [gP,tr,dT,bT,dU,j8];rfl,?_⟩;intro v hv;simp only [List.mem_cons,List.not_mem_nil,or_false] at hv;rcases hv with rfl|rfl
  ·exact⟨Nat.le_of_ble_eq_true rfl,rfl⟩
  ·exact gG (cG rfl)
 ·have h:=KM k o hk;obtain⟨a1,a2⟩:=J7 hl k o h;exact⟨a1,o,h,a2⟩
theorem aEV {l:List Pt}{m:List Ed}{k:Nat}(h:k<3):look (mU 3 (u6 l m)) k=none:=by
 cases hl:look (mU 3 (u6 l m)) k with
 |none=>rfl
 |some o =>
  obtain⟨j,q,e1,_,_⟩:=lK _ hl;omega
theorem aGP {l:List Pt}{m:List Ed}{c1 c2:Nat}{n:Int}:∀ k o,look (hF l m c1 c2 n) k=some o→look (M8 (XU l m c1 c2 n)) k=some o:=by
 intro k o hk;unfold hF at hk;rw [aD] at hk;split at hk
 ·rename_i hb;rw [← beq_true hb,← hk];rfl
 rename_i hb7;rw [aD] at hk;split at hk
 ·rename_i hb;rw [← beq_true hb,← hk];rfl
 rename_i hb3;rw [aD] at hk;split at hk
 ·rename_i hb;rw [← beq_true hb,ZY,← hk]
 have h7:(7:Nat)≠k:=beq_false hb7;have h3:(2003:Nat)≠k:=beq_false hb3;show look ((7,_)::(2003,_)::app (mU 3 (u6 l m)) (eD (KH l m c1 c2 n))) k=some o;rw [bD h7,bD h3,gF];rw [aD] at hk;split at hk
 ·rename_i hb;rw [← beq_true hb,aEV (by omega),← hk];rfl
 rw [aD] at hk;split at hk
 ·rename_i hb;rw [← beq_true hb,aEV (by omega),← hk];rfl
 rw [hk]
theorem w69 (l:List Pt)(m:List Ed)(n:Int)(c1 c2:Nat)(hl:l.length≤1000)(hm:m.length≤1000)
  (hP:cX l m n=true→vC l (bC l m m.length) (outs l m)=true∧YX (bC l m m.length) (outs l m)=true∧YH (bC l m m.length) (outs l m)=true∧1≤l.length) :
  body [VJ,ZP,UF,S2,T5,(155,aGc)] 69 [aE l.length m.length c1 c2 n] (aB aQ aU l m) 2 (aJm l m c1 c2 n):=by
 (conv=>whnf);refine⟨l,m,aI aQ rfl,aI aU rfl,?_⟩;((conv=>whnf);refine bm (fun a0=>?_) (fun a0=>?_))
 ·((conv=>whnf);refine bm (fun a1=>?_) (fun a1=>?_))
  ·have hno:cX l m n=false:=by
    have a1:(!cX l m n)=true:=a1;simpa using a1
   (conv=>whnf);exact .inr ⟨by rw [eK,gI,hno];rfl,rfl⟩
  ·have hlst:cX l m n=true:=by
    have a1:(!cX l m n)=false:=a1;simpa using a1
   have hM:kK l m=true:=by
    have hh:=hlst;simp only [cX,Bool.and_eq_true] at hh;exact KB hl hm (fun i hi=>eV hh.2.1 hi) (fun i hi=>eV hh.2.2.1 hi)
   (conv=>whnf);refine⟨fun q e h nx=>∃ (i:Nat) (j:Int),j=i∧i≤m.length∧q=m.length - i∧(∀ t,t<i→∀ k,k<t→AD l m t k=true)∧e=e69 m.length j∧h=KH l m c1 c2 n∧nx=3,⟨m.length,?_⟩,?_⟩
   ·refine aK (e0:=e69 m.length 0) (h0:=KH l m c1 c2 n) (n0:=3) ⟨0,0,rfl,Nat.zero_le _,rfl,fun t ht=>absurd ht (Nat.not_lt_zero t),rfl,rfl,rfl⟩ ?_ ?_ (by decide)
    ·unfold e69;((repeat' refine iE rfl rfl ?_);exact iN)
    ·unfold KH aX aB;((repeat'(first|refine iF rfl rfl ?_|refine iC rfl rfl rfl ?_|refine iJ rfl rfl rfl rfl ?_));exact iN)
   ·rintro q e h nx ⟨i,j,hj,hi,rfl,hme,rfl,rfl,rfl⟩;unfold e69 KH aX aB;((conv=>whnf);refine bm (fun h3=>?_) (fun h3=>?_))
    ·have hlt:i<m.length:=(by simp [aA,aC] at h3;omega);(conv=>whnf);refine⟨fun q e h nx=>∃ (k:Nat) (z:Int),z=k∧k≤i∧q=i - k∧(∀ t,t<k→AD l m i t=true)∧e=NU m.length j z∧h=KH l m c1 c2 n∧nx=3,⟨i,?_⟩,?_⟩
     ·refine aK (e0:=NU m.length j 0) (h0:=KH l m c1 c2 n) (n0:=3) ⟨0,0,rfl,Nat.zero_le _,rfl,fun t ht=>absurd ht (Nat.not_lt_zero t),rfl,rfl,rfl⟩ ?_ ?_ (by decide)
      ·unfold NU e69;((repeat' refine iE rfl rfl ?_);exact iN)
      ·unfold KH aX aB;((repeat'(first|refine iF rfl rfl ?_|refine iC rfl rfl rfl ?_|refine iJ rfl rfl rfl rfl ?_));exact iN)
     ·rintro q e h nx ⟨k,z,hz,hk,rfl,hmk,rfl,rfl,rfl⟩;unfold NU e69 KH aX aB;((conv=>whnf);refine bm (fun h4=>?_) (fun h4=>?_))
      ·have hkl:k<i:=(by simp [aA,aC] at h4;omega);have ej:j.toNat=i:=(by omega);have ez:z.toNat=k:=(by omega);(conv=>whnf);refine⟨l,m,aI aQ rfl,aI aU rfl,?_⟩;((conv=>whnf);refine bm (fun h5=>?_) (fun h5=>?_))
       ·(conv=>whnf);refine⟨l,m,aI aQ rfl,aI aU rfl,?_⟩;((conv=>whnf);refine bm (fun h6=>?_) (fun h6=>?_))
        ·(conv=>whnf);have em:D5 (aY l m j.toNat) (aY l m z.toNat)=eZ (aY l m i) (aY l m k):=(by rw [ej,ez,aAb]);((conv=>whnf);refine bm (fun h7=>?_) (fun h7=>?_))
         ·have h7:¬ eZ (aY l m i) (aY l m k)=0:=(by rw [← em];simpa [aA,aC] using h7);((conv=>whnf);refine bm (fun h8=>?_) (fun h8=>?_))
          ·have h8:¬ eZ (aY l m i) (aY l m k)=1:=(by rw [← em];simpa [aA,aC] using h8);(conv=>whnf);exact .inr ⟨by rw [eK,aAQ hlt hkl (by rw [AD,decide_eq_false h7,decide_eq_false h8];rfl)];rfl,rfl⟩
          ·have h8:eZ (aY l m i) (aY l m k)=1:=(by rw [← em];simpa [aA,aC] using h8);have hyes:AD l m i k=true:=(by rw [AD,decide_eq_true h8,Bool.or_true]);((conv=>whnf);refine bm (fun h9=>?_) (fun h9=>?_))
           ·(conv=>whnf);refine⟨i - (k+1),by omega,?_⟩;refine aK (e0:=NU m.length j (z+1)) (h0:=KH l m c1 c2 n) (n0:=3) ⟨k+1,z+1,by omega,by omega,rfl,fun t ht=>?_,rfl,rfl,rfl⟩ ?_ ?_ (by decide)
            ·by_cases htk:t=k
             ·rw [htk];exact hyes
             ·exact hmk t (by omega)
            ·unfold NU e69;((repeat' refine iE rfl rfl ?_);exact iN)
            ·unfold KH aX aB;((repeat'(first|refine iF rfl rfl ?_|refine iC rfl rfl rfl ?_|refine iJ rfl rfl rfl rfl ?_));exact iN)
           ·exfalso;simp [aA,aC,aH] at h9;omega
         ·have h7:eZ (aY l m i) (aY l m k)=0:=(by rw [← em];simpa [aA,aC] using h7);have hyes:AD l m i k=true:=(by rw [AD,decide_eq_true h7,Bool.true_or]);((conv=>whnf);refine bm (fun h9=>?_) (fun h9=>?_))
          ·(conv=>whnf);refine⟨i - (k+1),by omega,?_⟩;refine aK (e0:=NU m.length j (z+1)) (h0:=KH l m c1 c2 n) (n0:=3) ⟨k+1,z+1,by omega,by omega,rfl,fun t ht=>?_,rfl,rfl,rfl⟩ ?_ ?_ (by decide)
           ·by_cases htk:t=k
            ·rw [htk];exact hyes
            ·exact hmk t (by omega)
           ·unfold NU e69;((repeat' refine iE rfl rfl ?_);exact iN)
           ·unfold KH aX aB;((repeat'(first|refine iF rfl rfl ?_|refine iC rfl rfl rfl ?_|refine iJ rfl rfl rfl rfl ?_));exact iN)
          ·exfalso;simp [aA,aC,aH] at h9;omega
        ·exfalso;have h6:(kK l m&&(decide (0≤z)&&decide (z<m.length)))=false:=h6;rw [hM,decide_eq_true (show 0≤z by omega),decide_eq_true (show z<m.length by omega)] at h6;cases h6
       ·exfalso;have h5:(kK l m&&(decide (0≤j)&&decide (j<m.length)))=false:=h5;rw [hM,decide_eq_true (show 0≤j by omega),decide_eq_true (show j<m.length by omega)] at h5;cases h5
      ·have hge:k=i:=(by simp [aA,aC] at h4;omega);((conv=>whnf);refine bm (fun h5=>?_) (fun h5=>?_))
       ·(conv=>whnf);refine⟨m.length - (i+1),by omega,?_⟩;refine aK (e0:=e69 m.length (j+1)) (h0:=KH l m c1 c2 n) (n0:=3) ⟨i+1,j+1,by omega,by omega,rfl,fun t ht=>?_,rfl,rfl,rfl⟩ ?_ ?_ (by decide)
        ·by_cases hti:t=i
         ·rw [hti];exact fun k' hk'=>hmk k' (by omega)
         ·exact hme t (by omega)
        ·unfold e69;((repeat' refine iE rfl rfl ?_);exact iN)
        ·unfold KH aX aB;((repeat'(first|refine iF rfl rfl ?_|refine iC rfl rfl rfl ?_|refine iJ rfl rfl rfl rfl ?_));exact iN)
       ·exfalso;simp [aA,aC,aH] at h5;omega
    ·have hge:i=m.length:=(by simp [aA,aC] at h3;omega);have hpln:gI l m n=true:=by
      rw [gI,hlst,eS (fun i hi=>eS (hme i (by omega)))];rfl
     obtain⟨p1,p2,p3,p4⟩:=hP hlst;(conv=>whnf);refine⟨l,m,n,.slice (some ⟨0,0,none⟩) l.length c1,.slice (some ⟨1,0,none⟩) m.length c2,rfl,aI aQ rfl,aI aU rfl,hlst,?_⟩;(conv=>whnf);have hW:vR (app (mU 3 (aD6 l m c1 c2 n)) (eD (KH l m c1 c2 n))) 7 3 4 9 8 0 (fun i=>3+(i+1000)) l (bC l m m.length) (outs l m) m.length c1 c2 n none:=by
      rw [ZG];exact U7.at (ext_cons (fun _ _ h=>h) aFh) rfl
     refine⟨7,[],3,4,9,8,0,(fun i=>3+(i+1000)),l,bC l m m.length,outs l m,m.length,c1,c2,n,none,rfl,hW,?_⟩;rw [show cnS l (bC l m m.length) (outs l m) []=some (true,.bool (PC l m)) from by
      unfold cnS;rw [CJ p1,p3,fK,decide_eq_true p4];rfl]
     refine aJ rfl ?_;((conv=>whnf);refine bm (fun b1=>?_) (fun b1=>?_))
     ·have hc:PC l m=false:=by
       have b1:(!PC l m)=true:=b1;simpa using b1
      (conv=>whnf);exact .inr ⟨by rw [eK,hc,Bool.false_and,Bool.and_false],rfl⟩
     ·have hc:PC l m=true:=by
       have b1:(!PC l m)=false:=b1;simpa using b1
      (conv=>whnf);refine⟨XU l m c1 c2 n,aG2 hl p1 p2,rfl,ZG,rfl,?_⟩;((conv=>whnf);refine bm (fun b2=>?_) (fun b2=>?_))
      ·have hok:zU (dR l m)=true:=by
        have b2:((!zU (dR l m)) == false)=true:=b2;simpa using b2
       (conv=>whnf);rw [ZY];((conv=>whnf);refine bm (fun b3=>?_) (fun b3=>?_))
       ·have hne:¬ (dR l m).many=n:=by
         have b3:(!decide ((dR l m).many=n))=true:=b3;simpa using b3
        (conv=>whnf);exact .inr ⟨by rw [eK,decide_eq_false hne,Bool.false_and,Bool.and_false,Bool.and_false,Bool.and_false],rfl⟩
       ·have hmn:(dR l m).many=n:=by
         have b3:(!decide ((dR l m).many=n))=false:=b3;simpa using b3
        (conv=>whnf);rw [ZY];(conv=>whnf);have hfl:(dR l m).face.length=2*m.length:=by
         have:=(AN l (bC l m m.length) (outs l m) (bC l m m.length).length).1;exact this.trans (bR l m m.length)
        have hDl:(XU l m c1 c2 n).D.length=2*m.length:=bR l m m.length;have hhok:=J7 (m:=m) (c1:=c1) (c2:=c2) (n:=n) hl;refine⟨fun q e h nx=>∃ (i:Nat) (j:Int),j=i∧i≤m.length∧q=m.length - i∧(∀ t,t<i→G9 l m t=true)∧e=X0 m.length c2 j∧h=hF l m c1 c2 n∧nx=2004,⟨m.length,?_⟩,?_⟩
        ·refine IT (e0:=X0 m.length c2 0) (h0:=hF l m c1 c2 n) (n0:=2004) ⟨0,0,rfl,Nat.zero_le _,rfl,fun t ht=>absurd ht (Nat.not_lt_zero t),rfl,rfl,rfl⟩ ?_ aGP hhok (by omega);unfold X0;((repeat' refine iE rfl rfl ?_);exact iN)
        ·clear hj hi hge h3 hme;rintro q e h nx ⟨i,j,hj,hi,rfl,hfa,rfl,rfl,rfl⟩;unfold X0;((conv=>whnf);refine bm (fun h3=>?_) (fun h3=>?_))
         ·have hlt:i<m.length:=(by simp [aA,aC] at h3;omega);((conv=>whnf);refine bm (fun g1=>?_) (fun g1=>?_))
          ·(conv=>whnf);refine oA (EX m (i:=i) (by omega) ?_) ?_
           ·show _+Int.toNat j*5=_;omega
           ((conv=>whnf);refine bm (fun g2=>?_) (fun g2=>?_))
           ·((conv=>whnf);refine bm (fun g3=>?_) (fun g3=>?_))
            ·(conv=>whnf);refine iB (fN (dR l m).face (i:=2*i) (by omega) ?_) ?_
             ·show _+Int.toNat (2*j)*1=_;omega
             ((conv=>whnf);refine bm (fun g4=>?_) (fun g4=>?_))
             ·have hL:(cC m i).l=aM (dR l m).face (2*i):=by
               have g4:((!decide ((cC m i).l=aM (dR l m).face (2*i))) == false)=true:=g4;simpa using g4
              ((conv=>whnf);refine bm (fun g5=>?_) (fun g5=>?_))
              ·((conv=>whnf);refine bm (fun g6=>?_) (fun g6=>?_))
               ·((conv=>whnf);refine bm (fun g7=>?_) (fun g7=>?_))
                ·(conv=>whnf);refine iB (fN (dR l m).face (i:=2*i+1) (by omega) ?_) ?_
                 ·show _+Int.toNat (2*j+1)*1=_;omega
                 ((conv=>whnf);refine bm (fun g8=>?_) (fun g8=>?_))
                 ·have hR:¬ (cC m i).r=aM (dR l m).face (2*i+1):=by
                   have g8:(!decide ((cC m i).r=aM (dR l m).face (2*i+1)))=true:=g8;simpa using g8
                  (conv=>whnf);exact .inr ⟨by rw [eK,fF hlt (show G9 l m i=false by rw [G9,decide_eq_false hR,Bool.and_false]),Bool.and_false,Bool.and_false,Bool.and_false,Bool.and_false],rfl⟩
                 ·have hR:(cC m i).r=aM (dR l m).face (2*i+1):=by
                   have g8:(!decide ((cC m i).r=aM (dR l m).face (2*i+1)))=false:=g8;simpa using g8
                  ((conv=>whnf);refine bm (fun g9=>?_) (fun g9=>?_))
                  ·(conv=>whnf);refine⟨m.length - (i+1),by omega,?_⟩;refine IT (e0:=X0 m.length c2 (j+1)) (h0:=hF l m c1 c2 n) (n0:=2004) ⟨i+1,j+1,by omega,by omega,rfl,fun t ht=>?_,rfl,rfl,rfl⟩ ?_ (fY (cJ (fun _ _ h=>h) (bW hhok (Nat.le_refl _))) (bW hhok (Nat.le_refl _))) hhok (by omega)
                   ·by_cases hti:t=i
                    ·rw [hti,G9,decide_eq_true hL,decide_eq_true hR];rfl
                    ·exact hfa t (by omega)
                   ·unfold X0;((repeat' refine iE rfl rfl ?_);exact iN)
                  ·exfalso;simp [aA,aC,aH] at g9;omega
                ·exfalso;simp [aA,aC,hDl] at g7;omega
               ·exfalso;simp [aA,aC,aH] at g6;omega
              ·exfalso;simp [aA,aC,aH] at g5;omega
             ·have hL:¬ (cC m i).l=aM (dR l m).face (2*i):=by
               have g4:((!decide ((cC m i).l=aM (dR l m).face (2*i))) == false)=false:=g4;simpa using g4
              (conv=>whnf);exact .inr ⟨by rw [eK,fF hlt (show G9 l m i=false by rw [G9,decide_eq_false hL,Bool.false_and]),Bool.and_false,Bool.and_false,Bool.and_false,Bool.and_false],rfl⟩
            ·exfalso;simp [aA,aC,hDl] at g3;omega
           ·exfalso;simp [aA,aC,aH] at g2;omega
          ·exfalso;simp [aA,aC] at g1;omega
         ·have hge:i=m.length:=(by simp [aA,aC] at h3;omega);(conv=>whnf);refine .inl ⟨?_,aFq hl⟩;rw [eK,hpln,hc,hok,decide_eq_true hmn,eS (fun t ht=>hfa t (by omega))];rfl
      ·have hok:zU (dR l m)=false:=by
        have b2:((!zU (dR l m)) == false)=false:=b2;simpa using b2
       (conv=>whnf);exact .inr ⟨by rw [eK,hok,Bool.false_and,Bool.and_false,Bool.and_false],rfl⟩
 ·exfalso;have a0:(decide (l.length≤1000)&&decide (m.length≤1000))=false:=a0;rw [decide_eq_true hl,decide_eq_true hm] at a0;cases a0
end Go.Aw
end
