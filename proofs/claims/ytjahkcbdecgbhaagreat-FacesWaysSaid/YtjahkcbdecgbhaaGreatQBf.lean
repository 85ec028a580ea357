/-
  Parts of a proof. No condition.
-/
import Derived.Test.YtjahkcbdecgbhaaGreatQAv
import Derived.Test.YtjahkcbdecgbhaaGreatQBe
set_option linter.unusedSimpArgs false
set_option linter.unusedVariables false
noncomputable section
namespace Go.Aw
set_option maxRecDepth 100000
set_option maxHeartbeats 4000000
def QJ (l:List Pt)(m:List Ed):Bool:=(fB (bD l m m.length) (outs l m)).all id
def dY (l:List Pt)(m:List Ed):RL:=nmD l (bD l m m.length) (outs l m)
def FU (l:List Pt)(m:List Ed)(i:Nat):Bool:=decide ((cH m i).l=aD (dY l m).face (2*i))&&decide ((cH m i).r=aD (dY l m).face (2*i+1))
def c9 (l:List Pt)(m:List Ed)(n:Int):Bool:=iD l m n&&(QJ l m&&(BY (dY l m)&&(decide ((dY l m).many=n)&&oE (FU l m) m.length)))
def D6 (l:List Pt)(m:List Ed)(c1 c2:Nat)(n:Int):Heap:=(7,RM (a69 l m c1 c2 n) (.slice (some ⟨2003,0,none⟩) (bD l m m.length).length (bD l m m.length).length))::(2003,.cells true false 1 (flat aP.fl (dY l m).face))::mR 3 (B2 l m)
def aK8 (l:List Pt)(m:List Ed)(c1 c2:Nat)(n:Int):KE:=fun v h nx =>
 (c9 l m n=true∧L8 (.tuple #[.pointer (some ⟨7,0,none⟩),iv 0]) (D6 l m c1 c2 n) 2004 v h nx)∨(c9 l m n=false∧v=.tuple #[.pointer none,iv 1])
def e69 (N:Nat)(j:Int):List (Nat × Value):=[(1,.pointer (some ⟨2,0,none⟩)),(17,iv N),(18,iv j)]
def QE (N:Nat)(j z:Int):List (Nat × Value):=(4,iv j)::(21,iv j)::(22,iv z)::e69 N j
theorem aBt {l:List Pt}{m:List Ed}{c1 c2:Nat}{n:Int}:look (QT (a69 l m c1 c2 n)) 2=some (.cells false false 1 [.slice (some ⟨0,0,none⟩) l.length c1,.slice (some ⟨1,0,none⟩) m.length c2,iv n]):=by
 unfold QT a69;rw [bK (by omega),bK (by omega)];unfold pO;rw [j1];split
 ·rename_i o' ho;exfalso;obtain⟨j,q,e1,_,_⟩:=kY _ ho;omega
 rfl
theorem K0 {b n0 nx:Nat}{I:KS}{e0 e:List (Nat × Value)}{h0 h:Heap}(hI:I e0 h0 n0)(he:∀ p∈e0,look e p.1=some (jX id p.2)∧C3 n0 p.2)(hh:∀ k o,look h0 k=some o→look h k=some o)(hok:zT h0 n0)(hb:b≤n0):rM b I e h nx :=
 ⟨e0,h0,n0,id,hI,fun t v hv=>he (t,v) (bF hv),fun k o hk=>⟨(hok k o hk).1,o,hh k o hk,(hok k o hk).2⟩,fun _ _ _ _ _ _ e=>e,fun _ _=>rfl,hb⟩
def hF (l:List Pt)(m:List Ed)(c1 c2:Nat)(n:Int):Heap :=
 (7,RM (a69 l m c1 c2 n) (.slice (some ⟨2003,0,none⟩) (a69 l m c1 c2 n).D.length (a69 l m c1 c2 n).D.length))::(2003,.cells true false 1 (flat aP.fl (dY l m).face))::(2,.cells false false 1 [.slice (some ⟨0,0,none⟩) l.length c1,.slice (some ⟨1,0,none⟩) m.length c2,iv n]) ::
 (0,.cells false true aT.sz (flat aT.fl l))::(1,.cells false true aW.sz (flat aW.fl m))::mR 3 (B2 l m)
theorem XH {l:List Pt}{m:List Ed}{c1 c2:Nat}{n:Int}:∀ k o,look (D6 l m c1 c2 n) k=some o→look (hF l m c1 c2 n) k=some o:=by
 intro k o hk;unfold D6 at hk;rw [aE] at hk;split at hk
 ·rename_i hb;rw [← beq_true hb,← hk];rfl
 rename_i hb7;rw [aE] at hk;split at hk
 ·rename_i hb;rw [← beq_true hb,← hk];rfl
 rename_i hb3;have h7:(7:Nat)≠k:=beq_false hb7;have h3:(2003:Nat)≠k:=beq_false hb3;obtain⟨j,q,e1,_,_⟩:=kY _ hk;unfold hF;rw [bK h7,bK h3,bK (by omega),bK (by omega),bK (by omega)];exact hk
def YV (N c2:Nat)(j:Int):List (Nat × Value):=[(7,.pointer (some ⟨7,0,none⟩)),(59,.slice (some ⟨1,0,none⟩) N c2),(60,iv N),(61,iv j)]
theorem UK {l:List Pt}{m:List Ed}{c1 c2:Nat}{n:Int}(hl:l.length≤1000):zT (hF l m c1 c2 n) 2004:=by
 have hsl:∀ {q a b:Nat},q<2004→DN 2004 (.slice (some ⟨q,0,none⟩) a b):=fun {q a b} hq=>⟨hq,fun h=>by cases h⟩;refine c8 (c8 (c8 (c8 (c8 (E1 (aAU (n:=3) (Q1 hl) yD) (by omega)) (by omega) (aN (aH _ _))) (by omega) (aN (aH _ _))) (by omega) ⟨rfl,rfl,rfl,rfl,?_⟩) (by omega) (aN (aH _ _))) (by omega) ⟨rfl,rfl,rfl,rfl,?_⟩
 ·exact List.forall_mem_cons.2 ⟨hsl (by omega),List.forall_mem_cons.2 ⟨hsl (by omega),List.forall_mem_cons.2 ⟨cX rfl,fun _ h=>(by cases h)⟩⟩⟩
 exact List.forall_mem_cons.2 ⟨hsl (show 3<2004 by omega),List.forall_mem_cons.2 ⟨hsl (show 4<2004 by omega),List.forall_mem_cons.2 ⟨cX rfl,List.forall_mem_cons.2 ⟨hsl (show 9<2004 by omega),List.forall_mem_cons.2 ⟨hsl (show 8<2004 by omega),List.forall_mem_cons.2 ⟨hsl (by omega),fun _ h=>(by cases h)⟩⟩⟩⟩⟩⟩
theorem aHV {l:List Pt}{m:List Ed}{c1 c2:Nat}{n:Int}(hl:l.length≤1000):L8 (.tuple #[.pointer (some ⟨7,0,none⟩),iv 0]) (D6 l m c1 c2 n) 2004 (.tuple #[.pointer (some ⟨7,0,none⟩),iv 0]) (hF l m c1 c2 n) 2004:=by
 refine⟨id,fun t u hu=>?_,fun k o hk=>?_,fun _ _ _ _ _ _ e=>e,fun _ _=>rfl,by omega⟩
 ·have hm:=bF hu;simp only [List.mem_cons,List.not_mem_nil,or_false] at hm;injection hm with e1 e2;subst e1 e2;refine⟨by simp [jX,tr,eD,bT,eG,mB];rfl,?_⟩;intro v hv;simp only [List.mem_cons,List.not_mem_nil,or_false] at hv;rcases hv with rfl|rfl
  ·exact⟨Nat.le_of_ble_eq_true rfl,rfl⟩
  exact iV (cX rfl)
 have h:=XH k o hk;obtain⟨a1,a2⟩:=UK hl k o h;exact⟨a1,o,h,a2⟩
theorem aFQ {l:List Pt}{m:List Ed}{k:Nat}(h:k<3):look (mR 3 (B2 l m)) k=none:=by
 cases hl:look (mR 3 (B2 l m)) k with
 |none=>rfl
 |some o =>
  obtain⟨j,q,e1,_,_⟩:=kY _ hl;omega
theorem aIy {l:List Pt}{m:List Ed}{c1 c2:Nat}{n:Int}:∀ k o,look (hF l m c1 c2 n) k=some o→look (QT (a69 l m c1 c2 n)) k=some o:=by
 intro k o hk;unfold hF at hk;rw [aE] at hk;split at hk
 ·rename_i hb;rw [← beq_true hb,← hk];rfl
 rename_i hb7;rw [aE] at hk;split at hk
 ·rename_i hb;rw [← beq_true hb,← hk];rfl
 rename_i hb3;rw [aE] at hk;split at hk
 ·rename_i hb;rw [← beq_true hb,aBt,← hk]
 have h7:(7:Nat)≠k:=beq_false hb7;have h3:(2003:Nat)≠k:=beq_false hb3;show look ((7,_)::(2003,_)::app (mR 3 (B2 l m)) (eY (L5 l m c1 c2 n))) k=some o;rw [bK h7,bK h3,j1];rw [aE] at hk;split at hk
 ·rename_i hb;rw [← beq_true hb,aFQ (by omega),← hk];rfl
 rw [aE] at hk;split at hk
 ·rename_i hb;rw [← beq_true hb,aFQ (by omega),← hk];rfl
 rw [hk]
theorem w69 (l:List Pt)(m:List Ed)(n:Int)(c1 c2:Nat)(hl:l.length≤1000)(hm:m.length≤1000)
  (hP:dG l m n=true→wJ l (bD l m m.length) (outs l m)=true∧aBR (bD l m m.length) (outs l m)=true∧Z1 (bD l m m.length) (outs l m)=true∧1≤l.length) :
  body [XC,aFK,U2,W6,U4,(155,aIf)] 69 [aG l.length m.length c1 c2 n] (aB aT aW l m) 2 (aK8 l m c1 c2 n):=by
 (conv=>whnf);refine⟨l,m,aJ aT rfl,aJ aW rfl,?_⟩;((conv=>whnf);apply bm<;>intro a0);rotate_left
 ·exfalso;have a0:(decide (l.length≤1000)&&decide (m.length≤1000))=false:=a0;rw [decide_eq_true hl,decide_eq_true hm] at a0;cases a0
 ((conv=>whnf);apply bm<;>intro a1)
 ·have hno:dG l m n=false:=by
   have a1:(!dG l m n)=true:=a1;simpa using a1
  (conv=>whnf);exact .inr ⟨by rw [c9,iD,hno];rfl,rfl⟩
 have hlst:dG l m n=true:=by
  have a1:(!dG l m n)=false:=a1;simpa using a1
 have hM:pU l m=true:=by
  have hh:=hlst;simp only [dG,Bool.and_eq_true] at hh;exact LU hl hm (fun i hi=>fY hh.2.1 hi) (fun i hi=>fY hh.2.2.1 hi)
 (conv=>whnf);refine⟨fun q e h nx=>∃ (i:Nat) (j:Int),j=i∧i≤m.length∧q=m.length - i∧(∀ t,t<i→∀ k,k<t→D4 l m t k=true)∧e=e69 m.length j∧h=L5 l m c1 c2 n∧nx=3,⟨m.length,?_⟩,?_⟩
 ·refine aO (e0:=e69 m.length 0) (h0:=L5 l m c1 c2 n) (n0:=3) ⟨0,0,rfl,Nat.zero_le _,rfl,fun t ht=>absurd ht (Nat.not_lt_zero t),rfl,rfl,rfl⟩ ?_ ?_ (by decide)
  ·unfold e69;((repeat' refine iE rfl rfl ?_);exact iN)
  unfold L5 aX aB;((repeat'(first|refine iF rfl rfl ?_|refine iC rfl rfl rfl ?_|refine iJ rfl rfl rfl rfl ?_));exact iN)
 rintro q e h nx ⟨i,j,hj,hi,rfl,hme,rfl,rfl,rfl⟩;unfold e69 L5 aX aB;((conv=>whnf);apply bm<;>intro h3)
 ·have hlt:i<m.length:=(by simp [aA,aC] at h3;omega);(conv=>whnf);refine⟨fun q e h nx=>∃ (k:Nat) (z:Int),z=k∧k≤i∧q=i - k∧(∀ t,t<k→D4 l m i t=true)∧e=QE m.length j z∧h=L5 l m c1 c2 n∧nx=3,⟨i,?_⟩,?_⟩
  ·refine aO (e0:=QE m.length j 0) (h0:=L5 l m c1 c2 n) (n0:=3) ⟨0,0,rfl,Nat.zero_le _,rfl,fun t ht=>absurd ht (Nat.not_lt_zero t),rfl,rfl,rfl⟩ ?_ ?_ (by decide)
   ·unfold QE e69;((repeat' refine iE rfl rfl ?_);exact iN)
   unfold L5 aX aB;((repeat'(first|refine iF rfl rfl ?_|refine iC rfl rfl rfl ?_|refine iJ rfl rfl rfl rfl ?_));exact iN)
  rintro q e h nx ⟨k,z,hz,hk,rfl,hmk,rfl,rfl,rfl⟩;unfold QE e69 L5 aX aB;((conv=>whnf);apply bm<;>intro h4);rotate_left
  ·have hge:k=i:=(by simp [aA,aC] at h4;omega);((conv=>whnf);apply bm<;>intro h5)
   ·(conv=>whnf);refine⟨m.length - (i+1),by omega,?_⟩;refine aO (e0:=e69 m.length (j+1)) (h0:=L5 l m c1 c2 n) (n0:=3) ⟨i+1,j+1,by omega,by omega,rfl,fun t ht=>?_,rfl,rfl,rfl⟩ ?_ ?_ (by decide)
    ·by_cases hti:t=i
     ·rw [hti];exact fun k' hk'=>hmk k' (by omega)
     exact hme t (by omega)
    ·unfold e69;((repeat' refine iE rfl rfl ?_);exact iN)
    unfold L5 aX aB;((repeat'(first|refine iF rfl rfl ?_|refine iC rfl rfl rfl ?_|refine iJ rfl rfl rfl rfl ?_));exact iN)
   exfalso;simp [aA,aC,aF] at h5;omega
  have hkl:k<i:=(by simp [aA,aC] at h4;omega);have ej:j.toNat=i:=(by omega);have ez:z.toNat=k:=(by omega);(conv=>whnf);refine⟨l,m,aJ aT rfl,aJ aW rfl,?_⟩;((conv=>whnf);apply bm<;>intro h5);rotate_left
  ·exfalso;have h5:(pU l m&&(decide (0≤j)&&decide (j<m.length)))=false:=h5;rw [hM,decide_eq_true (show 0≤j by omega),decide_eq_true (show j<m.length by omega)] at h5;cases h5
  (conv=>whnf);refine⟨l,m,aJ aT rfl,aJ aW rfl,?_⟩;((conv=>whnf);apply bm<;>intro h6);rotate_left
  ·exfalso;have h6:(pU l m&&(decide (0≤z)&&decide (z<m.length)))=false:=h6;rw [hM,decide_eq_true (show 0≤z by omega),decide_eq_true (show z<m.length by omega)] at h6;cases h6
  (conv=>whnf);have em:FB (cY l m j.toNat) (cY l m z.toNat)=fT (cY l m i) (cY l m k):=(by rw [ej,ez,aCG]);((conv=>whnf);apply bm<;>intro h7);rotate_left
  ·have h7:fT (cY l m i) (cY l m k)=0:=(by rw [← em];simpa [aA,aC] using h7);have hyes:D4 l m i k=true:=(by rw [D4,decide_eq_true h7,Bool.true_or]);((conv=>whnf);apply bm<;>intro h9)
   ·(conv=>whnf);refine⟨i - (k+1),by omega,?_⟩;refine aO (e0:=QE m.length j (z+1)) (h0:=L5 l m c1 c2 n) (n0:=3) ⟨k+1,z+1,by omega,by omega,rfl,fun t ht=>?_,rfl,rfl,rfl⟩ ?_ ?_ (by decide)
    ·by_cases htk:t=k
     ·rw [htk];exact hyes
     exact hmk t (by omega)
    ·unfold QE e69;((repeat' refine iE rfl rfl ?_);exact iN)
    unfold L5 aX aB;((repeat'(first|refine iF rfl rfl ?_|refine iC rfl rfl rfl ?_|refine iJ rfl rfl rfl rfl ?_));exact iN)
   exfalso;simp [aA,aC,aF] at h9;omega
  have h7:¬ fT (cY l m i) (cY l m k)=0:=(by rw [← em];simpa [aA,aC] using h7);((conv=>whnf);apply bm<;>intro h8)
  ·have h8:¬ fT (cY l m i) (cY l m k)=1:=(by rw [← em];simpa [aA,aC] using h8);(conv=>whnf);exact .inr ⟨by rw [c9,aBj hlt hkl (by rw [D4,decide_eq_false h7,decide_eq_false h8];rfl)];rfl,rfl⟩
  have h8:fT (cY l m i) (cY l m k)=1:=(by rw [← em];simpa [aA,aC] using h8);have hyes:D4 l m i k=true:=(by rw [D4,decide_eq_true h8,Bool.or_true]);((conv=>whnf);apply bm<;>intro h9)
  ·(conv=>whnf);refine⟨i - (k+1),by omega,?_⟩;refine aO (e0:=QE m.length j (z+1)) (h0:=L5 l m c1 c2 n) (n0:=3) ⟨k+1,z+1,by omega,by omega,rfl,fun t ht=>?_,rfl,rfl,rfl⟩ ?_ ?_ (by decide)
   ·by_cases htk:t=k
    ·rw [htk];exact hyes
    exact hmk t (by omega)
   ·unfold QE e69;((repeat' refine iE rfl rfl ?_);exact iN)
   unfold L5 aX aB;((repeat'(first|refine iF rfl rfl ?_|refine iC rfl rfl rfl ?_|refine iJ rfl rfl rfl rfl ?_));exact iN)
  exfalso;simp [aA,aC,aF] at h9;omega
 have hge:i=m.length:=(by simp [aA,aC] at h3;omega);have hpln:iD l m n=true:=by
  rw [iD,hlst,fC (fun i hi=>fC (hme i (by omega)))];rfl
 obtain⟨p1,p2,p3,p4⟩:=hP hlst;(conv=>whnf);refine⟨l,m,n,.slice (some ⟨0,0,none⟩) l.length c1,.slice (some ⟨1,0,none⟩) m.length c2,rfl,aJ aT rfl,aJ aW rfl,hlst,?_⟩;(conv=>whnf);have hW:zH (app (mR 3 (aF2 l m c1 c2 n)) (eY (L5 l m c1 c2 n))) 7 3 4 9 8 0 (fun i=>3+(i+1000)) l (bD l m m.length) (outs l m) m.length c1 c2 n none:=by
  rw [aCK];exact UQ.at (ext_cons (fun _ _ h=>h) aFT) rfl
 refine⟨7,[],3,4,9,8,0,(fun i=>3+(i+1000)),l,bD l m m.length,outs l m,m.length,c1,c2,n,none,rfl,hW,?_⟩;rw [show cnS l (bD l m m.length) (outs l m) []=some (true,.bool (QJ l m)) from by
  unfold cnS;rw [ES p1,p3,gY,decide_eq_true p4];rfl]
 refine aM rfl ?_;((conv=>whnf);apply bm<;>intro b1)
 ·have hc:QJ l m=false:=by
   have b1:(!QJ l m)=true:=b1;simpa using b1
  (conv=>whnf);exact .inr ⟨by rw [c9,hc,Bool.false_and,Bool.and_false],rfl⟩
 have hc:QJ l m=true:=by
  have b1:(!QJ l m)=false:=b1;simpa using b1
 (conv=>whnf);refine⟨a69 l m c1 c2 n,aIc hl p1 p2,rfl,aCK,rfl,?_⟩;((conv=>whnf);apply bm<;>intro b2);rotate_left
 ·have hok:BY (dY l m)=false:=by
   have b2:((!BY (dY l m)) == false)=false:=b2;simpa using b2
  (conv=>whnf);exact .inr ⟨by rw [c9,hok,Bool.false_and,Bool.and_false,Bool.and_false],rfl⟩
 have hok:BY (dY l m)=true:=by
  have b2:((!BY (dY l m)) == false)=true:=b2;simpa using b2
 (conv=>whnf);rw [aBt];((conv=>whnf);apply bm<;>intro b3)
 ·have hne:¬ (dY l m).many=n:=by
   have b3:(!decide ((dY l m).many=n))=true:=b3;simpa using b3
  (conv=>whnf);exact .inr ⟨by rw [c9,decide_eq_false hne,Bool.false_and,Bool.and_false,Bool.and_false,Bool.and_false],rfl⟩
 have hmn:(dY l m).many=n:=by
  have b3:(!decide ((dY l m).many=n))=false:=b3;simpa using b3
 (conv=>whnf);rw [aBt];(conv=>whnf);have hfl:(dY l m).face.length=2*m.length:=by
  have:=(vO l (bD l m m.length) (outs l m) (bD l m m.length).length).1;exact this.trans (bP l m m.length)
 have hDl:(a69 l m c1 c2 n).D.length=2*m.length:=bP l m m.length;have hhok:=UK (m:=m) (c1:=c1) (c2:=c2) (n:=n) hl;refine⟨fun q e h nx=>∃ (i:Nat) (j:Int),j=i∧i≤m.length∧q=m.length - i∧(∀ t,t<i→FU l m t=true)∧e=YV m.length c2 j∧h=hF l m c1 c2 n∧nx=2004,⟨m.length,?_⟩,?_⟩
 ·refine K0 (e0:=YV m.length c2 0) (h0:=hF l m c1 c2 n) (n0:=2004) ⟨0,0,rfl,Nat.zero_le _,rfl,fun t ht=>absurd ht (Nat.not_lt_zero t),rfl,rfl,rfl⟩ ?_ aIy hhok (by omega);unfold YV;((repeat' refine iE rfl rfl ?_);exact iN)
 clear hj hi hge h3 hme;rintro q e h nx ⟨i,j,hj,hi,rfl,hfa,rfl,rfl,rfl⟩;unfold YV;((conv=>whnf);apply bm<;>intro h3);rotate_left
 ·have hge:i=m.length:=(by simp [aA,aC] at h3;omega);(conv=>whnf);refine .inl ⟨?_,aHV hl⟩;rw [c9,hpln,hc,hok,decide_eq_true hmn,fC (fun t ht=>hfa t (by omega))];rfl
 have hlt:i<m.length:=(by simp [aA,aC] at h3;omega);((conv=>whnf);apply bm<;>intro g1);rotate_left
 ·exfalso;simp [aA,aC] at g1;omega
 (conv=>whnf);refine nN (A2 m (i:=i) (by omega) ?_) ?_
 ·show _+Int.toNat j*5=_;omega
 ((conv=>whnf);apply bm<;>intro g2);rotate_left
 ·exfalso;simp [aA,aC,aF] at g2;omega
 ((conv=>whnf);apply bm<;>intro g3);rotate_left
 ·exfalso;simp [aA,aC,hDl] at g3;omega
 (conv=>whnf);refine eC (bY (dY l m).face (i:=2*i) (by omega) ?_) ?_
 ·show _+Int.toNat (2*j)*1=_;omega
 ((conv=>whnf);apply bm<;>intro g4);rotate_left
 ·have hL:¬ (cH m i).l=aD (dY l m).face (2*i):=by
   have g4:((!decide ((cH m i).l=aD (dY l m).face (2*i))) == false)=false:=g4;simpa using g4
  (conv=>whnf);exact .inr ⟨by rw [c9,fN hlt (show FU l m i=false by rw [FU,decide_eq_false hL,Bool.false_and]),Bool.and_false,Bool.and_false,Bool.and_false,Bool.and_false],rfl⟩
 have hL:(cH m i).l=aD (dY l m).face (2*i):=by
  have g4:((!decide ((cH m i).l=aD (dY l m).face (2*i))) == false)=true:=g4;simpa using g4
 ((conv=>whnf);apply bm<;>intro g5);rotate_left
 ·exfalso;simp [aA,aC,aF] at g5;omega
 ((conv=>whnf);apply bm<;>intro g6);rotate_left
 ·exfalso;simp [aA,aC,aF] at g6;omega
 ((conv=>whnf);apply bm<;>intro g7);rotate_left
 ·exfalso;simp [aA,aC,hDl] at g7;omega
 (conv=>whnf);refine eC (bY (dY l m).face (i:=2*i+1) (by omega) ?_) ?_
 ·show _+Int.toNat (2*j+1)*1=_;omega
 ((conv=>whnf);apply bm<;>intro g8)
 ·have hR:¬ (cH m i).r=aD (dY l m).face (2*i+1):=by
   have g8:(!decide ((cH m i).r=aD (dY l m).face (2*i+1)))=true:=g8;simpa using g8
  (conv=>whnf);exact .inr ⟨by rw [c9,fN hlt (show FU l m i=false by rw [FU,decide_eq_false hR,Bool.and_false]),Bool.and_false,Bool.and_false,Bool.and_false,Bool.and_false],rfl⟩
 have hR:(cH m i).r=aD (dY l m).face (2*i+1):=by
  have g8:(!decide ((cH m i).r=aD (dY l m).face (2*i+1)))=false:=g8;simpa using g8
 ((conv=>whnf);apply bm<;>intro g9)
 ·(conv=>whnf);refine⟨m.length - (i+1),by omega,?_⟩;refine K0 (e0:=YV m.length c2 (j+1)) (h0:=hF l m c1 c2 n) (n0:=2004) ⟨i+1,j+1,by omega,by omega,rfl,fun t ht=>?_,rfl,rfl,rfl⟩ ?_ (aS (aK (fun _ _ h=>h) (bS hhok (Nat.le_refl _))) (bS hhok (Nat.le_refl _))) hhok (by omega)
  ·by_cases hti:t=i
   ·rw [hti,FU,decide_eq_true hL,decide_eq_true hR];rfl
   exact hfa t (by omega)
  unfold YV;((repeat' refine iE rfl rfl ?_);exact iN)
 exfalso;simp [aA,aC,aF] at g9;omega
end Go.Aw
end
