/-
  Parts of the proof, put together. No condition.
-/
import Derived.Test.YtjahkcbdecgbhaaGreatQBa
import Derived.Test.YtjahkcbdecgbhaaGreatQBk
set_option linter.unusedSimpArgs false
set_option linter.unusedVariables false
noncomputable section
namespace Go.Aw
set_option maxRecDepth 100000
set_option maxHeartbeats 4000000
def NG (l:List Pt)(m:List Ed):Bool:=(eJ (aW l m m.length) (outs l m)).all id
def c9 (l:List Pt)(m:List Ed):OO:=nmD l (aW l m m.length) (outs l m)
def C9 (l:List Pt)(m:List Ed)(i:Nat):Bool:=decide ((cW m i).l=aN (c9 l m).face (2*i))&&decide ((cW m i).r=aN (c9 l m).face (2*i+1))
def cX (l:List Pt)(m:List Ed)(n:Int):Bool:=fS l m n&&(NG l m&&(zU (c9 l m)&&(decide ((c9 l m).many=n)&&mQ (C9 l m) m.length)))
def WU (l:List Pt)(m:List Ed)(c1 c2:Nat)(n:Int):Heap:=(7,MP (WS l m c1 c2 n) (.slice (some ⟨2003,0,none⟩) (aW l m m.length).length (aW l m m.length).length))::(2003,.cells true false 1 (flat aP.fl (c9 l m).face))::l8 3 (u6 l m)
def aHR (l:List Pt)(m:List Ed)(c1 c2:Nat)(n:Int):KE:=fun v h nx =>
 (cX l m n=true∧JJ (.tuple #[.pointer (some ⟨7,0,none⟩),iv 0]) (WU l m c1 c2 n) 2004 v h nx)∨(cX l m n=false∧v=.tuple #[.pointer none,iv 1])
def YR (N:Nat)(j:Int):List (Nat × Value):=[(1,.pointer (some ⟨2,0,none⟩)),(17,iv N),(18,iv j)]
def OM (N:Nat)(j z:Int):List (Nat × Value):=(4,iv j)::(21,iv j)::(22,iv z)::YR N j
theorem X1 {l:List Pt}{m:List Ed}{c1 c2:Nat}{n:Int}:look (NN (WS l m c1 c2 n)) 2=some (.cells false false 1 [.slice (some ⟨0,0,none⟩) l.length c1,.slice (some ⟨1,0,none⟩) m.length c2,iv n]):=by
 unfold NN WS;rw [a9 (by omega),a9 (by omega)];unfold oR;rw [fY];split
 ·rename_i o' ho;exfalso;obtain⟨j,q,e1,_,_⟩:=lJ _ ho;omega
 ·rfl
theorem HT {b n0 nx:Nat}{I:KS}{e0 e:List (Nat × Value)}{h0 h:Heap}(hI:I e0 h0 n0)(he:∀ p∈e0,look e p.1=some (jH id p.2)∧BM n0 p.2)(hh:∀ k o,look h0 k=some o→look h k=some o)(hok:AR h0 n0)(hb:b≤n0):qJ b I e h nx :=
 ⟨e0,h0,n0,id,hI,fun t v hv=>he (t,v) (a8 hv),fun k o hk=>⟨(hok k o hk).1,o,hh k o hk,(hok k o hk).2⟩,fun _ _ _ _ _ _ e=>e,fun _ _=>rfl,hb⟩
def hF (l:List Pt)(m:List Ed)(c1 c2:Nat)(n:Int):Heap :=
 (7,MP (WS l m c1 c2 n) (.slice (some ⟨2003,0,none⟩) (WS l m c1 c2 n).D.length (WS l m c1 c2 n).D.length))::(2003,.cells true false 1 (flat aP.fl (c9 l m).face))::(2,.cells false false 1 [.slice (some ⟨0,0,none⟩) l.length c1,.slice (some ⟨1,0,none⟩) m.length c2,iv n]) ::
 (0,.cells false true aR.sz (flat aR.fl l))::(1,.cells false true aU.sz (flat aU.fl m))::l8 3 (u6 l m)
theorem K3 {l:List Pt}{m:List Ed}{c1 c2:Nat}{n:Int}:∀ k o,look (WU l m c1 c2 n) k=some o→look (hF l m c1 c2 n) k=some o:=by
 intro k o hk;unfold WU at hk;rw [aD] at hk;split at hk
 ·rename_i hb;rw [← beq_true hb,← hk];rfl
 rename_i hb7;rw [aD] at hk;split at hk
 ·rename_i hb;rw [← beq_true hb,← hk];rfl
 rename_i hb3;have h7:(7:Nat)≠k:=beq_false hb7;have h3:(2003:Nat)≠k:=beq_false hb3;obtain⟨j,q,e1,_,_⟩:=lJ _ hk;unfold hF;rw [a9 h7,a9 h3,a9 (by omega),a9 (by omega),a9 (by omega)];exact hk
def W3 (N c2:Nat)(j:Int):List (Nat × Value):=[(7,.pointer (some ⟨7,0,none⟩)),(59,.slice (some ⟨1,0,none⟩) N c2),(60,iv N),(61,iv j)]
theorem KX {l:List Pt}{m:List Ed}{c1 c2:Nat}{n:Int}(hl:l.length≤1000):AR (hF l m c1 c2 n) 2004:=by
 have hsl:∀ {q a b:Nat},q<2004→CS 2004 (.slice (some ⟨q,0,none⟩) a b):=fun {q a b} hq=>⟨hq,fun h=>by cases h⟩;refine cO (cO (cO (cO (cO (xB (PI (n:=3) (LD hl) qT) (by omega)) (by omega) (aM (aI _ _))) (by omega) (aM (aI _ _))) (by omega) ⟨rfl,rfl,rfl,rfl,?_⟩) (by omega) (aM (aI _ _))) (by omega) ⟨rfl,rfl,rfl,rfl,?_⟩
 ·exact List.forall_mem_cons.2 ⟨hsl (by omega),List.forall_mem_cons.2 ⟨hsl (by omega),List.forall_mem_cons.2 ⟨cM rfl,fun _ h=>(by cases h)⟩⟩⟩
 ·exact List.forall_mem_cons.2 ⟨hsl (show 3<2004 by omega),List.forall_mem_cons.2 ⟨hsl (show 4<2004 by omega),List.forall_mem_cons.2 ⟨cM rfl,List.forall_mem_cons.2 ⟨hsl (show 9<2004 by omega),List.forall_mem_cons.2 ⟨hsl (show 8<2004 by omega),List.forall_mem_cons.2 ⟨hsl (by omega),fun _ h=>(by cases h)⟩⟩⟩⟩⟩⟩
theorem aFt {l:List Pt}{m:List Ed}{c1 c2:Nat}{n:Int}(hl:l.length≤1000):JJ (.tuple #[.pointer (some ⟨7,0,none⟩),iv 0]) (WU l m c1 c2 n) 2004 (.tuple #[.pointer (some ⟨7,0,none⟩),iv 0]) (hF l m c1 c2 n) 2004:=by
 refine⟨id,fun t u hu=>?_,fun k o hk=>?_,fun _ _ _ _ _ _ e=>e,fun _ _=>rfl,by omega⟩
 ·have hm:=a8 hu;simp only [List.mem_cons,List.not_mem_nil,or_false] at hm;injection hm with e1 e2;subst e1 e2;refine⟨by simp [jH,tr,dO,bS,dS,lH];rfl,?_⟩;intro v hv;simp only [List.mem_cons,List.not_mem_nil,or_false] at hv;rcases hv with rfl|rfl
  ·exact⟨Nat.le_of_ble_eq_true rfl,rfl⟩
  ·exact fZ (cM rfl)
 ·have h:=K3 k o hk;obtain⟨a1,a2⟩:=KX hl k o h;exact⟨a1,o,h,a2⟩
theorem aEc {l:List Pt}{m:List Ed}{k:Nat}(h:k<3):look (l8 3 (u6 l m)) k=none:=by
 cases hl:look (l8 3 (u6 l m)) k with
 |none=>rfl
 |some o =>
  obtain⟨j,q,e1,_,_⟩:=lJ _ hl;omega
theorem aFJ {l:List Pt}{m:List Ed}{c1 c2:Nat}{n:Int}:∀ k o,look (hF l m c1 c2 n) k=some o→look (NN (WS l m c1 c2 n)) k=some o:=by
 intro k o hk;unfold hF at hk;rw [aD] at hk;split at hk
 ·rename_i hb;rw [← beq_true hb,← hk];rfl
 rename_i hb7;rw [aD] at hk;split at hk
 ·rename_i hb;rw [← beq_true hb,← hk];rfl
 rename_i hb3;rw [aD] at hk;split at hk
 ·rename_i hb;rw [← beq_true hb,X1,← hk]
 have h7:(7:Nat)≠k:=beq_false hb7;have h3:(2003:Nat)≠k:=beq_false hb3;show look ((7,_)::(2003,_)::app (l8 3 (u6 l m)) (dW (K1 l m c1 c2 n))) k=some o;rw [a9 h7,a9 h3,fY];rw [aD] at hk;split at hk
 ·rename_i hb;rw [← beq_true hb,aEc (by omega),← hk];rfl
 rw [aD] at hk;split at hk
 ·rename_i hb;rw [← beq_true hb,aEc (by omega),← hk];rfl
 rw [hk]
theorem w69 (l:List Pt)(m:List Ed)(n:Int)(c1 c2:Nat)(hl:l.length≤1000)(hm:m.length≤1000)
  (hP:cV l m n=true→rL l (aW l m m.length) (outs l m)=true∧aAn (aW l m m.length) (outs l m)=true∧WC (aW l m m.length) (outs l m)=true∧1≤l.length) :
  body [S6,aBS,SI,SS,TX,(155,aG6)] 69 [aE l.length m.length c1 c2 n] (aB aR aU l m) 2 (aHR l m c1 c2 n):=by
 (conv=>whnf);refine⟨l,m,aG aR rfl,aG aU rfl,?_⟩;((conv=>whnf);refine bm (fun a0=>?_) (fun a0=>?_))
 ·((conv=>whnf);refine bm (fun a1=>?_) (fun a1=>?_))
  ·have hno:cV l m n=false:=by
    have a1:(!cV l m n)=true:=a1;simpa using a1
   (conv=>whnf);exact .inr ⟨by rw [cX,fS,hno];rfl,rfl⟩
  ·have hlst:cV l m n=true:=by
    have a1:(!cV l m n)=false:=a1;simpa using a1
   have hM:mF l m=true:=by
    have hh:=hlst;simp only [cV,Bool.and_eq_true] at hh;exact J8 hl hm (fun i hi=>fI hh.2.1 hi) (fun i hi=>fI hh.2.2.1 hi)
   (conv=>whnf);refine⟨fun q e h nx=>∃ (i:Nat) (j:Int),j=i∧i≤m.length∧q=m.length - i∧(∀ t,t<i→∀ k,k<t→C0 l m t k=true)∧e=YR m.length j∧h=K1 l m c1 c2 n∧nx=3,⟨m.length,?_⟩,?_⟩
   ·refine aL (e0:=YR m.length 0) (h0:=K1 l m c1 c2 n) (n0:=3) ⟨0,0,rfl,Nat.zero_le _,rfl,fun t ht=>absurd ht (Nat.not_lt_zero t),rfl,rfl,rfl⟩ ?_ ?_ (by decide)
    ·unfold YR;((repeat' refine iE rfl rfl ?_);exact iN)
    ·unfold K1 aX aB;((repeat'(first|refine iF rfl rfl ?_|refine iC rfl rfl rfl ?_|refine iJ rfl rfl rfl rfl ?_));exact iN)
   ·rintro q e h nx ⟨i,j,hj,hi,rfl,hme,rfl,rfl,rfl⟩;unfold YR K1 aX aB;((conv=>whnf);refine bm (fun h3=>?_) (fun h3=>?_))
    ·have hlt:i<m.length:=(by simp [aA,aC] at h3;omega);(conv=>whnf);refine⟨fun q e h nx=>∃ (k:Nat) (z:Int),z=k∧k≤i∧q=i - k∧(∀ t,t<k→C0 l m i t=true)∧e=OM m.length j z∧h=K1 l m c1 c2 n∧nx=3,⟨i,?_⟩,?_⟩
     ·refine aL (e0:=OM m.length j 0) (h0:=K1 l m c1 c2 n) (n0:=3) ⟨0,0,rfl,Nat.zero_le _,rfl,fun t ht=>absurd ht (Nat.not_lt_zero t),rfl,rfl,rfl⟩ ?_ ?_ (by decide)
      ·unfold OM YR;((repeat' refine iE rfl rfl ?_);exact iN)
      ·unfold K1 aX aB;((repeat'(first|refine iF rfl rfl ?_|refine iC rfl rfl rfl ?_|refine iJ rfl rfl rfl rfl ?_));exact iN)
     ·rintro q e h nx ⟨k,z,hz,hk,rfl,hmk,rfl,rfl,rfl⟩;unfold OM YR K1 aX aB;((conv=>whnf);refine bm (fun h4=>?_) (fun h4=>?_))
      ·have hkl:k<i:=(by simp [aA,aC] at h4;omega);have ej:j.toNat=i:=(by omega);have ez:z.toNat=k:=(by omega);(conv=>whnf);refine⟨l,m,aG aR rfl,aG aU rfl,?_⟩;((conv=>whnf);refine bm (fun h5=>?_) (fun h5=>?_))
       ·(conv=>whnf);refine⟨l,m,aG aR rfl,aG aU rfl,?_⟩;((conv=>whnf);refine bm (fun h6=>?_) (fun h6=>?_))
        ·(conv=>whnf);have em:E8 (cL l m j.toNat) (cL l m z.toNat)=fD (cL l m i) (cL l m k):=(by rw [ej,ez,Z9]);((conv=>whnf);refine bm (fun h7=>?_) (fun h7=>?_))
         ·have h7:¬ fD (cL l m i) (cL l m k)=0:=(by rw [← em];simpa [aA,aC] using h7);((conv=>whnf);refine bm (fun h8=>?_) (fun h8=>?_))
          ·have h8:¬ fD (cL l m i) (cL l m k)=1:=(by rw [← em];simpa [aA,aC] using h8);(conv=>whnf);exact .inr ⟨by rw [cX,aA1 hlt hkl (by rw [C0,decide_eq_false h7,decide_eq_false h8];rfl)];rfl,rfl⟩
          ·have h8:fD (cL l m i) (cL l m k)=1:=(by rw [← em];simpa [aA,aC] using h8);have hyes:C0 l m i k=true:=(by rw [C0,decide_eq_true h8,Bool.or_true]);((conv=>whnf);refine bm (fun h9=>?_) (fun h9=>?_))
           ·(conv=>whnf);refine⟨i - (k+1),by omega,?_⟩;refine aL (e0:=OM m.length j (z+1)) (h0:=K1 l m c1 c2 n) (n0:=3) ⟨k+1,z+1,by omega,by omega,rfl,fun t ht=>?_,rfl,rfl,rfl⟩ ?_ ?_ (by decide)
            ·by_cases htk:t=k
             ·rw [htk];exact hyes
             ·exact hmk t (by omega)
            ·unfold OM YR;((repeat' refine iE rfl rfl ?_);exact iN)
            ·unfold K1 aX aB;((repeat'(first|refine iF rfl rfl ?_|refine iC rfl rfl rfl ?_|refine iJ rfl rfl rfl rfl ?_));exact iN)
           ·exfalso;simp [aA,aC,aH] at h9;omega
         ·have h7:fD (cL l m i) (cL l m k)=0:=(by rw [← em];simpa [aA,aC] using h7);have hyes:C0 l m i k=true:=(by rw [C0,decide_eq_true h7,Bool.true_or]);((conv=>whnf);refine bm (fun h9=>?_) (fun h9=>?_))
          ·(conv=>whnf);refine⟨i - (k+1),by omega,?_⟩;refine aL (e0:=OM m.length j (z+1)) (h0:=K1 l m c1 c2 n) (n0:=3) ⟨k+1,z+1,by omega,by omega,rfl,fun t ht=>?_,rfl,rfl,rfl⟩ ?_ ?_ (by decide)
           ·by_cases htk:t=k
            ·rw [htk];exact hyes
            ·exact hmk t (by omega)
           ·unfold OM YR;((repeat' refine iE rfl rfl ?_);exact iN)
           ·unfold K1 aX aB;((repeat'(first|refine iF rfl rfl ?_|refine iC rfl rfl rfl ?_|refine iJ rfl rfl rfl rfl ?_));exact iN)
          ·exfalso;simp [aA,aC,aH] at h9;omega
        ·exfalso;have h6:(mF l m&&(decide (0≤z)&&decide (z<m.length)))=false:=h6;rw [hM,decide_eq_true (show 0≤z by omega),decide_eq_true (show z<m.length by omega)] at h6;cases h6
       ·exfalso;have h5:(mF l m&&(decide (0≤j)&&decide (j<m.length)))=false:=h5;rw [hM,decide_eq_true (show 0≤j by omega),decide_eq_true (show j<m.length by omega)] at h5;cases h5
      ·have hge:k=i:=(by simp [aA,aC] at h4;omega);((conv=>whnf);refine bm (fun h5=>?_) (fun h5=>?_))
       ·(conv=>whnf);refine⟨m.length - (i+1),by omega,?_⟩;refine aL (e0:=YR m.length (j+1)) (h0:=K1 l m c1 c2 n) (n0:=3) ⟨i+1,j+1,by omega,by omega,rfl,fun t ht=>?_,rfl,rfl,rfl⟩ ?_ ?_ (by decide)
        ·by_cases hti:t=i
         ·rw [hti];exact fun k' hk'=>hmk k' (by omega)
         ·exact hme t (by omega)
        ·unfold YR;((repeat' refine iE rfl rfl ?_);exact iN)
        ·unfold K1 aX aB;((repeat'(first|refine iF rfl rfl ?_|refine iC rfl rfl rfl ?_|refine iJ rfl rfl rfl rfl ?_));exact iN)
       ·exfalso;simp [aA,aC,aH] at h5;omega
    ·have hge:i=m.length:=(by simp [aA,aC] at h3;omega);have hpln:fS l m n=true:=by
      rw [fS,hlst,eN (fun i hi=>eN (hme i (by omega)))];rfl
     obtain⟨p1,p2,p3,p4⟩:=hP hlst;(conv=>whnf);refine⟨l,m,n,.slice (some ⟨0,0,none⟩) l.length c1,.slice (some ⟨1,0,none⟩) m.length c2,rfl,aG aR rfl,aG aU rfl,hlst,?_⟩;(conv=>whnf);have hW:vI (app (l8 3 (aD1 l m c1 c2 n)) (dW (K1 l m c1 c2 n))) 7 3 4 9 8 0 (fun i=>3+(i+1000)) l (aW l m m.length) (outs l m) m.length c1 c2 n none:=by
      rw [YT];exact SP.at (ext_cons (fun _ _ h=>h) aDF) rfl
     refine⟨7,[],3,4,9,8,0,(fun i=>3+(i+1000)),l,aW l m m.length,outs l m,m.length,c1,c2,n,none,rfl,hW,?_⟩;rw [show cnS l (aW l m m.length) (outs l m) []=some (true,.bool (NG l m)) from by
      unfold cnS;rw [xJ p1,p3,eP,decide_eq_true p4];rfl]
     refine aJ rfl ?_;((conv=>whnf);refine bm (fun b1=>?_) (fun b1=>?_))
     ·have hc:NG l m=false:=by
       have b1:(!NG l m)=true:=b1;simpa using b1
      (conv=>whnf);exact .inr ⟨by rw [cX,hc,Bool.false_and,Bool.and_false],rfl⟩
     ·have hc:NG l m=true:=by
       have b1:(!NG l m)=false:=b1;simpa using b1
      (conv=>whnf);refine⟨WS l m c1 c2 n,aEA hl p1 p2,rfl,YT,rfl,?_⟩;((conv=>whnf);refine bm (fun b2=>?_) (fun b2=>?_))
      ·have hok:zU (c9 l m)=true:=by
        have b2:((!zU (c9 l m)) == false)=true:=b2;simpa using b2
       (conv=>whnf);rw [X1];((conv=>whnf);refine bm (fun b3=>?_) (fun b3=>?_))
       ·have hne:¬ (c9 l m).many=n:=by
         have b3:(!decide ((c9 l m).many=n))=true:=b3;simpa using b3
        (conv=>whnf);exact .inr ⟨by rw [cX,decide_eq_false hne,Bool.false_and,Bool.and_false,Bool.and_false,Bool.and_false],rfl⟩
       ·have hmn:(c9 l m).many=n:=by
         have b3:(!decide ((c9 l m).many=n))=false:=b3;simpa using b3
        (conv=>whnf);rw [X1];(conv=>whnf);have hfl:(c9 l m).face.length=2*m.length:=by
         have:=(tM l (aW l m m.length) (outs l m) (aW l m m.length).length).1;exact this.trans (bI l m m.length)
        have hDl:(WS l m c1 c2 n).D.length=2*m.length:=bI l m m.length;have hhok:=KX (m:=m) (c1:=c1) (c2:=c2) (n:=n) hl;refine⟨fun q e h nx=>∃ (i:Nat) (j:Int),j=i∧i≤m.length∧q=m.length - i∧(∀ t,t<i→C9 l m t=true)∧e=W3 m.length c2 j∧h=hF l m c1 c2 n∧nx=2004,⟨m.length,?_⟩,?_⟩
        ·refine HT (e0:=W3 m.length c2 0) (h0:=hF l m c1 c2 n) (n0:=2004) ⟨0,0,rfl,Nat.zero_le _,rfl,fun t ht=>absurd ht (Nat.not_lt_zero t),rfl,rfl,rfl⟩ ?_ aFJ hhok (by omega);unfold W3;((repeat' refine iE rfl rfl ?_);exact iN)
        ·clear hj hi hge h3 hme;rintro q e h nx ⟨i,j,hj,hi,rfl,hfa,rfl,rfl,rfl⟩;unfold W3;((conv=>whnf);refine bm (fun h3=>?_) (fun h3=>?_))
         ·have hlt:i<m.length:=(by simp [aA,aC] at h3;omega);((conv=>whnf);refine bm (fun g1=>?_) (fun g1=>?_))
          ·(conv=>whnf);refine oY (JN m (i:=i) (by omega) ?_) ?_
           ·show _+Int.toNat j*5=_;omega
           ((conv=>whnf);refine bm (fun g2=>?_) (fun g2=>?_))
           ·((conv=>whnf);refine bm (fun g3=>?_) (fun g3=>?_))
            ·(conv=>whnf);refine iL (fP (c9 l m).face (i:=2*i) (by omega) ?_) ?_
             ·show _+Int.toNat (2*j)*1=_;omega
             ((conv=>whnf);refine bm (fun g4=>?_) (fun g4=>?_))
             ·have hL:(cW m i).l=aN (c9 l m).face (2*i):=by
               have g4:((!decide ((cW m i).l=aN (c9 l m).face (2*i))) == false)=true:=g4;simpa using g4
              ((conv=>whnf);refine bm (fun g5=>?_) (fun g5=>?_))
              ·((conv=>whnf);refine bm (fun g6=>?_) (fun g6=>?_))
               ·((conv=>whnf);refine bm (fun g7=>?_) (fun g7=>?_))
                ·(conv=>whnf);refine iL (fP (c9 l m).face (i:=2*i+1) (by omega) ?_) ?_
                 ·show _+Int.toNat (2*j+1)*1=_;omega
                 ((conv=>whnf);refine bm (fun g8=>?_) (fun g8=>?_))
                 ·have hR:¬ (cW m i).r=aN (c9 l m).face (2*i+1):=by
                   have g8:(!decide ((cW m i).r=aN (c9 l m).face (2*i+1)))=true:=g8;simpa using g8
                  (conv=>whnf);exact .inr ⟨by rw [cX,fB hlt (show C9 l m i=false by rw [C9,decide_eq_false hR,Bool.and_false]),Bool.and_false,Bool.and_false,Bool.and_false,Bool.and_false],rfl⟩
                 ·have hR:(cW m i).r=aN (c9 l m).face (2*i+1):=by
                   have g8:(!decide ((cW m i).r=aN (c9 l m).face (2*i+1)))=false:=g8;simpa using g8
                  ((conv=>whnf);refine bm (fun g9=>?_) (fun g9=>?_))
                  ·(conv=>whnf);refine⟨m.length - (i+1),by omega,?_⟩;refine HT (e0:=W3 m.length c2 (j+1)) (h0:=hF l m c1 c2 n) (n0:=2004) ⟨i+1,j+1,by omega,by omega,rfl,fun t ht=>?_,rfl,rfl,rfl⟩ ?_ (mK (eT (fun _ _ h=>h) (bV hhok (Nat.le_refl _))) (bV hhok (Nat.le_refl _))) hhok (by omega)
                   ·by_cases hti:t=i
                    ·rw [hti,C9,decide_eq_true hL,decide_eq_true hR];rfl
                    ·exact hfa t (by omega)
                   ·unfold W3;((repeat' refine iE rfl rfl ?_);exact iN)
                  ·exfalso;simp [aA,aC,aH] at g9;omega
                ·exfalso;simp [aA,aC,hDl] at g7;omega
               ·exfalso;simp [aA,aC,aH] at g6;omega
              ·exfalso;simp [aA,aC,aH] at g5;omega
             ·have hL:¬ (cW m i).l=aN (c9 l m).face (2*i):=by
               have g4:((!decide ((cW m i).l=aN (c9 l m).face (2*i))) == false)=false:=g4;simpa using g4
              (conv=>whnf);exact .inr ⟨by rw [cX,fB hlt (show C9 l m i=false by rw [C9,decide_eq_false hL,Bool.false_and]),Bool.and_false,Bool.and_false,Bool.and_false,Bool.and_false],rfl⟩
            ·exfalso;simp [aA,aC,hDl] at g3;omega
           ·exfalso;simp [aA,aC,aH] at g2;omega
          ·exfalso;simp [aA,aC] at g1;omega
         ·have hge:i=m.length:=(by simp [aA,aC] at h3;omega);(conv=>whnf);refine .inl ⟨?_,aFt hl⟩;rw [cX,hpln,hc,hok,decide_eq_true hmn,eN (fun t ht=>hfa t (by omega))];rfl
      ·have hok:zU (c9 l m)=false:=by
        have b2:((!zU (c9 l m)) == false)=false:=b2;simpa using b2
       (conv=>whnf);exact .inr ⟨by rw [cX,hok,Bool.false_and,Bool.and_false,Bool.and_false],rfl⟩
 ·exfalso;have a0:(decide (l.length≤1000)&&decide (m.length≤1000))=false:=a0;rw [decide_eq_true hl,decide_eq_true hm] at a0;cases a0
end Go.Aw
end
