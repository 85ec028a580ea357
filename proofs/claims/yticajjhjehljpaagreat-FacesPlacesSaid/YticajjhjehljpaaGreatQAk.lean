/-
  Parts of a proof. No condition.
-/
import Derived.Test.YticajjhjehljpaaGreatQAh
import Derived.Test.YticajjhjehljpaaGreatQAj
set_option linter.unusedSimpArgs false
set_option linter.unusedVariables false
noncomputable section
namespace Go.Aw
set_option maxRecDepth 100000
theorem cZ {l:List Pt}{m:List Ed}{n:Int}(h:cQ l m n=true):kS l m=true∧3≤m.length∧1≤l.length∧l.length≤400∧m.length≤400∧1≤n∧n≤100:=by
 simp only [cQ,Bool.and_eq_true] at h;obtain⟨h1,h2,h3,h4⟩:=h;simp only [szB,Bool.and_eq_true,decide_eq_true_eq] at h1;have hM:=PB (l:=l) (m:=m) (by omega) (by omega) (fun i hi=>eG h2 hi) (fun i hi=>eG h3 hi);have:=pL hM (i:=0) (by omega);exact⟨hM,by omega,by omega,by omega,by omega,by omega,by omega⟩
theorem cU {l:List Pt}{m:List Ed}{n:Int}(h:eK l m n=true):cQ l m n=true:=by
 simp only [eK,Bool.and_eq_true] at h;exact h.1
def faB (m:List Ed)(of:List Int)(i:Nat):Bool:=decide ((bO m i).l=aK of (2*i))&&decide ((bO m i).r=aK of (2*i+1))
def NB (l:List Pt)(m:List Ed)(n:Int):Bool:=eK l m n&&(C4 l m&&(MT (fD l m)&&(decide ((fD l m).faces=n)&&nM (faB m (fD l m).of) m.length)))
def vaS (l:List Pt)(m:List Ed)(n:Int):List Value→Option (Bool × Value)
 |[]=>some (decide (l.length≤1000)&&decide (m.length≤1000),.bool (NB l m n))
 |_=>none
theorem aI2 {l:List Pt}{m:List Ed}{n:Int}{r:List Value}{v:Value}(h:vaS l m n r=some (true,v)):r=[]∧l.length≤1000∧m.length≤1000∧v=.bool (NB l m n):=by
 unfold vaS at h;split at h
 ·injection h with h;injection h with h1 h2;simp only [Bool.and_eq_true,decide_eq_true_eq] at h1;exact⟨rfl,h1.1,h1.2,h2.symm⟩
 ·cases h
def e70 (j:Int):List (Nat × Value):=[(1,.pointer (some ⟨2,0,none⟩)),(4,.pointer (some ⟨4,0,none⟩)),(5,iv j)]
def h70 (l:List Pt)(m:List Ed)(c1 c2:Nat)(n:Int)(of:List Int)(F:Int)(K:Bool):Heap:=(4,.cells true false 1 [.slice (some ⟨3,0,none⟩) of.length of.length,iv F,.bool K])::(3,.cells true false 1 (flat aT.fl of))::cY l m c1 c2 n
def aOD:Nat × XF:=(50,mX bC bL vaS)
theorem aPO:cO Go.Proofs.Tryz.prog aOD.1 aOD.2:=mV bC bL (aH (xl:=[aDW,aEl,aCU]) (.cons aOm (.cons aNP (.cons aOj .nil)))) fun l m n r v hs=>by
 obtain⟨rfl,hl,hm,rfl⟩:=aI2 hs;clear hs;refine⟨rfl,rfl,fun c1 c2=>?_⟩;(conv=>whnf);refine⟨l,m,aG bC rfl,aG bL rfl,?_⟩;((conv=>whnf);apply bm<;>intro a1);rotate_left
 ·exfalso;have a1:(decide (l.length≤1000)&&decide (m.length≤1000))=false:=a1;rw [decide_eq_true hl,decide_eq_true hm] at a1;cases a1
 ((conv=>whnf);apply bm<;>intro a2)
 ·have a2:eK l m n=false:=(by simpa [aA,aC] using a2);(conv=>whnf);rw [NB,a2];rfl
 have a2:eK l m n=true:=(by simpa [aA,aC] using a2);obtain⟨hM,h3,h1l,_⟩:=cZ (cU a2);(conv=>whnf);refine⟨l,m,aG bC rfl,aG bL rfl,?_⟩;((conv=>whnf);apply bm<;>intro a3);rotate_left
 ·exfalso;have a3:(kS l m&&decide (1≤l.length))=false:=a3;rw [hM,decide_eq_true h1l] at a3;cases a3
 (conv=>whnf);refine⟨_,_,_,[],l,m,rfl,aG bC rfl,aG bL rfl,?_⟩;((conv=>whnf);apply bm<;>intro a4);rotate_left
 ·exfalso;have a4:(kS l m&&decide (1≤m.length))=false:=a4;rw [hM,decide_eq_true (show 1≤m.length by omega)] at a4;cases a4
 have flen:(fD l m).of.length=2*m.length:=wZ l m _;have hval:NB l m n=(C4 l m&&(MT (fD l m)&&(decide ((fD l m).faces=n)&&nM (faB m (fD l m).of) m.length))):=(by rw [NB,a2,Bool.true_and]);rw [hval];generalize fD l m=st at flen;((conv=>whnf);apply bm<;>intro b1);rotate_left
 ·have b1:C4 l m=false:=(by simpa [aA,aC] using b1);(conv=>whnf);rw [b1];rfl
 have b1:C4 l m=true:=(by simpa [aA,aC] using b1);((conv=>whnf);apply bm<;>intro b2);rotate_left
 ·have b2:MT st=false:=(by simpa [aA,aC] using b2);(conv=>whnf);rw [b1,b2];rfl
 have b2:MT st=true:=(by simpa [aA,aC] using b2);((conv=>whnf);apply bm<;>intro b3)
 ·have b3:¬ st.faces=n:=(by simpa [aA,aC] using b3);(conv=>whnf);rw [b1,b2,decide_eq_false b3];rfl
 have b3:st.faces=n:=(by simpa [aA,aC] using b3);(conv=>whnf);rw [b1,b2,decide_eq_true b3,Bool.true_and,Bool.true_and,Bool.true_and];refine⟨fun q e h nx=>∃ (i:Nat) (j:Int),j=i∧i≤m.length∧q=m.length - i∧(∀ t,t<i→faB m st.of t=true)∧e=e70 j∧h=h70 l m c1 c2 n st.of st.faces true∧nx=5,⟨m.length,?_⟩,?_⟩
 ·refine aJ (e0:=e70 0) (h0:=h70 l m c1 c2 n st.of st.faces true) (n0:=5) ⟨0,0,rfl,Nat.zero_le _,rfl,fun t ht=>absurd ht (Nat.not_lt_zero t),rfl,rfl,rfl⟩ ?_ ?_ (by decide)
  ·unfold e70;((repeat' refine iE rfl rfl ?_);exact iN)
  unfold h70 cY cR aL;((repeat'(first|refine iF rfl rfl ?_|refine iC rfl rfl rfl ?_|refine iJ rfl rfl rfl rfl ?_));exact iN)
 rintro q e h nx ⟨i,j,hj,hi,rfl,hfa,rfl,rfl,rfl⟩;unfold e70 h70 cY cR aL;((conv=>whnf);apply bm<;>intro d1);rotate_left
 ·have hge:i=m.length:=(by simp [aA,aC] at d1;omega);(conv=>whnf);rw [fO (fun t ht=>hfa t (by omega))]
 have hlt:i<m.length:=(by simp [aA,aC] at d1;omega);((conv=>whnf);apply bm<;>intro d2);rotate_left
 ·exfalso;simp [aA,aC] at d2;omega
 (conv=>whnf);refine iU (H7 m 2 (i:=i) hlt rfl (by decide) ?_) ?_
 ·show _+Int.toNat j*5+2=_;omega
 ((conv=>whnf);apply bm<;>intro d3);rotate_left
 ·exfalso;simp [aA,aC,aF] at d3;omega
 ((conv=>whnf);apply bm<;>intro d4);rotate_left
 ·exfalso;simp [aA,aC] at d4;omega
 (conv=>whnf);refine iU (iA st.of (i:=2*i) (by omega) ?_) ?_
 ·show _+Int.toNat (2*j)*1=_;omega
 ((conv=>whnf);apply bm<;>intro d5);rotate_left
 ·have d5:¬ (bO m i).l=aK st.of (2*i):=(by simpa [aA,aC] using d5);(conv=>whnf);rw [gB hlt (show faB m st.of i=false by rw [faB,decide_eq_false d5,Bool.false_and])]
 have d5:(bO m i).l=aK st.of (2*i):=(by simpa [aA,aC] using d5);((conv=>whnf);apply bm<;>intro d6);rotate_left
 ·exfalso;simp [aA,aC] at d6;omega
 (conv=>whnf);refine iU (H7 m 3 (i:=i) hlt rfl (by decide) ?_) ?_
 ·show _+Int.toNat j*5+3=_;omega
 ((conv=>whnf);apply bm<;>intro d7);rotate_left
 ·exfalso;simp [aA,aC,aF] at d7;omega
 ((conv=>whnf);apply bm<;>intro d8);rotate_left
 ·exfalso;simp [aA,aC,aF] at d8;omega
 ((conv=>whnf);apply bm<;>intro d9);rotate_left
 ·exfalso;simp [aA,aC] at d9;omega
 (conv=>whnf);refine iU (iA st.of (i:=2*i+1) (by omega) ?_) ?_
 ·show _+Int.toNat (2*j+1)*1=_;omega
 ((conv=>whnf);apply bm<;>intro d10)
 ·have d10:¬ (bO m i).r=aK st.of (2*i+1):=(by simpa [aA,aC] using d10);(conv=>whnf);rw [gB hlt (show faB m st.of i=false by rw [faB,decide_eq_false d10,Bool.and_false])]
 have d10:(bO m i).r=aK st.of (2*i+1):=(by simpa [aA,aC] using d10);((conv=>whnf);apply bm<;>intro d11)
 ·(conv=>whnf);refine⟨m.length - (i+1),by omega,?_⟩;refine aJ (e0:=e70 (j+1)) (h0:=h70 l m c1 c2 n st.of st.faces true) (n0:=5) ⟨i+1,j+1,by omega,by omega,rfl,fun t ht=>?_,rfl,rfl,rfl⟩ ?_ ?_ (by decide)
  ·by_cases hti:t=i
   ·rw [hti,faB,decide_eq_true d5,decide_eq_true d10];rfl
   exact hfa t (by omega)
  ·unfold e70;((repeat' refine iE rfl rfl ?_);exact iN)
  unfold h70 cY cR aL;((repeat'(first|refine iF rfl rfl ?_|refine iC rfl rfl rfl ?_|refine iJ rfl rfl rfl rfl ?_));exact iN)
 exfalso;simp [aA,aC,aF] at d11;omega
def NK:List Bool→Nat→Int
 |[],_=>-1
 |b::r,i=>if b=false then i else NK r (i+1)
theorem QM:∀ (l:List Bool) (i:Nat),decide (0≤NK l i)=!(l.all id)
 |[],i=>rfl
 |b::r,i=>by
  cases b with
  |false=>simp [NK]
  |true=>simpa [NK] using QM r (i+1)
def ixS (l:List Bool):List Value→Option (Bool × Value)
 |[.bool false]=>some (decide (l.length≤1000000),iv (NK l 0))
 |_=>none
theorem aIi {l:List Bool}{r:List Value}{v:Value}(hs:ixS l r=some (true,v)):r=[.bool false]∧l.length≤1000000∧v=iv (NK l 0):=by
 unfold ixS at hs;split at hs
 ·injection hs with hs;injection hs with h1 h2;exact⟨rfl,by simpa using h1,h2.symm⟩
 ·cases hs
def aBJ (l:List Bool)(c:Nat)(j:Int):List (Nat × Value):=[(0,.slice (some ⟨0,0,none⟩) l.length c),(1,.bool false),(7,iv l.length),(8,iv j)]
def hBo (l:List Bool):Heap:=[(0,.cells false true 1 (flat gP.fl l))]
def aEe:Nat × XF:=(170,lX gP ixS)
theorem aNM:cO Go.Proofs.Tryz.prog aEe.1 aEe.2:=HI gP (aH (xl:=[]) .nil) fun l r v hs=>by
 obtain⟨rfl,hlen,rfl⟩:=aIi hs;refine⟨rfl,rfl,fun c=>?_⟩;(conv=>whnf);refine⟨fun q e h nx=>∃ (i:Nat) (j:Int),j=i∧i≤l.length∧q=l.length - i∧NK l 0=NK (l.drop i) i∧e=aBJ l c j∧h=hBo l∧nx=1,⟨l.length,?_⟩,?_⟩
 ·refine aJ (e0:=aBJ l c 0) (h0:=hBo l) (n0:=1) ⟨0,0,rfl,Nat.zero_le _,rfl,rfl,rfl,rfl,rfl⟩ ?_ ?_ (by decide)
  ·unfold aBJ;((repeat' refine iE rfl rfl ?_);exact iN)
  unfold hBo;((repeat'(first|refine iF rfl rfl ?_|refine iC rfl rfl rfl ?_|refine iJ rfl rfl rfl rfl ?_));exact iN)
 rintro q e h nx ⟨i,j,hj,hi,rfl,hb,rfl,rfl,rfl⟩;unfold aBJ hBo;((conv=>whnf);apply bm<;>intro h1);rotate_left
 ·have hge:l.length≤i:=(by simp [aA,aC] at h1;omega);(conv=>whnf);rw [hb,List.drop_eq_nil_of_le hge];rfl
 have hlt:i<l.length:=(by simp [aA,aC] at h1;omega);have hd:l.drop i=cV l i::l.drop (i+1):=(by rw [qZ hlt];exact List.drop_eq_getElem_cons hlt);rw [hd,NK] at hb;((conv=>whnf);apply bm<;>intro h2);rotate_left
 ·exfalso;simp [aA,aC] at h2;omega
 (conv=>whnf);refine iU (Q4 l (i:=i) hlt ?_) ?_
 ·show _+Int.toNat j*1=_;omega
 ((conv=>whnf);apply bm<;>intro h3)
 ·have h3:cV l i=false:=(by simpa [aA,aC] using h3);(conv=>whnf);rw [hb,if_pos h3,hj]
 have h3:¬ cV l i=false:=(by simpa [aA,aC] using h3);((conv=>whnf);apply bm<;>intro h4)
 ·(conv=>whnf);refine⟨l.length - (i+1),by omega,?_⟩;refine aJ (e0:=aBJ l c (j+1)) (h0:=hBo l) (n0:=1) ⟨i+1,j+1,by omega,hlt,rfl,by rw [hb,if_neg h3],rfl,rfl,rfl⟩ ?_ ?_ (by decide)
  ·unfold aBJ;((repeat' refine iE rfl rfl ?_);exact iN)
  unfold hBo;((repeat'(first|refine iF rfl rfl ?_|refine iC rfl rfl rfl ?_|refine iJ rfl rfl rfl rfl ?_));exact iN)
 exfalso;simp [aA,aC,aF] at h4;omega
def ctS (l:List Bool):List Value→Option (Bool × Value)
 |[.bool false]=>some (decide (l.length≤1000000),.bool (!(l.all id)))
 |_=>none
theorem aHd {l:List Bool}{r:List Value}{v:Value}(hs:ctS l r=some (true,v)):r=[.bool false]∧l.length≤1000000∧v=.bool (!(l.all id)):=by
 unfold ctS at hs;split at hs
 ·injection hs with hs;injection hs with h1 h2;exact⟨rfl,by simpa using h1,h2.symm⟩
 ·cases hs
def Z7:Nat × XF:=(142,lX gP ctS)
theorem aIu:cO Go.Proofs.Tryz.prog Z7.1 Z7.2:=HI gP (aH (xl:=[aEe]) (.cons aNM .nil)) fun l r v hs=>by
 obtain⟨rfl,hlen,rfl⟩:=aHd hs;refine⟨rfl,rfl,fun c=>?_⟩;(conv=>whnf);refine⟨l,aG gP rfl,?_⟩;((conv=>whnf);apply bm<;>intro h1)
 ·(conv=>whnf);rw [← QM l 0];rfl
 exact absurd hlen (by simpa using h1)
theorem WH (n:Nat):rep n [.bool false]=flat gP.fl (List.replicate n false):=by
 induction n with
 |zero=>rfl
 |succ n ih=>simp only [List.replicate_succ,flat,← ih];rfl
theorem aKB (n:Nat):rep n [iv 0]=flat aT.fl (List.replicate n 0):=by
 induction n with
 |zero=>rfl
 |succ n ih=>simp only [List.replicate_succ,flat,← ih];rfl
theorem BF (a b:Pt):eO a b=decide (kN a b<0):=by
 unfold eO kN orI iO;by_cases h1:a.1<b.1
 ·simp [h1]
 by_cases h2:b.1<a.1
 ·have h3:¬ a.1=b.1:=(by omega);simp [h1,h2,h3]
 have h3:a.1=b.1:=(by omega);simp only [h1,h2,if_false,h3];by_cases h4:a.2<b.2 <;> by_cases h5:b.2<a.2 <;> simp [h4,h5]
theorem XP (d e:Ed):bfE d e=decide (orI (iO d.a e.a) (iO d.b e.b)<0):=BF (d.a,d.b) (e.a,e.b)
def liS (l:List Pt)(m:List Ed)(n:Int):List Value→Option (Bool × Value)
 |[]=>some (decide (l.length≤1000)&&decide (m.length≤1000),.bool (cQ l m n))
 |_=>none
theorem aG0 {l:List Pt}{m:List Ed}{n:Int}{r:List Value}{v:Value}(h:liS l m n r=some (true,v)):r=[]∧l.length≤1000∧m.length≤1000∧v=.bool (cQ l m n):=by
 unfold liS at h;split at h
 ·injection h with h;injection h with h1 h2;simp only [Bool.and_eq_true,decide_eq_true_eq] at h1;exact⟨rfl,h1.1,h1.2,h2.symm⟩
 ·cases h
def R9 (N c:Nat)(j:Int):List (Nat × Value):=[(1,.pointer (some ⟨2,0,none⟩)),(35,.slice (some ⟨0,0,none⟩) N c),(36,iv N),(37,iv j)]
def DT (N M c:Nat)(j:Int):List (Nat × Value):=[(1,.pointer (some ⟨2,0,none⟩)),(5,.slice (some ⟨3,0,none⟩) N N),(66,.slice (some ⟨1,0,none⟩) M c),(67,iv M),(68,iv j)]
def X8:Nat × XF:=(79,mX bC bL liS)
theorem aND:cO Go.Proofs.Tryz.prog X8.1 X8.2:=mV bC bL (aH (xl:=[X17,aL6,R6,aEM,Z7]) (.cons x17 (.cons aOg (.cons UE (.cons aJR (.cons aIu .nil)))))) fun l m n r v hs=>by
 obtain⟨rfl,hl,hm,rfl⟩:=aG0 hs;clear hs;refine⟨rfl,rfl,fun c1 c2=>?_⟩;have hszf:¬ (l.length≤400∧3≤m.length∧m.length≤400∧1≤n∧n≤100)→cQ l m n=false:=fun h=>aLx (by
  cases hz:szB l m n with
  |false=>rfl
  |true=>simp only [szB,Bool.and_eq_true,decide_eq_true_eq] at hz;exact absurd ⟨hz.1.1.1.1,hz.1.1.1.2,hz.1.1.2,hz.1.2,hz.2⟩ h)
 ((conv=>whnf);apply bm<;>intro a1);rotate_left
 ·have a1:400<l.length:=(by simp [aA,aC] at a1;omega);(conv=>whnf);rw [hszf (by omega)]
 have a1:¬ 400<l.length:=(by simp [aA,aC] at a1;omega);((conv=>whnf);apply bm<;>intro a2);rotate_left
 ·have a2:m.length<3:=(by simp [aA,aC] at a2;omega);(conv=>whnf);rw [hszf (by omega)]
 have a2:¬ m.length<3:=(by simp [aA,aC] at a2;omega);((conv=>whnf);apply bm<;>intro a3);rotate_left
 ·have a3:400<m.length:=(by simp [aA,aC] at a3;omega);(conv=>whnf);rw [hszf (by omega)]
 have a3:¬ 400<m.length:=(by simp [aA,aC] at a3;omega);((conv=>whnf);apply bm<;>intro a4);rotate_left
 ·have a4:n<1:=(by simp [aA,aC] at a4;omega);(conv=>whnf);rw [hszf (by omega)]
 have a4:¬ n<1:=(by simp [aA,aC] at a4;omega);((conv=>whnf);apply bm<;>intro a5)
 ·have a5:100<n:=(by simp [aA,aC] at a5;omega);(conv=>whnf);rw [hszf (by omega)]
 have a5:¬ 100<n:=(by simp [aA,aC] at a5;omega);have hsz:szB l m n=true:=by
  simp only [szB,Bool.and_eq_true,decide_eq_true_eq];omega
 clear hszf;(conv=>whnf);refine⟨fun q e h nx=>∃ (i:Nat) (j:Int),j=i∧i≤l.length∧q=l.length - i∧(∀ t,t<i→EL l t=true)∧e=R9 l.length c1 j∧h=cY l m c1 c2 n∧nx=3,⟨l.length,?_⟩,?_⟩
 ·refine aJ (e0:=R9 l.length c1 0) (h0:=cY l m c1 c2 n) (n0:=3) ⟨0,0,rfl,Nat.zero_le _,rfl,fun t ht=>absurd ht (Nat.not_lt_zero t),rfl,rfl,rfl⟩ ?_ ?_ (by decide)
  ·unfold R9;((repeat' refine iE rfl rfl ?_);exact iN)
  unfold cY cR aL;((repeat'(first|refine iF rfl rfl ?_|refine iC rfl rfl rfl ?_|refine iJ rfl rfl rfl rfl ?_));exact iN)
 rintro q e h nx ⟨i,j,hj,hi,rfl,hpt,rfl,rfl,rfl⟩;unfold R9 cY cR aL;((conv=>whnf);apply bm<;>intro b1)
 ·have hlt:i<l.length:=(by simp [aA,aC] at b1;omega);((conv=>whnf);apply bm<;>intro b2);rotate_left
  ·exfalso;simp [aA,aC] at b2;omega
  (conv=>whnf);refine n8 (jA l (i:=i) hlt ?_) ?_
  ·show _+Int.toNat j*2=_;omega
  ((conv=>whnf);apply bm<;>intro b3);rotate_left
  ·have hr:aM (fA l i)=false:=(by simpa [aA,aC] using b3);(conv=>whnf);rw [aCG hlt (show EL l i=false by rw [EL,hr];rfl)]
  have hr:aM (fA l i)=true:=(by simpa [aA,aC] using b3);((conv=>whnf);apply bm<;>intro b4);rotate_left
  ·have hi0:i=0:=(by simp [aA,aC] at b4;omega);have hyes:EL l i=true:=(by rw [EL,hr,hi0];rfl);((conv=>whnf);apply bm<;>intro b9)
   ·(conv=>whnf);refine⟨l.length - (i+1),by omega,?_⟩;refine aJ (e0:=R9 l.length c1 (j+1)) (h0:=cY l m c1 c2 n) (n0:=3) ⟨i+1,j+1,by omega,by omega,rfl,fun t ht=>?_,rfl,rfl,rfl⟩ ?_ ?_ (by decide)
    ·by_cases hti:t=i
     ·rw [hti];exact hyes
     exact hpt t (by omega)
    ·unfold R9;((repeat' refine iE rfl rfl ?_);exact iN)
    unfold cY cR aL;((repeat'(first|refine iF rfl rfl ?_|refine iC rfl rfl rfl ?_|refine iJ rfl rfl rfl rfl ?_));exact iN)
   exfalso;simp [aA,aC,aF] at b9;omega
  have hi0:i≠0:=(by simp [aA,aC] at b4;omega);((conv=>whnf);apply bm<;>intro b5);rotate_left
  ·exfalso;simp [aA,aC,aF] at b5;omega
  ((conv=>whnf);apply bm<;>intro b6);rotate_left
  ·exfalso;simp [aA,aC] at b6;omega
  (conv=>whnf);refine n8 (jA l (i:=i - 1) (by omega) ?_) ?_
  ·show _+Int.toNat (j - 1)*2=_;omega
  ((conv=>whnf);apply bm<;>intro b8)
  ·have b8:eO (fA l (i - 1)) (fA l i)=false:=by
    rw [BF];have:0≤kN (fA l (i - 1)) (fA l i):=(by simpa [aA,aC] using b8);exact decide_eq_false (by omega)
   (conv=>whnf);rw [aCG hlt (show EL l i=false by rw [EL,hr,b8,decide_eq_false hi0];rfl)]
  have b8:eO (fA l (i - 1)) (fA l i)=true:=by
   rw [BF];have:¬ 0≤kN (fA l (i - 1)) (fA l i):=(by simpa [aA,aC] using b8);exact decide_eq_true (by omega)
  have hyes:EL l i=true:=(by rw [EL,hr,b8];simp);((conv=>whnf);apply bm<;>intro b9)
  ·(conv=>whnf);refine⟨l.length - (i+1),by omega,?_⟩;refine aJ (e0:=R9 l.length c1 (j+1)) (h0:=cY l m c1 c2 n) (n0:=3) ⟨i+1,j+1,by omega,by omega,rfl,fun t ht=>?_,rfl,rfl,rfl⟩ ?_ ?_ (by decide)
   ·by_cases hti:t=i
    ·rw [hti];exact hyes
    exact hpt t (by omega)
   ·unfold R9;((repeat' refine iE rfl rfl ?_);exact iN)
   unfold cY cR aL;((repeat'(first|refine iF rfl rfl ?_|refine iC rfl rfl rfl ?_|refine iJ rfl rfl rfl rfl ?_));exact iN)
  exfalso;simp [aA,aC,aF] at b9;omega
 have hge:i=l.length:=(by simp [aA,aC] at b1;omega);subst hge;clear b1 hi hj;((conv=>whnf);apply bm<;>intro m1);rotate_left
 ·exfalso;simp [aA,aC] at m1;omega
 (conv=>whnf);refine⟨fun q e h nx=>∃ (i:Nat) (j:Int),j=i∧i≤m.length∧q=m.length - i∧(∀ t,t<i→KJ l m t=true)∧e=DT l.length m.length c2 j∧h=bP l m c1 c2 n (oG m (List.replicate l.length false) i)∧nx=4,⟨m.length,?_⟩,?_⟩
 ·refine aJ (e0:=DT l.length m.length c2 0) (h0:=bP l m c1 c2 n (List.replicate l.length false)) (n0:=4) ⟨0,0,rfl,Nat.zero_le _,rfl,fun t ht=>absurd ht (Nat.not_lt_zero t),rfl,rfl,rfl⟩ ?_ ?_ (by decide)
  ·unfold DT;((repeat' refine iE rfl rfl ?_);exact iN)
  unfold bP cY cR aL;have hrep:=WH l.length;((repeat'(first|refine iW rfl rfl (bB (aD gP _) hrep) ?_|refine iF rfl rfl ?_|refine iC rfl rfl rfl ?_|refine iJ rfl rfl rfl rfl ?_));exact iN)
 rintro q e h nx ⟨i,j,hj,hi,rfl,hed0,rfl,rfl,rfl⟩;have rl:(oG m (List.replicate l.length false) i).length=l.length:=(by rw [BZ,List.length_replicate]);have nxt:oG m (List.replicate l.length false) (i+1)=((oG m (List.replicate l.length false) i).set (bO m i).a.toNat true).set (bO m i).b.toNat true:=rfl;generalize hs0:oG m (List.replicate l.length false) i=s at rl nxt;have hsl:(flat gP.fl s).length=l.length:=(by rw [bE,rl];exact Nat.mul_one _);unfold DT bP cY cR aL;((conv=>whnf);apply bm<;>intro d1);rotate_left
 ·have hge:i=m.length:=(by simp [aA,aC] at d1;omega);subst hge;(conv=>whnf);refine⟨s,⟨rl.symm,_,_,_,_,rfl,by rw [List.drop_zero,List.take_length]⟩,?_⟩;((conv=>whnf);apply bm<;>intro g1)
  ·(conv=>whnf);rw [cQ,hsz,fO hpt,fO hed0,hs0];show Value.bool (!(!(s.all id)))=_;rw [Bool.not_not];rfl
  exfalso;have g1:decide (s.length≤1000000)=false:=g1;simp at g1;omega
 have hlt:i<m.length:=(by simp [aA,aC] at d1;omega);((conv=>whnf);apply bm<;>intro d2);rotate_left
 ·exfalso;simp [aA,aC] at d2;omega
 (conv=>whnf);refine n8 (C5 m (i:=i) hlt ?_) ?_
 ·show _+Int.toNat j*5=_;omega
 generalize hed:bO m i=ed at nxt;((conv=>whnf);apply bm<;>intro f1);rotate_left
 ·have f1:¬ 0≤ed.a:=(by simp [aA,aC] at f1;omega);(conv=>whnf);rw [CE hlt (pA hed (by omega))]
 have f1:0≤ed.a:=(by simp [aA,aC] at f1;omega);((conv=>whnf);apply bm<;>intro f2);rotate_left
 ·have f2:¬ ed.a<ed.b:=(by simp [aA,aC] at f2;omega);(conv=>whnf);rw [CE hlt (pA hed (by omega))]
 have f2:ed.a<ed.b:=(by simp [aA,aC] at f2;omega);((conv=>whnf);apply bm<;>intro f3);rotate_left
 ·have f3:¬ ed.b<l.length:=(by simp [aA,aC] at f3;omega);(conv=>whnf);rw [CE hlt (pA hed (by omega))]
 have f3:ed.b<l.length:=(by simp [aA,aC] at f3;omega);((conv=>whnf);apply bm<;>intro f4);rotate_left
 ·have f4:¬ -1≤ed.n:=(by simp [aA,aC] at f4;omega);(conv=>whnf);rw [CE hlt (pA hed (by omega))]
 have f4 : -1≤ed.n:=(by simp [aA,aC] at f4;omega);((conv=>whnf);apply bm<;>intro f5)
 ·have f5:200≤ed.n:=(by simp [aA,aC] at f5;omega);(conv=>whnf);rw [CE hlt (pA hed (by omega))]
 have f5:ed.n<200:=(by simp [aA,aC] at f5;omega);((conv=>whnf);apply bm<;>intro f6);rotate_left
 ·have f6:i=0:=(by simp [aA,aC] at f6;omega);have hyes:KJ l m i=true:=BP hed ⟨f1,f2,f3,f4,f5⟩ (by simp [f6]);((conv=>whnf);apply bm<;>intro k1)
  ·((conv=>whnf);apply bm<;>intro k2)
   ·((conv=>whnf);apply bm<;>intro k3)
    ·((conv=>whnf);apply bm<;>intro k4)
     ·((conv=>whnf);apply bm<;>intro k5)
      ·(conv=>whnf);refine⟨m.length - (i+1),by omega,?_⟩;refine aJ (e0:=DT l.length m.length c2 (j+1)) (h0:=bP l m c1 c2 n (oG m (List.replicate l.length false) (i+1))) (n0:=4) ⟨i+1,j+1,by omega,by omega,rfl,fun t ht=>?_,rfl,rfl,rfl⟩ ?_ ?_ (by decide)
       ·by_cases hti:t=i
        ·rw [hti];exact hyes
        exact hed0 t (by omega)
       ·unfold DT;((repeat' refine iE rfl rfl ?_);exact iN)
       unfold bP cY cR aL;have bT:=WL (s:=s) (a:=ed.a.toNat) (b:=ed.b.toNat) (o1:=0+ed.a.toNat*1) (o2:=0+ed.b.toNat*1) (by omega) (by omega) (by omega) (by omega);rw [nxt];((repeat'(first|refine iW rfl rfl (bB (aD gP _) bT) ?_|refine iF rfl rfl ?_|refine iC rfl rfl rfl ?_|refine iJ rfl rfl rfl rfl ?_));exact iN)
      exfalso;simp [aA,aC,aF] at k5;omega
     have hpl:(eJ (flat gP.fl s) (0+ed.a.toNat*1) [.bool true]).length=l.length:=(by rw [dR (by rw [hsl];show 0+ed.a.toNat*1+1≤l.length;omega)];exact hsl);have k4:(0+ed.b.toNat*1+1).ble (eJ (flat gP.fl s) (0+ed.a.toNat*1) [.bool true]).length=false:=k4;rw [hpl] at k4;exact fI k4 (by omega)
    exfalso;simp [aA,aC] at k3;omega
   rw [hsl] at k2;exact fI k2 (by show 0+ed.a.toNat*1+1≤l.length;omega)
  exfalso;simp [aA,aC] at k1;omega
 have f6:0<i:=(by simp [aA,aC] at f6;omega);((conv=>whnf);apply bm<;>intro f7);rotate_left
 ·exfalso;simp [aA,aC,aF] at f7;omega
 ((conv=>whnf);apply bm<;>intro f8);rotate_left
 ·exfalso;simp [aA,aC] at f8;omega
 (conv=>whnf);refine iU (H7 m 0 (i:=i - 1) (by omega) rfl (by decide) ?_) ?_
 ·show _+Int.toNat (j - 1)*5+0=_;omega
 ((conv=>whnf);apply bm<;>intro f9);rotate_left
 ·exfalso;simp [aA,aC,aF] at f9;omega
 ((conv=>whnf);apply bm<;>intro f10);rotate_left
 ·exfalso;simp [aA,aC] at f10;omega
 (conv=>whnf);refine iU (H7 m 1 (i:=i - 1) (by omega) rfl (by decide) ?_) ?_
 ·show _+Int.toNat (j - 1)*5+1=_;omega
 generalize hd0:bO m (i - 1)=dd;(conv=>whnf);refine⟨[iO dd.a ed.a,iO dd.b ed.b],⟨rfl,_,_,_,_,rfl,rfl⟩,?_⟩;((conv=>whnf);apply bm<;>intro f11)
 ·have f11:bfE dd ed=false:=by
   rw [XP];have:0≤orI (iO dd.a ed.a) (iO dd.b ed.b):=(by simpa [aA,aC] using f11);exact decide_eq_false (by omega)
  (conv=>whnf);rw [CE hlt (VN hed hd0 (by omega) f11)]
 have f11:bfE dd ed=true:=by
  rw [XP];have:¬ 0≤orI (iO dd.a ed.a) (iO dd.b ed.b):=(by simpa [aA,aC] using f11);exact decide_eq_true (by omega)
 have hyes:KJ l m i=true:=BP hed ⟨f1,f2,f3,f4,f5⟩ (by rw [hd0,f11,Bool.or_true]);((conv=>whnf);apply bm<;>intro k1);rotate_left
 ·exfalso;simp [aA,aC] at k1;omega
 ((conv=>whnf);apply bm<;>intro k2);rotate_left
 ·rw [hsl] at k2;exact fI k2 (by show 0+ed.a.toNat*1+1≤l.length;omega)
 ((conv=>whnf);apply bm<;>intro k3);rotate_left
 ·exfalso;simp [aA,aC] at k3;omega
 ((conv=>whnf);apply bm<;>intro k4);rotate_left
 ·have hpl:(eJ (flat gP.fl s) (0+ed.a.toNat*1) [.bool true]).length=l.length:=(by rw [dR (by rw [hsl];show 0+ed.a.toNat*1+1≤l.length;omega)];exact hsl);have k4:(0+ed.b.toNat*1+1).ble (eJ (flat gP.fl s) (0+ed.a.toNat*1) [.bool true]).length=false:=k4;rw [hpl] at k4;exact fI k4 (by omega)
 ((conv=>whnf);apply bm<;>intro k5)
 ·(conv=>whnf);refine⟨m.length - (i+1),by omega,?_⟩;refine aJ (e0:=DT l.length m.length c2 (j+1)) (h0:=bP l m c1 c2 n (oG m (List.replicate l.length false) (i+1))) (n0:=4) ⟨i+1,j+1,by omega,by omega,rfl,fun t ht=>?_,rfl,rfl,rfl⟩ ?_ ?_ (by decide)
  ·by_cases hti:t=i
   ·rw [hti];exact hyes
   exact hed0 t (by omega)
  ·unfold DT;((repeat' refine iE rfl rfl ?_);exact iN)
  unfold bP cY cR aL;have bT:=WL (s:=s) (a:=ed.a.toNat) (b:=ed.b.toNat) (o1:=0+ed.a.toNat*1) (o2:=0+ed.b.toNat*1) (by omega) (by omega) (by omega) (by omega);rw [nxt];((repeat'(first|refine iW rfl rfl (bB (aD gP _) bT) ?_|refine iF rfl rfl ?_|refine iC rfl rfl rfl ?_|refine iJ rfl rfl rfl rfl ?_));exact iN)
 exfalso;simp [aA,aC,aF] at k5;omega
theorem apart {F1 F2 G1 G2 s1 s2 t1 t2 c:Int}(hi:G1*s2 - G2*s1=F2*t1 - F1*t2)(hd:G1 - G2=F2 - F1)(hF:F1*F2<0)(hG:G1*G2<0)
  (h1:s1≤c) (h2:s2≤c) (h3:c+1≤t1) (h4:c+1≤t2):False:=by
 have key:∀ {F1 F2 G1 G2 s1 s2 t1 t2:Int},G1*s2 - G2*s1=F2*t1 - F1*t2→G1 - G2=F2 - F1→F1<0→0<F2→0<G1→G2<0→s1≤c→s2≤c→c+1≤t1→c+1≤t2→False:=by
  intro F1 F2 G1 G2 s1 s2 t1 t2 hi hd f1 f2 g1 g2 h1 h2 h3 h4;have e1:=Int.mul_le_mul_of_nonneg_left h2 (Int.le_of_lt g1);have e2:=Int.mul_le_mul_of_nonneg_left h1 (show 0≤-G2 by omega);have e3:=Int.mul_le_mul_of_nonneg_left h3 (Int.le_of_lt f2);have e4:=Int.mul_le_mul_of_nonneg_left h4 (show 0≤-F1 by omega);have d:(G1 - G2)*c=(F2 - F1)*c:=(by rw [hd]);simp only [Int.mul_add,Int.mul_one,Int.neg_mul,Int.sub_mul] at e1 e2 e3 e4 d;omega
 rcases Int.lt_or_le F1 0 with f1|f1
 ·have f2:0<F2:=by
   rcases Int.lt_or_le 0 F2 with h|h
   ·exact h
   have:=Int.mul_nonneg_of_nonpos_of_nonpos (Int.le_of_lt f1) h;omega
  rcases Int.lt_or_le G1 0 with g1|g1
  ·have g2:0<G2:=by
    rcases Int.lt_or_le 0 G2 with h|h
    ·exact h
    have:=Int.mul_nonneg_of_nonpos_of_nonpos (Int.le_of_lt g1) h;omega
   omega
  have g1':0<G1:=by
   rcases Int.lt_or_le 0 G1 with h|h
   ·exact h
   have:G1=0:=(by omega);rw [this] at hG;omega
  have g2:G2<0:=by
   rcases Int.lt_or_le G2 0 with h|h
   ·exact h
   have:=Int.mul_nonneg g1 h;omega
  exact key hi hd f1 f2 g1' g2 h1 h2 h3 h4
 have f1':0<F1:=by
  rcases Int.lt_or_le 0 F1 with h|h
  ·exact h
  have:F1=0:=(by omega);rw [this] at hF;omega
 have f2:F2<0:=by
  rcases Int.lt_or_le F2 0 with h|h
  ·exact h
  have:=Int.mul_nonneg f1 h;omega
 rcases Int.lt_or_le G1 0 with g1|g1
 ·have g2:0<G2:=by
   rcases Int.lt_or_le 0 G2 with h|h
   ·exact h
   have:=Int.mul_nonneg_of_nonpos_of_nonpos (Int.le_of_lt g1) h;omega
  exact key (F1:=F2) (F2:=F1) (G1:=G2) (G2:=G1) (s1:=s2) (s2:=s1) (t1:=t2) (t2:=t1) (by omega) (by omega) f2 f1' g2 g1 h2 h1 h4 h3
 have g2:G2<0:=by
  rcases Int.lt_or_le G2 0 with h|h
  ·exact h
  have:=Int.mul_nonneg g1 h;omega
 omega
theorem R4 {a b:Int}(h:B7 a*B7 b<0):a*b<0:=by
 unfold B7 at h
 split at h <;> split at h <;> first
  |omega
  |(exact Int.mul_neg_of_neg_of_pos (by omega) (by omega))
  |(exact Int.mul_neg_of_pos_of_neg (by omega) (by omega))
  |(split at h <;> first|omega|(exact Int.mul_neg_of_neg_of_pos (by omega) (by omega))|(exact Int.mul_neg_of_pos_of_neg (by omega) (by omega)))
theorem aCT (s t:Sg):aP t.1 t.2 s.1 - aP t.1 t.2 s.2=aP s.1 s.2 t.2 - aP s.1 s.2 t.1:=by
 obtain⟨⟨a,b⟩,⟨c,d⟩⟩:=s;obtain⟨⟨e,f⟩,⟨g,h⟩⟩:=t;simp only [aP,Int.sub_mul,Int.mul_sub,Int.mul_comm,Int.mul_left_comm,Int.mul_assoc];omega
theorem aCd (s t:Sg):aP t.1 t.2 s.1*s.2.1 - aP t.1 t.2 s.2*s.1.1=aP s.1 s.2 t.2*t.1.1 - aP s.1 s.2 t.1*t.2.1:=by
 obtain⟨⟨a,b⟩,⟨c,d⟩⟩:=s;obtain⟨⟨e,f⟩,⟨g,h⟩⟩:=t;simp only [aP,Int.sub_mul,Int.mul_sub,Int.mul_comm,Int.mul_left_comm,Int.mul_assoc];omega
theorem aEo (s t:Sg):aP t.1 t.2 s.1*s.2.2 - aP t.1 t.2 s.2*s.1.2=aP s.1 s.2 t.2*t.1.2 - aP s.1 s.2 t.1*t.2.2:=by
 obtain⟨⟨a,b⟩,⟨c,d⟩⟩:=s;obtain⟨⟨e,f⟩,⟨g,h⟩⟩:=t;simp only [aP,Int.sub_mul,Int.mul_sub,Int.mul_comm,Int.mul_left_comm,Int.mul_assoc];omega
theorem Y4 {a b c d:Int}(h:apI a b c d=true):(∃ k,a≤k∧b≤k∧k+1≤c∧k+1≤d)∨(∃ k,c≤k∧d≤k∧k+1≤a∧k+1≤b):=by
 unfold apI mxI mnI at h;simp only [Bool.or_eq_true,decide_eq_true_eq] at h;rcases h with h|h
 ·refine .inl ⟨if b > a then b else a,?_⟩;split at h <;> split at h <;> omega
 refine .inr ⟨if d > c then d else c,?_⟩;split at h <;> split at h <;> omega
theorem aB5 {s t:Sg}(h:pH s t=true):¬ (aV s.1 s.2 t.1*aV s.1 s.2 t.2<0∧aV t.1 t.2 s.1*aV t.1 t.2 s.2<0):=by
 rintro ⟨h1,h2⟩;have h1:=R4 h1;have h2:=R4 h2;have d1:=aCT s t;have d2:=aCT t s;unfold pH at h;rw [Bool.or_eq_true] at h;rcases h with h|h
 ·rcases Y4 h with ⟨k,a1,a2,a3,a4⟩|⟨k,a1,a2,a3,a4⟩
  ·exact apart (aCd s t) d1 h1 h2 a1 a2 a3 a4
  exact apart (aCd t s) d2 h2 h1 a1 a2 a3 a4
 ·rcases Y4 h with ⟨k,a1,a2,a3,a4⟩|⟨k,a1,a2,a3,a4⟩
  ·exact apart (aEo s t) d1 h1 h2 a1 a2 a3 a4
  exact apart (aEo t s) d2 h2 h1 a1 a2 a3 a4
theorem aHv {s t:Sg}(h:pH s t=true)(p:Pt):¬ (nW p s=true∧nW p t=true):=by
 rintro ⟨h1,h2⟩;simp only [nW,TT,Bool.and_eq_true,decide_eq_true_eq] at h1 h2;obtain⟨⟨⟨x1,x2⟩,y1,y2⟩,_⟩:=h1;obtain⟨⟨⟨x3,x4⟩,y3,y4⟩,_⟩:=h2;unfold pH at h;rw [Bool.or_eq_true] at h;rcases h with h|h
 ·rcases Y4 h with ⟨k,a1,a2,a3,a4⟩|⟨k,a1,a2,a3,a4⟩ <;>
   (split at x1 <;> split at x2 <;> split at x3 <;> split at x4 <;> omega)
 ·rcases Y4 h with ⟨k,a1,a2,a3,a4⟩|⟨k,a1,a2,a3,a4⟩ <;>
   (split at y1 <;> split at y2 <;> split at y3 <;> split at y4 <;> omega)
theorem aDz {s t:Sg}(h:pH s t=true):fF s t=0:=by
 unfold fF;split
 ·rename_i hr;rw [aAw s t hr.1 hr.2];have he:rU s t=[]:=by
   unfold rU;have:∀ p,m9 s t [] p=[]:=fun p=>by
    unfold m9;rw [if_neg (fun hh=>aHv h p ⟨hh.1,hh.2.1⟩)]
   rw [this,this,this,this]
  unfold qC;rw [he];exact if_neg (aB5 h)
 rfl
theorem aEd (s t:Sg):JE s t=fF s t:=by
 unfold JE;split
 ·rename_i h;rw [aDz h]
 rfl
def E1 (v:Pt):Bool:=decide (v.2<0) || (decide (v.2=0)&&decide (v.1<0))
def aMb:Nat × XF:=(171,gX (s1 cP fun v=>(true,.bool (E1 v))))
theorem aQw:cO Go.Proofs.Tryz.prog aMb.1 aMb.2:=x1 cP (xl:=[]) .nil (fun _=>rfl) fun a _=>by
 obtain⟨ax,ay⟩:=a;unfold dE
 repeat' ((conv=>whnf);apply bm<;>intro h)
 all_goals (conv=>whnf)
 all_goals (simp only [oX,L4,jR,mP,beq_iff_eq,beq_eq_false_iff_ne,ne_eq,Bool.not_eq_false,Bool.not_eq_true,decide_eq_true_eq,decide_eq_false_iff_not] at *)
 all_goals (show _=Value.bool (E1 _);unfold E1;simp_all)
def crP (w v:Pt):Int:=w.1*v.2 - w.2*v.1
def VQ (w v:Pt):Int:=if E1 w=E1 v then iO 0 (crP w v) else if E1 v=true then -1 else 1
def aLn:Nat × XF:=(144,gX (s2 cP cP fun w v=>(wide w&&wide v,iv (VQ w v))))
theorem aQs:cO Go.Proofs.Tryz.prog aLn.1 aLn.2:=x2 cP cP (xl:=[aMb,R6]) (.cons aQw (.cons UE .nil)) (fun _ _=>rfl) fun w v hp=>by
 obtain⟨wx,wy⟩:=w;obtain⟨vx,vy⟩:=v;simp only [wide,Bool.and_eq_true,decide_eq_true_eq] at hp;have m1:=rP (a:=wx) (b:=vy) (A:=1000000) (B:=1000000) (by omega) (by omega) (by omega) (by omega);have m2:=rP (a:=wy) (b:=vx) (A:=1000000) (B:=1000000) (by omega) (by omega) (by omega) (by omega);unfold dE
 repeat' ((conv=>whnf);apply bm<;>intro h)
 all_goals (conv=>whnf)
 all_goals first
  |(exfalso;simp [aA,aC,aF] at h;omega)
  |(show iv _=iv (VQ _ _);unfold VQ;simp [aA,aC] at *;simp_all;done)
  |(show iv _=iv (VQ _ _);unfold VQ crP;simp [aA,aC] at *;simp_all)
  |trace_state
structure Dt where
 dx:Int
 dy:Int
 no:Int
 fr:Int
 tt:Int
def tW:El Dt:=⟨fun e=>[iv e.dx,iv e.dy,iv e.no,iv e.fr,iv e.tt],5,fun _=>rfl,fun _=>rfl,by decide⟩
def cA (m:List Dt)(i:Nat):Dt:=m.getD i ⟨0,0,0,0,0⟩
theorem qR {m:List Dt}{i:Nat}(h:i<m.length):cA m i=m[i]:=by
 unfold cA;rw [List.getD_eq_getElem?_getD,List.getElem?_eq_getElem h];rfl
theorem aIO (m:List Dt){i o:Nat}(hi:i<m.length)(ho:o=i*5):pC (flat tW.fl m) o 5=some [iv (cA m i).dx,iv (cA m i).dy,iv (cA m i).no,iv (cA m i).fr,iv (cA m i).tt]:=by
 rw [qR hi];exact vL tW m hi ho
def eU (d:Dt):Pt:=(d.dx,d.dy)
theorem ZQ (m:List Dt){i o:Nat}(hi:i<m.length)(ho:o=i*5):pC (flat tW.fl m) o 2=some [iv (eU (cA m i)).1,iv (eU (cA m i)).2]:=by
 have h1:nth (flat tW.fl m) o=some (iv (cA m i).dx):=by
  rw [qR hi];exact m0 tW m hi (k:=0) rfl (by decide) (by rw [ho];rfl)
 have h2:nth (flat tW.fl m) (o+1)=some (iv (cA m i).dy):=by
  rw [qR hi];exact m0 tW m hi (k:=1) rfl (by decide) (by rw [ho];rfl)
 simp only [pC,h1,h2];rfl
def aEP (h:Heap)(p:Nat)(D:List Dt):Prop:=∃ b c k0 k1 wr g sz r0 wr1 g1 sz1 r1 wr2 g2 sz2 cs n0 c0 n1 c1 F cc,
 look h p=some (.cells wr g sz (.pointer (some ⟨b,0,none⟩)::r0)) ∧
 look h b=some (.cells wr1 g1 sz1 (.slice (some ⟨k0,0,none⟩) n0 c0::.slice (some ⟨k1,0,none⟩) n1 c1::iv F::.slice (some ⟨c,0,none⟩) D.length cc::r1)) ∧
 look h c=some (.cells wr2 g2 sz2 cs)∧cs.take (flat tW.fl D).length=flat tW.fl D
def aFr (D:List Dt):Bool:=D.all fun d=>wide (eU d)
def aBy (D:List Dt)(x y:Int):Int:=VQ (eU (cA D x.toNat)) (eU (cA D y.toNat))
def aAu (D:List Dt)(x y:Int):Bool:=decide (0≤x)&&decide (x<D.length)&&(decide (0≤y)&&decide (y<D.length))&&aFr D
def aEv:Nat × XF:=(143,fun args h nx K=>∃ x y p D,args=[iv x,iv y,.pointer (some ⟨p,0,none⟩)]∧aEP h p D∧dQ (aAu D x y) (K (iv (aBy D x y)) h nx))
def aLA (D:List Dt)(n0 c0 n1 c1:Nat)(F:Int)(cc:Nat):Heap:=[(0,.cells false false 1 [.pointer (some ⟨1,0,none⟩)]),(1,.cells false false 1 [.slice (some ⟨3,0,none⟩) n0 c0,.slice (some ⟨4,0,none⟩) n1 c1,iv F,.slice (some ⟨2,0,none⟩) D.length cc]),(2,.cells false true 5 (flat tW.fl D))]
def aQT (p b c k0 k1:Nat):Nat→Nat
 |0=>p
 |1=>b
 |2=>c
 |3=>k0
 |_=>k1
theorem aM6 {h:Heap}{p nx:Nat}{D:List Dt}(hd:aEP h p D)(x y:Int):∃ n0 c0 n1 c1 F cc,In [iv x,iv y,.pointer (some ⟨0,0,none⟩)] (aLA D n0 c0 n1 c1 F cc) 5 [iv x,iv y,.pointer (some ⟨p,0,none⟩)] h nx:=by
 obtain⟨b,c,k0,k1,wr,g,sz,r0,wr1,g1,sz1,r1,wr2,g2,sz2,cs,n0,c0,n1,c1,F,cc,h1,h2,h3,h4⟩:=hd;refine⟨n0,c0,n1,c1,F,cc,tB (aQT p b c k0 k1) rfl ?_ ?_⟩
 ·refine List.forall_mem_cons.2 ⟨cG rfl,List.forall_mem_cons.2 ⟨cG rfl,List.forall_mem_cons.2 ⟨⟨by decide,rfl⟩,fun _ h=>by cases h⟩⟩⟩
 intro k o hk;unfold aLA at hk;rw [aB] at hk;split at hk
 ·rename_i hb;injection hk with hk;subst hk;rw [← beq_true hb]
  refine⟨by decide,false,1,_,rfl,by decide,(fun h=>by cases h),List.forall_mem_cons.2 ⟨⟨by decide,rfl⟩,fun _ h=>by cases h⟩,wr,g,sz,_,h1,rfl⟩
 rw [aB] at hk;split at hk
 ·rename_i hb;injection hk with hk;subst hk;rw [← beq_true hb]
  refine⟨by decide,false,1,_,rfl,by decide,(fun h=>by cases h),?_,wr1,g1,sz1,_,h2,rfl⟩;refine List.forall_mem_cons.2 ⟨⟨by decide,fun h=>by cases h⟩,List.forall_mem_cons.2 ⟨⟨by decide,fun h=>by cases h⟩,List.forall_mem_cons.2 ⟨cN rfl,List.forall_mem_cons.2 ⟨⟨by decide,fun h=>by cases h⟩,fun _ h=>by cases h⟩⟩⟩⟩
 rw [aB] at hk;split at hk
 ·rename_i hb;injection hk with hk;subst hk;rw [← beq_true hb]
  exact⟨by decide,true,5,_,rfl,by decide,fun _=>aD tW D,fun v hv=>cN (aW (aD tW D) hv),wr2,g2,sz2,cs,h3,by rw [h4];exact (bJ (aD tW D)).symm⟩
 exact bX hk
theorem aO8:cO Go.Proofs.Tryz.prog aEv.1 aEv.2:=by
 refine (gO (S:=fun args0 h0 n0 v1 h1 m=>∃ x y D n1 c1 n2 c2 F cc,aAu D x y=true∧args0=[iv x,iv y,.pointer (some ⟨0,0,none⟩)]∧h0=aLA D n1 c1 n2 c2 F cc∧n0=5∧v1=iv (aBy D x y)∧h1=[]∧m=0) (aH (xl:=[aLn]) (.cons aQs .nil)) ?_).mono ?_ ?_
 ·rintro args0 h0 n0 v1 h1 m ⟨x,y,D,n1,c1,n2,c2,F,cc,hok,rfl,rfl,rfl,rfl,rfl,rfl⟩;refine⟨rfl,fun u _ _=>u=iv (aBy D x y),?_,fun v h nx e=>by rw [e];exact lA rfl⟩;simp only [aAu,Bool.and_eq_true,decide_eq_true_eq] at hok;obtain⟨⟨⟨h0,h1⟩,h2,h3⟩,hw⟩:=hok;have wx:wide (eU (cA D x.toNat))=true:=by
   rw [qR (by omega)];exact List.all_eq_true.1 hw _ (List.getElem_mem _)
  have wy:wide (eU (cA D y.toNat))=true:=by
   rw [qR (by omega)];exact List.all_eq_true.1 hw _ (List.getElem_mem _)
  ((conv=>whnf);apply bm<;>intro a1);rotate_left
  ·exfalso;simp [aA,aC] at a1;omega
  (conv=>whnf);refine n8 (ZQ D (i:=x.toNat) (by omega) ?_) ?_
  ·show _+Int.toNat x*5=_;omega
  ((conv=>whnf);apply bm<;>intro a2)
  ·(conv=>whnf);refine n8 (ZQ D (i:=y.toNat) (by omega) ?_) ?_
   ·show _+Int.toNat y*5=_;omega
   ((conv=>whnf);apply bm<;>intro a3)
   ·(conv=>whnf);rfl
   exfalso;have a3:(wide (eU (cA D x.toNat))&&wide (eU (cA D y.toNat)))=false:=a3;rw [wx,wy] at a3;cases a3
  exfalso;simp [aA,aC] at a2;omega
 ·rintro args h nx K ⟨x,y,p,D,rfl,hd,hx⟩;obtain⟨hb,hx⟩:=aE.1 hx;obtain⟨n0,c0,n1,c1,F,cc,i⟩:=aM6 (nx:=nx) hd x y;refine⟨_,_,5,_,[],0,⟨x,y,D,n0,c0,n1,c1,F,cc,hb,rfl,rfl,rfl,rfl,rfl,rfl⟩,i,?_⟩;exact hx
 rintro args h nx K ⟨x,y,p,D,rfl,hd,hx⟩;obtain⟨hb,hx⟩:=aE.1 hx;exact⟨_,_,_,hx,fun K' hk'=>⟨x,y,p,D,rfl,hd,aI hb hk'⟩⟩
set_option maxHeartbeats 2000000
def aNd (xl:List (Nat × XF))(k:Nat):EP:={ aA with X:=look xl,M:=k }
theorem aI7 {xl:List (Nat × XF)}(h:lP xl)(k:Nat):qH Go.Proofs.Tryz.prog (aNd xl k) where
 ar:=eL.ar
 tab:=eL.tab
 mixed:=eL.mixed
 funcs:=eL.funcs
 xs:=h.look
def FN (s:Sg)(y:Int):Int:=2*(s.2.1 - s.1.1)*s.1.2+(s.2.2 - s.1.2)*(y - 2*s.1.1)
def EI (s:Sg):Int:=s.2.1 - s.1.1
theorem WK {s:Sg}(hs:aM s.1=true∧aM s.2=true){y:Int}(h0:0≤y)(h1:y≤30000):(-200000000≤2*(s.2.1 - s.1.1)*s.1.2∧2*(s.2.1 - s.1.1)*s.1.2≤200000000)∧(-300000000≤(s.2.2 - s.1.2)*(y - 2*s.1.1)∧(s.2.2 - s.1.2)*(y - 2*s.1.1)≤300000000):=by
 obtain⟨h2,h3⟩:=hs;simp only [aM,Bool.and_eq_true,decide_eq_true_eq] at h2 h3;have m1:=rP (a:=2*(s.2.1 - s.1.1)) (b:=s.1.2) (A:=20000) (B:=10000) (by omega) (by omega) (by omega) (by omega);have m2:=rP (a:=s.2.2 - s.1.2) (b:=y - 2*s.1.1) (A:=10000) (B:=30000) (by omega) (by omega) (by omega) (by omega);omega
theorem aCR {s t:Sg}(hs:aM s.1=true∧aM s.2=true)(ht:aM t.1=true∧aM t.2=true){y:Int}(h0:0≤y)(h1:y≤30000):(-10000000000000≤FN s y*(2*EI t)∧FN s y*(2*EI t)≤10000000000000)∧(-5000000000000≤FN s y*EI t∧FN s y*EI t≤5000000000000):=by
 have b1:=WK hs h0 h1;obtain⟨h2,h3⟩:=ht;simp only [aM,Bool.and_eq_true,decide_eq_true_eq] at h2 h3;have e:FN s y=2*(s.2.1 - s.1.1)*s.1.2+(s.2.2 - s.1.2)*(y - 2*s.1.1):=rfl;have e2:EI t=t.2.1 - t.1.1:=rfl;have m1:=rP (a:=FN s y) (b:=2*EI t) (A:=500000000) (B:=20000) (by omega) (by omega) (by omega) (by omega);have m2:=rP (a:=FN s y) (b:=EI t) (A:=500000000) (B:=10000) (by omega) (by omega) (by omega) (by omega);omega
def hgV (s t:Sg)(x:Int):Int:=iO (FN s (2*x+1)*(2*EI t)) (FN t (2*x+1)*(2*EI s))
def okX (x:Int):Bool:=decide (0≤x)&&decide (x≤10000)
def rgS (s:Sg):Bool:=aM s.1&&aM s.2
def aKN:Nat × XF:=(106,gX (s3 cS cS cI fun s t x=>(rgS s&&rgS t&&okX x,iv (hgV s t x))))
theorem aQS:cO Go.Proofs.Tryz.prog aKN.1 aKN.2:=yE (kL (aI7 (xl:=[R6]) (.cons UE .nil) 4) 6).1 fun args v hs=>by
 obtain⟨s,t,x,rfl,e⟩:=aCh cS cS cI hs;injection e with hp e;subst e;clear hs;refine⟨rfl,rfl,?_⟩;simp only [rgS,okX,Bool.and_eq_true,decide_eq_true_eq] at hp;obtain⟨⟨hS,hT⟩,h0,h1⟩:=hp;have b1:=WK hS (y:=2*x+1) (by omega) (by omega);have b2:=WK hT (y:=2*x+1) (by omega) (by omega);have b3:=aCR hS hT (y:=2*x+1) (by omega) (by omega);have b4:=aCR hT hS (y:=2*x+1) (by omega) (by omega);obtain⟨⟨ax,ay⟩,⟨bx,b_y⟩⟩:=s;obtain⟨⟨cx,cy⟩,⟨dx,dy⟩⟩:=t;obtain⟨hS1,hS2⟩:=hS;obtain⟨hT1,hT2⟩:=hT;simp only [aM,Bool.and_eq_true,decide_eq_true_eq] at hS1 hS2 hT1 hT2;unfold hgV;unfold FN EI at *;dsimp only at *
 repeat' (((conv=>whnf);apply bm<;>intro g))
 all_goals (conv=>whnf)
 all_goals first
  |rfl
  |(exfalso;simp [aNd,aA,aC,aF] at g;omega)
theorem XU {l:List Pt}{m:List Ed}(hM:kS l m=true)(hr:l.all aM=true){i:Nat}(hi:i<m.length):aM (aS l m i).1=true∧aM (aS l m i).2=true:=by
 have he:=pL hM hi;have key:∀ a:Int,0≤a→a<l.length→aM (eF l a)=true:=fun a h0 h1=>by
  unfold eF fA;rw [List.getD_eq_getElem?_getD,List.getElem?_eq_getElem (by omega)];exact List.all_eq_true.1 hr _ (List.getElem_mem _)
 exact⟨key _ he.1 he.2.1,key _ he.2.2.1 he.2.2.2⟩
end Go.Aw
end

noncomputable section
namespace Go.Aw
open Go.RowKit
section
variable {α:Type}(E:El α)
theorem aCF {ι ι':Nat→Loc}{B:Nat}{w:World}{sz:Nat}{cs:List Value}{loc:Loc}(hg:dP cs=true)(h:lT ι B w (.cells true false sz cs) loc):lT ι' B w (.cells true false sz cs) loc:=by
 cases loc with
 |nil p=>exact h
 |lay b o e =>
  obtain⟨x1,x2,arr,t,x3,x4,x5⟩:=h;refine⟨x1,x2,arr,t,x3,x4,fun i v hv=>?_⟩;rw [x5 i v hv,nH (aW hg (List.mem_of_getElem? hv)),nH (aW hg (List.mem_of_getElem? hv))]
end
def IJ (k:Nat)(ι:Nat→Loc):Nat→Loc:=fun j=>if j=0 then ι k else ι (j - 1)
theorem JM (k:Nat)(ι:Nat→Loc):IJ k ι 0=ι k:=if_pos rfl
theorem vQ (k:Nat)(ι:Nat→Loc)(j:Nat):IJ k ι (1+j)=ι j:=by
 unfold IJ;rw [if_neg (by omega),Nat.add_sub_cancel_left]
def WU (F:Heap)(nx:Nat):Prop:=1≤nx∧∀ j o,look F j=some o→0<j∧j<nx∧bZ id nx o o
theorem cB {b n0 nx:Nat}{I:KS}{e0 e:List (Nat × Value)}{F:Heap}{o0 o:bV}(hF:WU F n0)(hI:I e0 ((0,o0)::F) n0)(he:∀ p∈e0,look e p.1=some (iM id p.2)∧zR n0 p.2)(ho:bZ id n0 o0 o)(hb:b≤n0) :
  sT b I e ((0,o)::F) nx:=by
 refine⟨e0,(0,o0)::F,n0,id,hI,fun t v hv=>he (t,v) (aY hv),fun k q hk=>?_,fun k k' q q' _ _ e=>e,fun k _=>rfl,hb⟩;rw [aB] at hk;split at hk
 ·rename_i hb1;injection hk with hk;subst hk;have:=beq_true hb1;subst this;exact⟨hF.1,o,rfl,ho⟩
 obtain⟨h1,h2,h3⟩:=hF.2 k q hk;refine⟨h2,q,?_,h3⟩;show look ((0,o)::F) k=some q;rw [aB];rename_i hb1;rw [hb1];exact hk
theorem lD {n:Nat}:∀ (h:Heap) {j:Nat} {o:bV},look h j=some o→look (oD n h) (n+j)=some (shO n o)
 |[],j,o,hl=>(by cases hl)
 |(i,q)::r,j,o,hl=>by
  rw [aB] at hl;simp only [oD];rw [aB];split at hl
  ·rename_i hb;injection hl with hl;subst hl;have:=beq_true hb;subst this;rw [Nat.beq_refl]
  rename_i hb;have hne:Nat.beq (n+i) (n+j)=false:=by
   cases hb':Nat.beq (n+i) (n+j) with
   |false=>rfl
   |true =>
    have:=beq_true hb';have:i=j:=(by omega);subst this;rw [Nat.beq_refl] at hb;cases hb
  rw [hne];exact lD r hl
theorem NO {ι:Nat→Loc}{σ:Nat→Nat}{n:Nat}{v:Value}(h:pU ι n v):pU (kV σ) n v:=by
 cases v with
 |pointer a=>cases a with
  |none=>trivial
  |some a=>exact⟨h.1,rfl⟩
 |slice a l c=>cases a with
  |none=>trivial
  |some a=>exact⟨h.1,fun hf=>by cases hf⟩
 |map a=>cases a with
  |none=>trivial
  |some a=>exact⟨h.1,rfl⟩
 |agg c=>exact h.elim
 |tuple c=>exact h.elim
 |_=>trivial
theorem aCw {ι:Nat→Loc}{σ:Nat→Nat}{n:Nat}{v:Value}(h:jD ι n v):jD (kV σ) n v:=by
 cases v with
 |func f a c =>
  refine⟨?_,fun x hx=>NO (h.2 x hx)⟩;have h1:=h.1;cases f with
  |yield l=>exact⟨h1.1,rfl⟩
  |_=>trivial
 |pointer a=>have:=NO (ι:=ι) (σ:=σ) (n:=n) (v:=.pointer a);cases a <;> exact this h
 |slice a l c=>have:=NO (ι:=ι) (σ:=σ) (n:=n) (v:=.slice a l c);cases a <;> exact this h
 |map a=>have:=NO (ι:=ι) (σ:=σ) (n:=n) (v:=.map a);cases a <;> exact this h
 |agg c=>exact h.elim
 |tuple c=>exact h.elim
 |_=>trivial
section
variable {ι ι0:Nat→Loc}{B n:Nat}{w:World}
theorem aIt {v:Value}(hs:jD ι n v)(hι:∀ j,j<n→ι0 (1+j)=ι j):jD ι0 (1+n) (bY (fun k=>1+k) v) :=
 kH (m:=n) (jN (ι:=ι) (ι':=fun k=>ι0 (1+k)) (Nat.le_refl _) hι hs) (fun k hk=>by omega)
theorem aJu {v:Value}(hs:jD ι n v)(hι:∀ j,j<n→ι0 (1+j)=ι j):cC ι0 (bY (fun k=>1+k) v)=cC ι v:=by
 unfold bY;rw [jZ (n:=1+n) (aIt hs hι)];exact nT (ι:=ι) (ι':=fun k=>ι0 (1+k)) hι hs
theorem aIU {v:Value}(hs:jD ι n v):E4 (1+n) (bY (fun k=>1+k) v) :=
 kH (m:=n) (aCw hs) (fun k hk=>by omega)
theorem aN4 {v:Value}(hs:jD ι n v):bY id (bY (fun k=>1+k) v)=bY (fun k=>1+k) v:=by
 unfold bY;rw [jZ (n:=1+n) (aIU hs)];rfl
theorem aGv {wr g:Bool}{sz:Nat}{cs:List Value}{l:Loc}(h:lT ι B w (.cells wr g sz cs) l)(hs:∀ v∈cs,jD ι n v)(hι:∀ j,j<n→ι0 (1+j)=ι j):lT ι0 B w (shO 1 (.cells wr g sz cs)) l:=by
 have hg:∀ {q:Prop},(g=true→dP cs=true)→g=true→dP (cs.map (bY fun k=>1+k))=true:=fun hq e=>wW fun v hv=>by
  obtain⟨u,hu,rfl⟩:=List.mem_map.1 hv;exact aIC (aW (hq e) hu)
 have key:∀ {Φ:Nat→Value→Prop},(∀ (i:Nat) v,cs[i]? = some v→Φ i (cC ι v))→∀ (i:Nat) v,(cs.map (bY fun k=>1+k))[i]? = some v→Φ i (cC ι0 v):=fun hΦ i v hv=>by
  rw [List.getElem?_map] at hv;obtain⟨u,hu,rfl⟩:=Option.map_eq_some_iff.1 hv;rw [aJu (hs u (List.mem_of_getElem? hu)) hι];exact hΦ i u hu
 cases l with
 |nil p =>
  have h1:cs=[]∧(sz=0∨wr=true→p.isSome=true):=(by cases wr <;> exact h);obtain⟨rfl,hz⟩:=h1;cases wr <;> exact⟨rfl,hz⟩
 |lay b o e =>
  cases wr with
  |true =>
   obtain⟨x1,x2,arr,t,x3,x4,x5⟩:=h;exact⟨x1,hg (q:=True) x2,arr,t,x3,by rw [List.length_map];exact x4,key (Φ:=fun i v=>arr[o+i]? = some v) x5⟩
  |false =>
   obtain⟨x1,x2,x3⟩:=h;exact⟨x1,hg (q:=True) x2,key (Φ:=fun i v=>w.cell? ⟨b,o+i,none⟩=some v) x3⟩
theorem aB1 {wr g:Bool}{sz:Nat}{cs:List Value}{l:Loc}(h:lT ι0 B w (shO 1 (.cells wr g sz cs)) l)(hs:∀ v∈cs,jD ι n v)(hι:∀ j,j<n→ι0 (1+j)=ι j)(hg0:g=true→dP cs=true):lT ι B w (.cells wr g sz cs) l:=by
 have key:∀ {Φ:Nat→Value→Prop},(∀ (i:Nat) v,(cs.map (bY fun k=>1+k))[i]? = some v→Φ i (cC ι0 v))→∀ (i:Nat) v,cs[i]? = some v→Φ i (cC ι v):=fun hΦ i v hv=>by
  rw [← aJu (hs v (List.mem_of_getElem? hv)) hι];exact hΦ i _ (by rw [List.getElem?_map,hv];rfl)
 cases l with
 |nil p =>
  have h1:cs.map (bY fun k=>1+k)=[]∧(sz=0∨wr=true→p.isSome=true):=(by cases wr <;> exact h);have h2:cs=[]:=(by simpa using h1.1);cases wr <;> exact⟨h2,h1.2⟩
 |lay b o e =>
  cases wr with
  |true =>
   obtain⟨x1,x2,arr,t,x3,x4,x5⟩:=h;rw [List.length_map] at x4;exact⟨x1,hg0,arr,t,x3,x4,key (Φ:=fun i v=>arr[o+i]? = some v) x5⟩
  |false =>
   obtain⟨x1,x2,x3⟩:=h;exact⟨x1,hg0,key (Φ:=fun i v=>w.cell? ⟨b,o+i,none⟩=some v) x3⟩
end
theorem aBm (n:Nat)(o:bV):(shO n o).alone=o.alone:=by cases o <;> rfl
section
variable {α:Type}(E:El α)
end
set_option maxRecDepth 100000
set_option maxHeartbeats 2000000
inductive CW where
 |dirs (D:List Dt)
 |cols (l:List Pt) (m:List Ed) (x:Int)
instance:Coe (List Dt) CW:=⟨.dirs⟩
def CW.num:CW→Nat
 |.dirs D=>D.length
 |.cols _ m _=>m.length
def pO:CW→Bool
 |.dirs D=>aFr D
 |.cols l m x=>kS l m&&l.all aM&&okX x
def cmC:CW→Int→Int→Int
 |.dirs D,a,b=>aBy D a b
 |.cols l m x,a,b=>hgV (aS l m a.toNat) (aS l m b.toNat) x
def okC (C:CW)(x y:Int):Bool:=decide (0≤x)&&decide (x<C.num)&&(decide (0≤y)&&decide (y<C.num))&&pO C
def fcC:CW→Nat
 |.dirs _=>143
 |.cols _ _ _=>105
def WB:CW→Nat × Nat→List Value
 |.dirs _,p=>[.pointer (some ⟨p.1,0,none⟩)]
 |.cols _ _ _,p=>[.pointer (some ⟨p.1,0,none⟩),.pointer (some ⟨p.2,0,none⟩)]
def lV (C:CW)(p:Nat × Nat):Value:=.func (.func (fcC C)) #[] ⟨WB C p⟩
def ZE (h:Heap)(p q:Nat)(l:List Pt)(m:List Ed)(x:Int):Prop:=∃ b k0 k1 wr g sz r0 wr1 g1 sz1 r1 wr2 g2 sz2 cs2 wr3 g3 sz3 cs3 wr4 g4 sz4 r4 c0 c1 F,
 look h p=some (.cells wr g sz (.pointer (some ⟨b,0,none⟩)::r0)) ∧
 look h b=some (.cells wr1 g1 sz1 (.slice (some ⟨k0,0,none⟩) l.length c0::.slice (some ⟨k1,0,none⟩) m.length c1::iv F::r1)) ∧
 (look h k0=some (.cells wr2 g2 sz2 cs2)∧cs2.take (flat bC.fl l).length=flat bC.fl l) ∧
 (look h k1=some (.cells wr3 g3 sz3 cs3)∧cs3.take (flat bL.fl m).length=flat bL.fl m) ∧
 look h q=some (.cells wr4 g4 sz4 (iv x::r4))
def aHM (l:List Pt)(m:List Ed)(x:Int)(c0 c1:Nat)(F:Int):Heap:=[(0,.cells false false 1 [.pointer (some ⟨1,0,none⟩)]),(1,.cells false false 1 [.slice (some ⟨3,0,none⟩) l.length c0,.slice (some ⟨4,0,none⟩) m.length c1,iv F]),(2,.cells false true 1 [iv x]),
 (3,.cells false true bC.sz (flat bC.fl l)),(4,.cells false true bL.sz (flat bL.fl m))]
def aN3 (p b q k0 k1:Nat):Nat→Nat
 |0=>p
 |1=>b
 |2=>q
 |3=>k0
 |_=>k1
theorem aEW {h:Heap}{p q nx:Nat}{l:List Pt}{m:List Ed}{x:Int}(hd:ZE h p q l m x){r:List Value}(hr:eX r=true):∃ c0 c1 F,In (r++[.pointer (some ⟨0,0,none⟩),.pointer (some ⟨2,0,none⟩)]) (aHM l m x c0 c1 F) 5 (r++[.pointer (some ⟨p,0,none⟩),.pointer (some ⟨q,0,none⟩)]) h nx:=by
 obtain⟨b0,k0,k1,wr,g,sz,r0,wr1,g1,sz1,r1,wr2,g2,sz2,cs2,wr3,g3,sz3,cs3,wr4,g4,sz4,r4,c0,c1,F,h1,h2,⟨h3,h3t⟩,⟨h4,h4t⟩,h5⟩:=hd;refine⟨c0,c1,F,tB (aN3 p b0 q k0 k1) ?_ ?_ ?_⟩
 ·rw [List.map_append,show r.map (iM (aN3 p b0 q k0 k1))=r from by
   conv=>rhs;rw [← List.map_id r]
   exact List.map_congr_left fun v hv=>gE (cD hr hv)]
  rfl
 ·intro v hv;rcases List.mem_append.1 hv with hv|hv
  ·exact cG (cD hr hv)
  simp only [List.mem_cons,List.not_mem_nil,or_false] at hv;rcases hv with rfl|rfl <;> exact⟨by decide,rfl⟩
 intro k o hk;unfold aHM at hk;rw [aB] at hk;split at hk
 ·rename_i hb;injection hk with hk;subst hk;rw [← beq_true hb]
  refine⟨by decide,false,1,_,rfl,by decide,(fun h=>by cases h),List.forall_mem_cons.2 ⟨⟨by decide,rfl⟩,fun _ h=>by cases h⟩,wr,g,sz,_,h1,rfl⟩
 rw [aB] at hk;split at hk
 ·rename_i hb;injection hk with hk;subst hk;rw [← beq_true hb]
  refine⟨by decide,false,1,_,rfl,by decide,(fun h=>by cases h),?_,wr1,g1,sz1,_,h2,rfl⟩;refine List.forall_mem_cons.2 ⟨⟨by decide,fun h=>by cases h⟩,List.forall_mem_cons.2 ⟨⟨by decide,fun h=>by cases h⟩,List.forall_mem_cons.2 ⟨cN rfl,fun _ h=>by cases h⟩⟩⟩
 rw [aB] at hk;split at hk
 ·rename_i hb;injection hk with hk;subst hk;rw [← beq_true hb]
  exact⟨by decide,true,1,_,rfl,by decide,fun _=>rfl,List.forall_mem_cons.2 ⟨cN rfl,fun _ h=>by cases h⟩,wr4,g4,sz4,_,h5,rfl⟩
 rw [aB] at hk;split at hk
 ·rename_i hb;injection hk with hk;subst hk;rw [← beq_true hb]
  exact⟨by decide,true,_,_,rfl,bC.pos,fun _=>aD bC l,fun v hv=>cN (aW (aD bC l) hv),wr2,g2,sz2,cs2,h3,by rw [h3t];exact (bJ (aD bC l)).symm⟩
 rw [aB] at hk;split at hk
 ·rename_i hb;injection hk with hk;subst hk;rw [← beq_true hb]
  exact⟨by decide,true,_,_,rfl,bL.pos,fun _=>aD bL m,fun v hv=>cN (aW (aD bL m) hv),wr3,g3,sz3,cs3,h4,by rw [h4t];exact (bJ (aD bL m)).symm⟩
 exact bX hk
def aAh:Nat × XF:=(105,fun args h nx K=>∃ a b p q l m x,args=[iv a,iv b,.pointer (some ⟨p,0,none⟩),.pointer (some ⟨q,0,none⟩)]∧ZE h p q l m x∧dQ (okC (.cols l m x) a b) (K (iv (cmC (.cols l m x) a b)) h nx))
theorem aNl:cO Go.Proofs.Tryz.prog aAh.1 aAh.2:=by
 refine (gO (S:=fun args0 h0 n0 v1 h1 j=>∃ a b l m x c0 c1 F,okC (.cols l m x) a b=true∧args0=[iv a,iv b,.pointer (some ⟨0,0,none⟩),.pointer (some ⟨2,0,none⟩)]∧h0=aHM l m x c0 c1 F∧n0=5∧v1=iv (cmC (.cols l m x) a b)∧h1=[]∧j=0) (aH (xl:=[OR,aKN]) (.cons aIl (.cons aQS .nil))) ?_).mono ?_ ?_
 ·rintro args0 h0 n0 v1 h1 j ⟨a,b,l,m,x,c0,c1,F,hok,rfl,rfl,rfl,rfl,rfl,rfl⟩;refine⟨rfl,fun u _ _=>u=iv (cmC (.cols l m x) a b),?_,fun v h nx e=>by rw [e];exact lA rfl⟩;have hok:(decide (0≤a)&&decide (a<(m.length:Int))&&(decide (0≤b)&&decide (b<(m.length:Int)))&&(kS l m&&l.all aM&&okX x))=true:=hok;simp only [Bool.and_eq_true,decide_eq_true_eq] at hok;obtain⟨⟨⟨h0,h1⟩,h2,h3⟩,⟨hM,hR⟩,hx⟩:=hok;have hS:=XU hM hR (i:=a.toNat) (by omega);have hT:=XU hM hR (i:=b.toNat) (by omega);(conv=>whnf);refine⟨l,m,aG bC rfl,aG bL rfl,?_⟩;refine aI (show (kS l m&&(decide (0≤a)&&decide (a<m.length)))=true by rw [hM,decide_eq_true h0,decide_eq_true h1];rfl) ?_;(conv=>whnf);refine⟨l,m,aG bC rfl,aG bL rfl,?_⟩;refine aI (show (kS l m&&(decide (0≤b)&&decide (b<m.length)))=true by rw [hM,decide_eq_true h2,decide_eq_true h3];rfl) ?_;(conv=>whnf);refine aI (show (rgS (aS l m a.toNat)&&rgS (aS l m b.toNat)&&okX x)=true by unfold rgS;rw [hS.1,hS.2,hT.1,hT.2,hx];rfl) ?_;(conv=>whnf);rfl
 ·rintro args h nx K ⟨a,b,p,q,l,m,x,rfl,hd,hx⟩;obtain⟨hb,hx⟩:=aE.1 hx;obtain⟨c0,c1,F,i⟩:=aEW (nx:=nx) hd (r:=[iv a,iv b]) rfl;exact⟨_,_,5,_,[],0,⟨a,b,l,m,x,c0,c1,F,hb,rfl,rfl,rfl,rfl,rfl,rfl⟩,i,hx⟩
 rintro args h nx K ⟨a,b,p,q,l,m,x,rfl,hd,hx⟩;obtain⟨hb,hx⟩:=aE.1 hx;exact⟨_,_,_,hx,fun K' hk'=>⟨a,b,p,q,l,m,x,rfl,hd,aI hb hk'⟩⟩
def O0 (h:Heap)(p:Nat × Nat):CW→Prop
 |.dirs D=>aEP h p.1 D
 |.cols l m x=>ZE h p.1 p.2 l m x
def CQ (xl:List (Nat × XF)):VC:=fun f args h nx K=>(∃ (C:CW) (x y:Int) (p:Nat × Nat),f=fcC C∧args=iv x::iv y::WB C p∧O0 h p C∧dQ (okC C x y) (K (iv (cmC C x y)) h nx))∨CX (look xl) f args h nx K
theorem xC (C:CW)(x y:Int)(p:Nat × Nat)(h:Heap)(nx:Nat)(K:KE)(hC:O0 h p C)(hk:dQ (okC C x y) (K (iv (cmC C x y)) h nx)):CX (look [aEv,aAh]) (fcC C) (iv x::iv y::WB C p) h nx K:=by
 cases C with
 |dirs D =>
  refine⟨x,y,p.1,D,rfl,hC,?_⟩;have e:okC (.dirs D) x y=aAu D x y:=rfl;rw [← e];exact hk
 |cols l m z=>exact⟨x,y,p.1,p.2,l,m,z,rfl,hC,hk⟩
theorem aNp {xl:List (Nat × XF)}(h:lP xl):bF Go.Proofs.Tryz.prog (CQ xl):=by
 intro f args hp nx K hx ι B w H hs;rcases hx with ⟨C,x,y,p,rfl,rfl,hC,hk⟩|hx
 ·exact SB (lP.cons (l:=[aAh]) aO8 (.cons aNl .nil)).look _ _ _ _ _ (xC C x y p hp nx K hC hk) ι B w H hs
 exact SB h.look f args hp nx K hx ι B w H hs
theorem aL8 {xl:List (Nat × XF)}(h:lP xl):eT (CQ xl):=by
 intro f args hp nx K hx;rcases hx with ⟨C,x,y,p,rfl,rfl,hC,hk⟩|hx
 ·obtain⟨hb,hk⟩:=aE.1 hk;exact⟨_,_,_,hk,fun K' hk'=>.inl ⟨C,x,y,p,rfl,rfl,hC,aI hb hk'⟩⟩
 obtain⟨v,h',nx',k1,k2⟩:=HC h.look f args hp nx K hx;exact⟨v,h',nx',k1,fun K' hk'=>.inr (k2 K' hk')⟩
def aNH (xl:List (Nat × XF)):VC:=tT aA none (CQ xl) noY
theorem D3 {xl:List (Nat × XF)}(h:lP xl):bF Go.Proofs.Tryz.prog (aNH xl):=vI eL (aNp h) MU (aL8 h) BK none
def sh1 (p:Nat × Nat):Nat × Nat:=(1+p.1,1+p.2)
def CLt:CW→Nat × Nat→Nat→Prop
 |.dirs _,p,n=>p.1<n
 |.cols _ _ _,p,n=>p.1<n∧p.2<n
theorem aGH {ι:Nat→Loc}{k:Nat}{C:CW}{p:Nat × Nat}:tr ι (lV C p)=tr (IJ k ι) (lV C (sh1 p)):=by
 cases C <;> simp [lV,WB,sh1,tr,eM,cC,nO,eN,vQ]
theorem aG3 {ι:Nat→Loc}{k n:Nat}{C:CW}{p:Nat × Nat}(h:fN ι n (lV C p)):fN (IJ k ι) (1+n) (lV C (sh1 p)):=by
 have key:∀ {q:Nat},pU ι n (.pointer (some ⟨q,0,none⟩))→pU (IJ k ι) (1+n) (.pointer (some ⟨1+q,0,none⟩)):=fun {q} h1 =>
  ⟨by have:=h1.1;show 1+q<1+n;simp only at this;omega,by show (IJ k ι (1+q)).iZ=true;rw [vQ];exact h1.2⟩
 cases C with
 |dirs D=>exact⟨trivial,List.forall_mem_cons.2 ⟨key (h.2 _ (.head _)),fun _ h=>by cases h⟩⟩
 |cols l m x=>exact⟨trivial,List.forall_mem_cons.2 ⟨key (h.2 _ (.head _)),List.forall_mem_cons.2 ⟨key (h.2 _ (.tail _ (.head _))),fun _ h=>by cases h⟩⟩⟩
theorem aIj {F F':Heap}{C:CW}{p:Nat × Nat}{g:Nat→Nat}(hF:∀ j wr gg sz cs,look F j=some (.cells wr gg sz cs)→∃ wr',look F' (g j)=some (.cells wr' gg sz (cs.map (bY g))))(h:O0 F p C):O0 F' (g p.1,g p.2) C:=by
 cases C with
 |dirs D =>
  obtain⟨b,c,k0,k1,wr,gg,sz,r0,wr1,g1,sz1,r1,wr2,g2,sz2,cs,n0,c0,n1,c1,f,cc,h1,h2,h3,h4⟩:=h;obtain⟨w1,e1⟩:=hF _ _ _ _ _ h1;obtain⟨w2,e2⟩:=hF _ _ _ _ _ h2;obtain⟨w3,e3⟩:=hF _ _ _ _ _ h3;refine⟨g b,g c,g k0,g k1,w1,gg,sz,_,w2,g1,sz1,_,w3,g2,sz2,cs.map (bY g),n0,c0,n1,c1,f,cc,e1,e2,e3,?_⟩;rw [← List.map_take,h4];exact bJ (aD tW D)
 |cols l m x =>
  obtain⟨b,k0,k1,wr,gg,sz,r0,wr1,g1,sz1,r1,wr2,g2,sz2,cs2,wr3,g3,sz3,cs3,wr4,g4,sz4,r4,c0,c1,f,h1,h2,⟨h3,h3t⟩,⟨h4,h4t⟩,h5⟩:=h;obtain⟨w1,e1⟩:=hF _ _ _ _ _ h1;obtain⟨w2,e2⟩:=hF _ _ _ _ _ h2;obtain⟨w3,e3⟩:=hF _ _ _ _ _ h3;obtain⟨w4,e4⟩:=hF _ _ _ _ _ h4;obtain⟨w5,e5⟩:=hF _ _ _ _ _ h5;refine⟨g b,g k0,g k1,w1,gg,sz,_,w2,g1,sz1,_,w3,g2,sz2,_,w4,g3,sz3,_,w5,g4,sz4,_,c0,c1,f,e1,e2,⟨e3,?_⟩,⟨e4,?_⟩,e5⟩
  ·rw [← List.map_take,h3t];exact bJ (aD bC l)
  rw [← List.map_take,h4t];exact bJ (aD bL m)
theorem IS {F F':Heap}{C:CW}{p:Nat × Nat}(hF:∀ j wr gg sz cs,look F j=some (.cells wr gg sz cs)→∃ wr',look F' j=some (.cells wr' gg sz cs))(h:O0 F p C):O0 F' p C:=by
 cases C with
 |dirs D =>
  obtain⟨b,c,k0,k1,wr,gg,sz,r0,wr1,g1,sz1,r1,wr2,g2,sz2,cs,n0,c0,n1,c1,f,cc,h1,h2,h3,h4⟩:=h;obtain⟨w1,e1⟩:=hF _ _ _ _ _ h1;obtain⟨w2,e2⟩:=hF _ _ _ _ _ h2;obtain⟨w3,e3⟩:=hF _ _ _ _ _ h3;exact⟨b,c,k0,k1,w1,gg,sz,_,w2,g1,sz1,_,w3,g2,sz2,cs,n0,c0,n1,c1,f,cc,e1,e2,e3,h4⟩
 |cols l m x =>
  obtain⟨b,k0,k1,wr,gg,sz,r0,wr1,g1,sz1,r1,wr2,g2,sz2,cs2,wr3,g3,sz3,cs3,wr4,g4,sz4,r4,c0,c1,f,h1,h2,⟨h3,h3t⟩,⟨h4,h4t⟩,h5⟩:=h;obtain⟨w1,e1⟩:=hF _ _ _ _ _ h1;obtain⟨w2,e2⟩:=hF _ _ _ _ _ h2;obtain⟨w3,e3⟩:=hF _ _ _ _ _ h3;obtain⟨w4,e4⟩:=hF _ _ _ _ _ h4;obtain⟨w5,e5⟩:=hF _ _ _ _ _ h5;exact⟨b,k0,k1,w1,gg,sz,_,w2,g1,sz1,_,w3,g2,sz2,_,w4,g3,sz3,_,w5,g4,sz4,_,c0,c1,f,e1,e2,⟨e3,h3t⟩,⟨e4,h4t⟩,e5⟩
theorem aKL {F:Heap}{p:Nat × Nat}{C:CW}(h:O0 F p C):O0 (oD 1 F) (sh1 p) C:=aIj (g:=fun k=>1+k) (fun j wr gg sz cs hj=>⟨wr,lD F hj⟩) h
theorem aF7 {F:Heap}{p:Nat × Nat}{C:CW}(h:O0 F p C):O0 (eP F) p C:=IS (fun j wr gg sz cs hj=>⟨false,by rw [kX,hj];rfl⟩) h
theorem aDy {F:Heap}{p:Nat × Nat}{nx:Nat}{C:CW}{o:bV}(hF:WU F nx)(h:O0 F p C):O0 ((0,o)::F) p C:=IS (fun j wr gg sz cs hj=>⟨wr,by
 have:=(hF.2 j _ hj).1;rw [aB,show Nat.beq 0 j=false by cases hb:Nat.beq 0 j with|false=>rfl|true=>have:=beq_true hb;omega];exact hj⟩) h
theorem OY {F:Heap}{p:Nat × Nat}{nx:Nat}{C:CW}(hF:WU F nx)(h:O0 F p C):CLt C p nx:=by
 cases C with
 |dirs D =>
  obtain⟨b,c,k0,k1,wr,g,sz,r0,wr1,g1,sz1,r1,wr2,g2,sz2,cs,n0,c0,n1,c1,f,cc,h1,_⟩:=h;exact (hF.2 _ _ h1).2.1
 |cols l m x =>
  obtain⟨b,k0,k1,wr,gg,sz,r0,wr1,g1,sz1,r1,wr2,g2,sz2,cs2,wr3,g3,sz3,cs3,wr4,g4,sz4,r4,c0,c1,f,h1,_,_,_,h5⟩:=h;exact⟨(hF.2 _ _ h1).2.1,(hF.2 _ _ h5).2.1⟩
theorem QJ {F:Heap}{p:Nat × Nat}{nx:Nat}{C:CW}{o:bV}(hF:WU F nx)(h:O0 F p C):O0 (eP ((0,o)::F)) p C:=aF7 (aDy hF h)
def WY (h:Heap):Prop:=∀ j o,look h j=some o→∃ wr g sz cs,o=.cells wr g sz cs
theorem cJ {F:Heap}{k:Nat}{wr g:Bool}{sz:Nat}{cs:List Value}(h:WY F):WY ((k,.cells wr g sz cs)::F):=by
 intro j o hj;rw [aB] at hj;split at hj
 ·injection hj with hj;exact⟨_,_,_,_,hj.symm⟩
 exact h j o hj
theorem aGr {h:Heap}(hc:iX h=true):WY h:=fun j o hj=>qG hc hj
theorem aEk {C:CW}{p:Nat × Nat}:iM id (lV C p)=lV C p:=by cases C <;> simp [lV,WB,iM,tr,eM,cC,nO,eN,kV]
theorem iI {F:Heap}{p:Nat × Nat}{nx:Nat}{C:CW}{o:bV}(hF:WU F nx)(h:O0 F p C):O0 (rem ((0,o)::F) 0) p C:=IS (fun j wr gg sz cs hj=>⟨wr,by
 have:=(hF.2 j _ hj).1;rw [dW,if_neg (by omega),aB,show Nat.beq 0 j=false by cases hb:Nat.beq 0 j with|false=>rfl|true=>have:=beq_true hb;omega];exact hj⟩) h
def TV (s:CW→List Int→List Value→Nat→Option (Bool × List Int)):XF:=fun args h nx K=>∃ k c r p l D,args=.slice (some ⟨k,0,none⟩) l.length c::(r++[lV D p])∧look h k=some (.cells true false 1 (flat aT.fl l))∧WY h∧O0 (rem h k) p D ∧
 (match s D l r c with|some pr=>dQ pr.1 (K (.tuple #[]) (y7 h k (.cells true false 1 (flat aT.fl pr.2))) nx)|none=>False)
section
theorem vP {P:Program}{C:VC}{f:Nat}{s:CW→List Int→List Value→Nat→Option (Bool × List Int)}(hC:bF P C)
  (hs:∀ D l r c l',s D l r c=some (true,l')→eX r=true ∧
   ∀ F nx p,WU F nx→WY F→O0 F p D→C f (.slice (some ⟨0,0,none⟩) l.length c::(r++[lV D p])) ((0,.cells true false 1 (flat aT.fl l))::F) nx (fun v h _=>v=.tuple #[]∧h=(0,.cells true false 1 (flat aT.fl l'))::F)):cO P f (TV s):=by
 refine⟨fun args h nx K hx ι B w H hsc=>?_,fun args h nx K hx=>?_⟩
 ·obtain⟨k,c,r,p,l,D,rfl,hk,hcH,hdir,hx⟩:=hx;split at hx
  case h_2=>exact hx.elim
  rename_i pr e1;obtain⟨b,l'⟩:=pr;obtain⟨rfl,hx⟩:=aE.1 hx;obtain⟨a1,a4⟩:=hs D l r c l' e1;have a2:dP (flat aT.fl l')=true:=aD aT l';have hcp:=hsc (lV D p) (.tail _ (List.mem_append_right _ (.head _)));have hsl:k<nx∧((ι k).iZ=false→l.length=0∧c=0):=hsc _ (.head _);have hcells:∀ j o,look h j=some o→∃ wr g sz cs,o=.cells wr g sz cs:=hcH;have hι0:∀ j,j<nx→IJ k ι (1+j)=ι j:=fun j _=>vQ k ι j;have hF:∀ j q,look (oD 1 (rem h k)) j=some q→∃ i o,j=1+i∧i≠k∧look h i=some o∧q=shO 1 o:=by
   intro j q hq;obtain⟨i,o,e2,e3,e4⟩:=mW _ hq;rw [dW] at e3;split at e3
   ·cases e3
   rename_i hne;exact⟨i,o,e2,hne,e3,e4⟩
  have hFr:WU (oD 1 (rem h k)) (1+nx):=by
   refine⟨by omega,fun j q hq=>?_⟩;obtain⟨i,o,rfl,hne,hi,rfl⟩:=hF j q hq;have hlow:=H.low i o hi;obtain⟨wr,g,sz,cs,rfl⟩:=hcells i o hi;refine⟨by omega,by omega,rfl,rfl,rfl,?_,fun v hv=>?_⟩
   ·rw [List.map_map];exact List.map_congr_left fun v hv=>(aN4 (H.sc i _ hi v hv)).symm
   obtain⟨u,hu,rfl⟩:=List.mem_map.1 hv;exact aIU (H.sc i _ hi u hu)
  have hAll:WY (oD 1 (rem h k)):=fun j q hq=>by
   obtain⟨i,o,_,_,hi,rfl⟩:=hF j q hq;obtain⟨wr,g,sz,cs,rfl⟩:=hcells i o hi;exact⟨_,_,_,_,rfl⟩
  have H0:aU (IJ k ι) B ((0,.cells true false 1 (flat aT.fl l))::oD 1 (rem h k)) (1+nx) w:=by
   refine⟨fun j q hq=>?_,fun j j' q q' hq hq' hne ha b hb=>?_,fun j q hq=>?_,H.size,fun j q hq=>?_⟩
   ·rw [aB] at hq;split at hq
    ·rename_i hb;injection hq with hq;subst hq;have:=beq_true hb;subst this;rw [JM];exact aCF (aD aT l) (H.obj k _ hk)
    obtain⟨i,o,rfl,hne,hi,rfl⟩:=hF j q hq;obtain⟨wr,g,sz,cs,rfl⟩:=hcells i o hi;rw [vQ];exact aGv (H.obj i _ hi) (H.sc i _ hi) hι0
   ·rw [aB] at hq hq';split at hq
    ·rename_i hb1;have:=beq_true hb1;subst this;split at hq'
     ·rename_i hb2;exact absurd (beq_true hb2) hne
     obtain⟨i,o,rfl,hni,hi,rfl⟩:=hF j' q' hq';rw [JM] at hb;rw [vQ];exact H.sep k i _ _ hk hi (fun e=>hni e.symm) rfl b hb
    obtain⟨i,o,rfl,hni,hi,rfl⟩:=hF j q hq;rw [aBm] at ha;rw [vQ] at hb;split at hq'
    ·rename_i hb2;have:=beq_true hb2;subst this;rw [JM];exact H.sep i k _ _ hi hk hni ha b hb
    obtain⟨i',o',rfl,hni',hi',rfl⟩:=hF j' q' hq';rw [vQ];exact H.sep i i' _ _ hi hi' (fun e=>hne (by rw [e])) ha b hb
   ·rw [aB] at hq;split at hq
    ·rename_i hb;rw [← beq_true hb];omega
    exact (hFr.2 j q hq).2.1
   rw [aB] at hq;split at hq
   ·injection hq with hq;subst hq;exact fun v hv=>cN (aW (aD aT l) hv)
   obtain⟨i,o,rfl,hni,hi,rfl⟩:=hF j q hq;obtain⟨wr,g,sz,cs,rfl⟩:=hcells i o hi;intro v hv;obtain⟨u,hu,rfl⟩:=List.mem_map.1 hv;exact aIt (H.sc i _ hi u hu) hι0
  have hrun:=hC f _ _ (1+nx) _ (a4 _ _ (sh1 p) hFr hAll (aKL hdir)) (IJ k ι) B w H0 (fun v hv=>by
   cases hv with
   |head=>exact⟨show 0<1+nx by omega,fun hf=>hsl.2 (by rw [JM] at hf;exact hf)⟩
   |tail _ hm =>
    rcases List.mem_append.1 hm with hm|hm
    ·exact cG (cD a1 hm)
    simp only [List.mem_cons,List.not_mem_nil,or_false] at hm;subst hm;exact aG3 hcp)
  refine⟨hrun.1,?_⟩;have he:((.slice (some ⟨k,0,none⟩) l.length c::(r++[lV D p])):List Value).map (tr ι)=((.slice (some ⟨0,0,none⟩) l.length c::(r++[lV D (sh1 p)])):List Value).map (tr (IJ k ι)):=by
   rw [List.map_cons,List.map_cons,List.map_append,List.map_append];congr 1;congr 1
   ·exact List.map_congr_left fun v hv=>by rw [jH (cD a1 hv),jH (cD a1 hv)]
   exact congrArg (fun v=>[v]) aGH
  rw [he];refine CallsIn.mono hrun.2 fun e w' hret=>?_;cases e with
  |returned u =>
   obtain⟨v,h',nx',ι1,⟨rfl,rfl⟩,q2,q3,q4,q5,q6,rfl⟩:=hret;have hι1:∀ j,j<nx→ι1 (1+j)=ι j:=fun j hj=>(q5 (1+j) (by omega)).trans (vQ k ι j);have hι10:ι1 0=ι k:=(q5 0 (by omega)).trans (JM k ι);have hback:∀ j o,look (y7 h k (.cells true false 1 (flat aT.fl l'))) j=some o→(j=k∧o=.cells true false 1 (flat aT.fl l'))∨(j≠k∧look h j=some o):=by
    intro j o hj;rw [pJ] at hj;split at hj
    ·rename_i e;injection hj with hj;exact .inl ⟨e,hj.symm⟩
    rename_i e;exact .inr ⟨e,hj⟩
   refine⟨.tuple #[],_,nx,ι,hx,?_,⟨fun j o hj=>?_,fun j j' o o' hj hj' hne ha b hb=>?_,fun j o hj=>?_,q3.size,fun j o hj=>?_⟩,q4,fun _ _=>rfl,Nat.le_refl _,?_⟩
   ·exact fun v hv=>(by cases hv)
   ·rcases hback j o hj with ⟨rfl,rfl⟩|⟨hne,hj⟩
    ·have:=q3.obj 0 (.cells true false 1 (flat aT.fl l')) rfl;rw [hι10] at this;exact aCF a2 this
    obtain⟨wr,g,sz,cs,rfl⟩:=hcells j o hj;have hlow:=H.low j _ hj;have h1:look ((0,.cells true false 1 (flat aT.fl l'))::oD 1 (rem h k)) (1+j)=some (shO 1 (.cells wr g sz cs)):=by
     rw [aB,show Nat.beq 0 (1+j)=false by cases hb:Nat.beq 0 (1+j) with|false=>rfl|true=>have:=beq_true hb;omega];exact lD _ (by rw [dW,if_neg hne];exact hj)
    have h2:=q3.obj _ _ h1;rw [hι1 j hlow] at h2;refine aB1 h2 (H.sc j _ hj) hι1 ?_;intro hgt;have h3:=H.obj j _ hj;cases hl:ι j with
    |nil p =>
     rw [hl] at h3;have h4:cs=[]∧(sz=0∨wr=true→p.isSome=true):=(by cases wr <;> exact h3);rw [h4.1];rfl
    |lay b off ex =>
     rw [hl] at h3;cases wr with
     |true=>exact h3.2.1 hgt
     |false=>exact h3.2.1 hgt
   ·rcases hback j o hj with ⟨e3,e4⟩|⟨hnk,hj2⟩
    ·rcases hback j' o' hj' with ⟨e5,e6⟩|⟨hnk',hj3⟩
     ·exact absurd (e3.trans e5.symm) hne
     exact H.sep j j' _ _ (by rw [e3];exact hk) hj3 hne rfl b hb
    ·rcases hback j' o' hj' with ⟨e5,e6⟩|⟨hnk',hj3⟩
     ·exact H.sep j j' _ _ hj2 (by rw [e5];exact hk) hne ha b hb
     exact H.sep j j' _ _ hj2 hj3 hne ha b hb
   ·rcases hback j o hj with ⟨rfl,rfl⟩|⟨hnk,hj⟩
    ·exact hsl.1
    exact H.low j o hj
   ·rcases hback j o hj with ⟨rfl,rfl⟩|⟨hnk,hj⟩
    ·exact fun v hv=>cN (aW a2 hv)
    exact H.sc j o hj
   simp [tr]
  |_=>exact hret.elim
 obtain⟨k,c,r,p,l,D,rfl,hk,hcH,hdir,hx⟩:=hx;split at hx
 case h_2=>exact hx.elim
 rename_i pr e1;obtain⟨hb,hx⟩:=aE.1 hx;exact⟨_,_,_,hx,fun K' hk'=>⟨k,c,r,p,l,D,rfl,hk,hcH,hdir,by rw [e1];exact aI hb hk'⟩⟩
end
def oN (L:List Int)(x y:Nat):List Int:=(L.set x (aK L y)).set y (aK L x)
theorem jP (L:List Int)(x y:Nat):(oN L x y).length=L.length:=by simp [oN]
theorem F5 {L:List Int}{x y o1 o2:Nat}(h1:o1=x*1)(h2:o2=y*1)(hx:x<L.length)(hy:y<L.length):eJ (eJ (flat aT.fl L) o1 [iv (aK L y)]) o2 [iv (aK L x)]=flat aT.fl (oN L x y):=by
 rw [h1,h2,NM _ _ _ hx,NM _ _ _ (by rw [List.length_set];exact hy)];rfl
def qQ (L:List Int)(a b:Nat):Nat→List Int
 |0=>L
 |i+1=>oN (qQ L a b i) (a+i) (b+i)
theorem jM (L:List Int)(a b:Nat):∀ i,(qQ L a b i).length=L.length
 |0=>rfl
 |i+1=>by unfold qQ;rw [jP];exact jM L a b i
def aLE (D:CW)(l:List Int)(r:List Value)(c:Nat):Option (Bool × List Int):=match r with
 |[.int .i64 a,.int .i64 b,.int .i64 n]=>some (decide (0≤a)&&decide (0≤b)&&decide (0≤n)&&decide (a+n≤l.length)&&decide (b+n≤l.length)&&decide (l.length≤1000000),qQ l a.toNat b.toNat n.toNat)
 |_=>none
theorem aDY {D:CW}{l:List Int}{r:List Value}{c:Nat}{l':List Int}(h:aLE D l r c=some (true,l')):∃ a b n:Int,r=[iv a,iv b,iv n]∧0≤a∧0≤b∧0≤n∧a+n≤l.length∧b+n≤l.length∧l.length≤1000000∧l'=qQ l a.toNat b.toNat n.toNat:=by
 unfold aLE at h;split at h
 ·rename_i a b n;injection h with h;injection h with h1 h2;simp only [Bool.and_eq_true,decide_eq_true_eq] at h1;exact⟨a,b,n,rfl,h1.1.1.1.1.1,h1.1.1.1.1.2,h1.1.1.1.2,h1.1.1.2,h1.1.2,h1.2,h2.symm⟩
 ·cases h
def aAP (N c:Nat)(a b n j:Int):List (Nat × Value):=[(0,.slice (some ⟨0,0,none⟩) N c),(1,iv a),(2,iv b),(3,iv n),(10,iv j)]
theorem dG {nx N c k:Nat}{e:List (Nat × Value)}(h:1≤nx)(he:look e k=some (.slice (some ⟨0,0,none⟩) N c)):look e k=some (iM id (.slice (some ⟨0,0,none⟩) N c))∧zR nx (.slice (some ⟨0,0,none⟩) N c):=⟨he,h,fun h=>by cases h⟩
def aDw:Nat × XF:=(199,TV aLE)
theorem aOc:cO Go.Proofs.Tryz.prog aDw.1 aDw.2:=vP (aH (xl:=[]) .nil) fun D l r c l' hs=>by
 obtain⟨a,b,n,rfl,ha,hb,hn,han,hbn,hl,rfl⟩:=aDY hs;refine⟨rfl,fun F nx p hF hC hD=>?_⟩;(conv=>whnf);refine⟨fun q e h nx'=>∃ (i:Nat) (j:Int),j=i∧i≤n.toNat∧q=n.toNat - i∧e=aAP l.length c a b n j∧h=(0,.cells true false 1 (flat aT.fl (qQ l a.toNat b.toNat i)))::F∧nx'=nx,⟨n.toNat,?_⟩,?_⟩
 ·refine cB (e0:=aAP l.length c a b n 0) (o0:=.cells true false 1 (flat aT.fl l)) (n0:=nx) hF ⟨0,0,rfl,Nat.zero_le _,rfl,rfl,rfl,rfl⟩ ?_ (aO (aD _ _)) (Nat.le_refl _);unfold aAP;refine List.forall_mem_cons.2 ⟨dG hF.1 rfl,?_⟩;((repeat' refine iE rfl rfl ?_);exact iN)
 rintro q e h nx' ⟨i,j,hj,hi,rfl,rfl,rfl,rfl⟩;have sl:=jM l a.toNat b.toNat i;have nxt:qQ l a.toNat b.toNat (i+1)=oN (qQ l a.toNat b.toNat i) (a.toNat+i) (b.toNat+i):=rfl;generalize hs0:qQ l a.toNat b.toNat i=L at sl nxt;have hl1:(flat aT.fl L).length=L.length:=(by rw [bE];exact Nat.mul_one _);unfold aAP;((conv=>whnf);apply bm<;>intro h1);rotate_left
 ·have hge:i=n.toNat:=(by simp [aA,aC] at h1;omega);(conv=>whnf);exact⟨rfl,by rw [← hs0,hge]⟩
 have hlt:i<n.toNat:=(by simp [aA,aC] at h1;omega);have bT:=F5 (L:=L) (x:=a.toNat+i) (y:=b.toNat+i) (o1:=0+(a+j).toNat*1) (o2:=0+(b+j).toNat*1) (by omega) (by omega) (by omega) (by omega)
 repeat' first
  |(((conv=>whnf);apply bm<;>intro g))
  |((conv=>whnf)
    refine iU (iA L (i:=a.toNat+i) (by omega) ?_) ?_
    ·show _+Int.toNat (a+j)*1=_;omega)
  |((conv=>whnf)
    refine iU (iA L (i:=b.toNat+i) (by omega) ?_) ?_
    ·show _+Int.toNat (b+j)*1=_;omega)
 all_goals first
  |(exfalso;simp [aA,aC,aF] at g;omega)
  |(have g:(0+(a+j).toNat*1+1).ble (flat aT.fl L).length=false:=g
    rw [hl1] at g;exact fI g (by omega))
  |(have g:(0+(b+j).toNat*1+1).ble (eJ (flat aT.fl L) (0+(a+j).toNat*1) [iv (aK L (b.toNat+i))]).length=false:=g
    rw [dR (by rw [hl1];show 0+(a+j).toNat*1+1≤L.length;omega),hl1] at g;exact fI g (by omega))
  |skip
 (conv=>whnf);refine⟨n.toNat - (i+1),by omega,?_⟩;refine cB (e0:=aAP l.length c a b n (j+1)) (o0:=.cells true false 1 (flat aT.fl (oN L (a.toNat+i) (b.toNat+i)))) (n0:=nx') hF ⟨i+1,j+1,by omega,by omega,rfl,rfl,by rw [nxt],rfl⟩ ?_ (bB (aD _ _) bT) (Nat.le_refl _);unfold aAP;refine List.forall_mem_cons.2 ⟨dG hF.1 rfl,?_⟩;((repeat' refine iE rfl rfl ?_);exact iN)
def j9 (m:Nat):Nat→List Int→Nat→Nat→List Int
 |0,L,_,_=>L
 |k+1,L,i,j=>if i=j then qQ L (m - i) m i else if j<i then j9 m k (qQ L (m - i) m j) (i - j) j else j9 m k (qQ L (m - i) (m+j - i) i) i (j - i)
def aLo (D:CW)(l:List Int)(r:List Value)(c:Nat):Option (Bool × List Int):=match r with
 |[.int .i64 a,.int .i64 m,.int .i64 b]=>some (decide (0≤a)&&decide (a<m)&&decide (m<b)&&decide (b≤l.length)&&decide (l.length≤1000000),j9 m.toNat ((m - a).toNat+(b - m).toNat) l (m - a).toNat (b - m).toNat)
 |_=>none
theorem aFy {D:CW}{l:List Int}{r:List Value}{c:Nat}{l':List Int}(h:aLo D l r c=some (true,l')):∃ a m b:Int,r=[iv a,iv m,iv b]∧0≤a∧a<m∧m<b∧b≤l.length∧l.length≤1000000∧l'=j9 m.toNat ((m - a).toNat+(b - m).toNat) l (m - a).toNat (b - m).toNat:=by
 unfold aLo at h;split at h
 ·rename_i a m b;injection h with h;injection h with h1 h2;simp only [Bool.and_eq_true,decide_eq_true_eq] at h1;exact⟨a,m,b,rfl,h1.1.1.1.1,h1.1.1.1.2,h1.1.1.2,h1.1.2,h1.2,h2.symm⟩
 ·cases h
def TK (N c:Nat)(m i j:Int)(D:CW)(p:Nat × Nat):List (Nat × Value):=[(0,.slice (some ⟨0,0,none⟩) N c),(2,iv m),(4,lV D p),(10,iv i),(11,iv j)]
theorem vA {C:CW}{p:Nat × Nat}:mE (Array.mk (WB C p)).toList=true:=by cases C <;> rfl
theorem dZ {C:CW}{nx k:Nat}{p:Nat × Nat}{e:List (Nat × Value)}(h:CLt C p nx)(he:look e k=some (lV C p)):look e k=some (iM id (lV C p))∧zR nx (lV C p) :=
 ⟨by rw [aEk];exact he,trivial,by
  cases C with
  |dirs D=>exact List.forall_mem_cons.2 ⟨⟨h,rfl⟩,fun _ h=>by cases h⟩
  |cols l m x=>exact List.forall_mem_cons.2 ⟨⟨h.1,rfl⟩,List.forall_mem_cons.2 ⟨⟨h.2,rfl⟩,fun _ h=>by cases h⟩⟩⟩
def aEL:Nat × XF:=(195,TV aLo)
theorem aNy:cO Go.Proofs.Tryz.prog aEL.1 aEL.2:=vP (aH (xl:=[aDw]) (.cons aOc .nil)) fun D l r c l' hs=>by
 obtain⟨a,m,b,rfl,ha,ham,hmb,hb,hl,rfl⟩:=aFy hs;refine⟨rfl,fun F nx p hF hC hD=>?_⟩;have hp:=OY hF hD;((conv=>whnf);apply bm<;>intro g1);rotate_left
 ·exfalso;simp [aA,aC,aF] at g1;omega
 ((conv=>whnf);apply bm<;>intro g2);rotate_left
 ·exfalso;simp [aA,aC,aF] at g2;omega
 (conv=>whnf)
 refine⟨fun q e h nx'=>∃ (i j k:Nat) (x y:Int) (L:List Int),x=i∧y=j∧1≤i∧1≤j∧i≤m.toNat∧m.toNat+j≤l.length∧i+j≤k∧q=i+j∧L.length=l.length ∧
  j9 m.toNat ((m - a).toNat+(b - m).toNat) l (m - a).toNat (b - m).toNat=j9 m.toNat k L i j∧e=TK l.length c m x y D p∧h=(0,.cells true false 1 (flat aT.fl L))::F∧nx'=nx,⟨(m - a).toNat+(b - m).toNat,?_⟩,?_⟩
 ·refine cB (e0:=TK l.length c m (m - a) (b - m) D p) (o0:=.cells true false 1 (flat aT.fl l)) (n0:=nx) hF ⟨(m - a).toNat,(b - m).toNat,_,m - a,b - m,l,by omega,by omega,by omega,by omega,by omega,by omega,Nat.le_refl _,rfl,rfl,rfl,rfl,rfl,rfl⟩ ?_ (aO (aD _ _)) (Nat.le_refl _);unfold TK;refine List.forall_mem_cons.2 ⟨dG hF.1 rfl,List.forall_mem_cons.2 ⟨⟨rfl,cG rfl⟩,List.forall_mem_cons.2 ⟨dZ hp rfl,?_⟩⟩⟩;((repeat' refine iE rfl rfl ?_);exact iN)
 rintro q e h nx' ⟨i,j,k,x,y,L,hx,hy,hi1,hj1,hi,hj,hk,rfl,hL,hrot,rfl,rfl,rfl⟩;unfold TK;((conv=>whnf);apply bm<;>intro h1);rotate_left
 ·have h1:i=j:=by
   have:x=y:=(by simpa [aA,aC] using h1);omega
  obtain⟨k',rfl⟩:∃ k',k=k'+1:=⟨k - 1,by omega⟩;((conv=>whnf);apply bm<;>intro h3)
  ·(conv=>whnf);refine⟨0,c,[iv (m - x),iv m,iv x],p,L,D,by rw [hL];rfl,rfl,?_,?_,?_⟩
   ·exact cJ hC
   ·exact iI hF hD
   ((conv=>whnf);apply bm<;>intro h4)
   ·(conv=>whnf);refine⟨rfl,?_⟩;rw [hrot]
    conv=>rhs;unfold j9
    rw [if_pos h1];show (0,bV.cells true false 1 (flat aT.fl (qQ L (m - x).toNat m.toNat x.toNat)))::F=_;rw [show (m - x).toNat=m.toNat - i by omega,show x.toNat=i by omega]
   exfalso;have h4:(decide (0≤m - x)&&decide (0≤m)&&decide (0≤x)&&decide (m - x+x≤L.length)&&decide (m+x≤L.length)&&decide (L.length≤1000000))=false:=h4;simp at h4;omega
  exfalso;simp [aA,aC,aF] at h3;omega
 have h1:i≠j:=by
  have:x≠y:=(by simpa [aA,aC] using h1);omega
 obtain⟨k',rfl⟩:∃ k',k=k'+1:=⟨k - 1,by omega⟩;((conv=>whnf);apply bm<;>intro h2)
 ·have h2:j<i:=(by simp [aA,aC] at h2;omega);((conv=>whnf);apply bm<;>intro h3);rotate_left
  ·exfalso;simp [aA,aC,aF] at h3;omega
  (conv=>whnf);refine⟨0,c,[iv (m - x),iv m,iv y],p,L,D,by rw [hL];rfl,rfl,?_,?_,?_⟩
  ·exact cJ hC
  ·exact iI hF hD
  ((conv=>whnf);apply bm<;>intro h4);rotate_left
  ·exfalso;have h4:(decide (0≤m - x)&&decide (0≤m)&&decide (0≤y)&&decide (m - x+y≤L.length)&&decide (m+y≤L.length)&&decide (L.length≤1000000))=false:=h4;simp at h4;omega
  ((conv=>whnf);apply bm<;>intro h5)
  ·(conv=>whnf);refine⟨_,Nat.lt_of_lt_of_le (show i - j+j<i+j by omega) (Nat.le_refl _),?_⟩;refine cB (e0:=TK l.length c m (x - y) y D p) (o0:=.cells true false 1 (flat aT.fl (qQ L (m.toNat - i) m.toNat j))) (n0:=nx') hF ⟨i - j,j,k',x - y,y,_,by omega,hy,by omega,hj1,by omega,hj,by omega,rfl,by rw [jM,hL],?_,rfl,rfl,rfl⟩ ?_ (bB (aD _ _) ?_) (Nat.le_refl _)
   ·rw [hrot]
    conv=>lhs;unfold j9
    rw [if_neg h1,if_pos h2]
   ·unfold TK;refine List.forall_mem_cons.2 ⟨dG hF.1 rfl,List.forall_mem_cons.2 ⟨⟨rfl,cG rfl⟩,List.forall_mem_cons.2 ⟨dZ hp rfl,?_⟩⟩⟩;((repeat' refine iE rfl rfl ?_);exact iN)
   show flat aT.fl (qQ L (m - x).toNat m.toNat y.toNat)=_;rw [show (m - x).toNat=m.toNat - i by omega,show y.toNat=j by omega]
  exfalso;simp [aA,aC,aF] at h5;omega
 have h2:i<j:=(by simp [aA,aC] at h2;omega);((conv=>whnf);apply bm<;>intro h3);rotate_left
 ·exfalso;simp [aA,aC,aF] at h3;omega
 ((conv=>whnf);apply bm<;>intro h3b);rotate_left
 ·exfalso;simp [aA,aC,aF] at h3b;omega
 ((conv=>whnf);apply bm<;>intro h3c);rotate_left
 ·exfalso;simp [aA,aC,aF] at h3c;omega
 (conv=>whnf);refine⟨0,c,[iv (m - x),iv (m+y - x),iv x],p,L,D,by rw [hL];rfl,rfl,?_,?_,?_⟩
 ·exact cJ hC
 ·exact iI hF hD
 ((conv=>whnf);apply bm<;>intro h4);rotate_left
 ·exfalso;have h4:(decide (0≤m - x)&&decide (0≤m+y - x)&&decide (0≤x)&&decide (m - x+x≤L.length)&&decide (m+y - x+x≤L.length)&&decide (L.length≤1000000))=false:=h4;simp at h4;omega
 ((conv=>whnf);apply bm<;>intro h5)
 ·(conv=>whnf);refine⟨_,Nat.lt_of_lt_of_le (show i+(j - i)<i+j by omega) (Nat.le_refl _),?_⟩;refine cB (e0:=TK l.length c m x (y - x) D p) (o0:=.cells true false 1 (flat aT.fl (qQ L (m.toNat - i) (m.toNat+j - i) i))) (n0:=nx') hF ⟨i,j - i,k',x,y - x,_,hx,by omega,hi1,by omega,hi,by omega,by omega,rfl,by rw [jM,hL],?_,rfl,rfl,rfl⟩ ?_ (bB (aD _ _) ?_) (Nat.le_refl _)
  ·rw [hrot]
   conv=>lhs;unfold j9
   rw [if_neg h1,if_neg (by omega)]
  ·unfold TK;refine List.forall_mem_cons.2 ⟨dG hF.1 rfl,List.forall_mem_cons.2 ⟨⟨rfl,cG rfl⟩,List.forall_mem_cons.2 ⟨dZ hp rfl,?_⟩⟩⟩;((repeat' refine iE rfl rfl ?_);exact iN)
  show flat aT.fl (qQ L (m - x).toNat (m+y - x).toNat x.toNat)=_;rw [show (m - x).toNat=m.toNat - i by omega,show (m+y - x).toNat=m.toNat+j - i by omega,show x.toNat=i by omega]
 exfalso;simp [aA,aC,aF] at h5;omega
end Go.Aw
end
