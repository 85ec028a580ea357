/-
  Parts of a proof. No condition.
-/
import Derived.Test.YtjahkcbdecgbhaaGreatQAp
import Derived.Test.YtjahkcbdecgbhaaGreatQAu
set_option linter.unusedSimpArgs false
set_option linter.unusedVariables false
noncomputable section
namespace Go.Aw
set_option maxRecDepth 100000
theorem kW {l:List Pt}{m:List Ed}{n:Int}(h:dG l m n=true):pU l m=true∧3≤m.length∧1≤l.length∧l.length≤400∧m.length≤400∧1≤n∧n≤100:=by
 simp only [dG,Bool.and_eq_true] at h;obtain⟨h1,h2,h3,h4⟩:=h;simp only [ZH,Bool.and_eq_true,decide_eq_true_eq] at h1;have hM:=LU (l:=l) (m:=m) (by omega) (by omega) (fun i hi=>fY h2 hi) (fun i hi=>fY h3 hi);have:=rS hM (i:=0) (by omega);exact⟨hM,by omega,by omega,by omega,by omega,by omega,by omega⟩
theorem nC {l:List Pt}{m:List Ed}{n:Int}(h:iD l m n=true):dG l m n=true:=by
 simp only [iD,Bool.and_eq_true] at h;exact h.1
def faB (m:List Ed)(of:List Int)(i:Nat):Bool:=decide ((cH m i).l=aD of (2*i))&&decide ((cH m i).r=aD of (2*i+1))
def IG (l:List Pt)(m:List Ed)(n:Int):Bool:=iD l m n&&(NR l m&&(NK (eU l m)&&(decide ((eU l m).faces=n)&&oE (faB m (eU l m).of) m.length)))
def vaS (l:List Pt)(m:List Ed)(n:Int):List Value→Option (Bool × Value)
 |[]=>some (decide (l.length≤1000)&&decide (m.length≤1000),.bool (IG l m n))
 |_=>none
theorem aDJ {l:List Pt}{m:List Ed}{n:Int}{r:List Value}{v:Value}(h:vaS l m n r=some (true,v)):r=[]∧l.length≤1000∧m.length≤1000∧v=.bool (IG l m n):=by
 unfold vaS at h;split at h
 ·injection h with h;injection h with h1 h2;simp only [Bool.and_eq_true,decide_eq_true_eq] at h1;exact⟨rfl,h1.1,h1.2,h2.symm⟩
 ·cases h
def e70 (j:Int):List (Nat × Value):=[(1,.pointer (some ⟨2,0,none⟩)),(4,.pointer (some ⟨4,0,none⟩)),(5,iv j)]
def h70 (l:List Pt)(m:List Ed)(c1 c2:Nat)(n:Int)(of:List Int)(F:Int)(K:Bool):Heap:=(4,.cells true false 1 [.slice (some ⟨3,0,none⟩) of.length of.length,iv F,.bool K])::(3,.cells true false 1 (flat aP.fl of))::cJ l m c1 c2 n
def aK1:Nat × XF:=(70,mX aT aW vaS)
theorem aLO:cT Go.Proofs.Tryz.prog aK1.1 aK1.2:=uG aT aW (aL (xl:=[aBn,aBb,aCb]) (.cons aJB (.cons aJi (.cons aKu .nil)))) fun l m n r v hs=>by
 obtain⟨rfl,hl,hm,rfl⟩:=aDJ hs;clear hs;refine⟨rfl,rfl,fun c1 c2=>?_⟩;(conv=>whnf);refine⟨l,m,aJ aT rfl,aJ aW rfl,?_⟩;((conv=>whnf);apply bm<;>intro a1);rotate_left
 ·exfalso;have a1:(decide (l.length≤1000)&&decide (m.length≤1000))=false:=a1;rw [decide_eq_true hl,decide_eq_true hm] at a1;cases a1
 ((conv=>whnf);apply bm<;>intro a2)
 ·have a2:iD l m n=false:=(by simpa [aA,aC] using a2);(conv=>whnf);rw [IG,a2];rfl
 have a2:iD l m n=true:=(by simpa [aA,aC] using a2);obtain⟨hM,h3,h1l,_⟩:=kW (nC a2);(conv=>whnf);refine⟨l,m,aJ aT rfl,aJ aW rfl,?_⟩;((conv=>whnf);apply bm<;>intro a3);rotate_left
 ·exfalso;have a3:(pU l m&&decide (1≤l.length))=false:=a3;rw [hM,decide_eq_true h1l] at a3;cases a3
 (conv=>whnf);refine⟨_,_,_,[],l,m,rfl,aJ aT rfl,aJ aW rfl,?_⟩;((conv=>whnf);apply bm<;>intro a4);rotate_left
 ·exfalso;have a4:(pU l m&&decide (1≤m.length))=false:=a4;rw [hM,decide_eq_true (show 1≤m.length by omega)] at a4;cases a4
 have flen:(eU l m).of.length=2*m.length:=vY l m _;have hval:IG l m n=(NR l m&&(NK (eU l m)&&(decide ((eU l m).faces=n)&&oE (faB m (eU l m).of) m.length))):=(by rw [IG,a2,Bool.true_and]);rw [hval];generalize eU l m=st at flen;((conv=>whnf);apply bm<;>intro b1);rotate_left
 ·have b1:NR l m=false:=(by simpa [aA,aC] using b1);(conv=>whnf);rw [b1];rfl
 have b1:NR l m=true:=(by simpa [aA,aC] using b1);((conv=>whnf);apply bm<;>intro b2);rotate_left
 ·have b2:NK st=false:=(by simpa [aA,aC] using b2);(conv=>whnf);rw [b1,b2];rfl
 have b2:NK st=true:=(by simpa [aA,aC] using b2);((conv=>whnf);apply bm<;>intro b3)
 ·have b3:¬ st.faces=n:=(by simpa [aA,aC] using b3);(conv=>whnf);rw [b1,b2,decide_eq_false b3];rfl
 have b3:st.faces=n:=(by simpa [aA,aC] using b3);(conv=>whnf);rw [b1,b2,decide_eq_true b3,Bool.true_and,Bool.true_and,Bool.true_and];refine⟨fun q e h nx=>∃ (i:Nat) (j:Int),j=i∧i≤m.length∧q=m.length - i∧(∀ t,t<i→faB m st.of t=true)∧e=e70 j∧h=h70 l m c1 c2 n st.of st.faces true∧nx=5,⟨m.length,?_⟩,?_⟩
 ·refine aO (e0:=e70 0) (h0:=h70 l m c1 c2 n st.of st.faces true) (n0:=5) ⟨0,0,rfl,Nat.zero_le _,rfl,fun t ht=>absurd ht (Nat.not_lt_zero t),rfl,rfl,rfl⟩ ?_ ?_ (by decide)
  ·unfold e70;((repeat' refine iE rfl rfl ?_);exact iN)
  unfold h70 cJ aX aB;((repeat'(first|refine iF rfl rfl ?_|refine iC rfl rfl rfl ?_|refine iJ rfl rfl rfl rfl ?_));exact iN)
 rintro q e h nx ⟨i,j,hj,hi,rfl,hfa,rfl,rfl,rfl⟩;unfold e70 h70 cJ aX aB;((conv=>whnf);apply bm<;>intro d1);rotate_left
 ·have hge:i=m.length:=(by simp [aA,aC] at d1;omega);(conv=>whnf);rw [fC (fun t ht=>hfa t (by omega))]
 have hlt:i<m.length:=(by simp [aA,aC] at d1;omega);((conv=>whnf);apply bm<;>intro d2);rotate_left
 ·exfalso;simp [aA,aC] at d2;omega
 (conv=>whnf);refine eC (OO m 2 (i:=i) hlt rfl (by decide) ?_) ?_
 ·show _+Int.toNat j*5+2=_;omega
 ((conv=>whnf);apply bm<;>intro d3);rotate_left
 ·exfalso;simp [aA,aC,aF] at d3;omega
 ((conv=>whnf);apply bm<;>intro d4);rotate_left
 ·exfalso;simp [aA,aC] at d4;omega
 (conv=>whnf);refine eC (bY st.of (i:=2*i) (by omega) ?_) ?_
 ·show _+Int.toNat (2*j)*1=_;omega
 ((conv=>whnf);apply bm<;>intro d5);rotate_left
 ·have d5:¬ (cH m i).l=aD st.of (2*i):=(by simpa [aA,aC] using d5);(conv=>whnf);rw [fN hlt (show faB m st.of i=false by rw [faB,decide_eq_false d5,Bool.false_and])]
 have d5:(cH m i).l=aD st.of (2*i):=(by simpa [aA,aC] using d5);((conv=>whnf);apply bm<;>intro d6);rotate_left
 ·exfalso;simp [aA,aC] at d6;omega
 (conv=>whnf);refine eC (OO m 3 (i:=i) hlt rfl (by decide) ?_) ?_
 ·show _+Int.toNat j*5+3=_;omega
 ((conv=>whnf);apply bm<;>intro d7);rotate_left
 ·exfalso;simp [aA,aC,aF] at d7;omega
 ((conv=>whnf);apply bm<;>intro d8);rotate_left
 ·exfalso;simp [aA,aC,aF] at d8;omega
 ((conv=>whnf);apply bm<;>intro d9);rotate_left
 ·exfalso;simp [aA,aC] at d9;omega
 (conv=>whnf);refine eC (bY st.of (i:=2*i+1) (by omega) ?_) ?_
 ·show _+Int.toNat (2*j+1)*1=_;omega
 ((conv=>whnf);apply bm<;>intro d10)
 ·have d10:¬ (cH m i).r=aD st.of (2*i+1):=(by simpa [aA,aC] using d10);(conv=>whnf);rw [fN hlt (show faB m st.of i=false by rw [faB,decide_eq_false d10,Bool.and_false])]
 have d10:(cH m i).r=aD st.of (2*i+1):=(by simpa [aA,aC] using d10);((conv=>whnf);apply bm<;>intro d11)
 ·(conv=>whnf);refine⟨m.length - (i+1),by omega,?_⟩;refine aO (e0:=e70 (j+1)) (h0:=h70 l m c1 c2 n st.of st.faces true) (n0:=5) ⟨i+1,j+1,by omega,by omega,rfl,fun t ht=>?_,rfl,rfl,rfl⟩ ?_ ?_ (by decide)
  ·by_cases hti:t=i
   ·rw [hti,faB,decide_eq_true d5,decide_eq_true d10];rfl
   exact hfa t (by omega)
  ·unfold e70;((repeat' refine iE rfl rfl ?_);exact iN)
  unfold h70 cJ aX aB;((repeat'(first|refine iF rfl rfl ?_|refine iC rfl rfl rfl ?_|refine iJ rfl rfl rfl rfl ?_));exact iN)
 exfalso;simp [aA,aC,aF] at d11;omega
def ckS (l:List Pt)(m:List Ed)(n:Int):List Value→Option (Bool × Value)
 |[]=>some (decide (l.length≤1000)&&decide (m.length≤1000),iv (if IG l m n=true then 0 else 1))
 |_=>none
def aLR:Nat × XF:=(18,mX aT aW ckS)
def NT:List Bool→Nat→Int
 |[],_=>-1
 |b::r,i=>if b=false then i else NT r (i+1)
theorem OS:∀ (l:List Bool) (i:Nat),decide (0≤NT l i)=!(l.all id)
 |[],i=>rfl
 |b::r,i=>by
  cases b with
  |false=>simp [NT]
  |true=>simpa [NT] using OS r (i+1)
def ixS (l:List Bool):List Value→Option (Bool × Value)
 |[.bool false]=>some (decide (l.length≤1000000),iv (NT l 0))
 |_=>none
theorem aEd {l:List Bool}{r:List Value}{v:Value}(hs:ixS l r=some (true,v)):r=[.bool false]∧l.length≤1000000∧v=iv (NT l 0):=by
 unfold ixS at hs;split at hs
 ·injection hs with hs;injection hs with h1 h2;exact⟨rfl,by simpa using h1,h2.symm⟩
 ·cases hs
def aA5 (l:List Bool)(c:Nat)(j:Int):List (Nat × Value):=[(0,.slice (some ⟨0,0,none⟩) l.length c),(1,.bool false),(7,iv l.length),(8,iv j)]
def hBo (l:List Bool):Heap:=[(0,.cells false true 1 (flat gI.fl l))]
def aC3:Nat × XF:=(241,lX gI ixS)
theorem aK6:cT Go.Proofs.Tryz.prog aC3.1 aC3.2:=VM gI (aL (xl:=[]) .nil) fun l r v hs=>by
 obtain⟨rfl,hlen,rfl⟩:=aEd hs;refine⟨rfl,rfl,fun c=>?_⟩;(conv=>whnf);refine⟨fun q e h nx=>∃ (i:Nat) (j:Int),j=i∧i≤l.length∧q=l.length - i∧NT l 0=NT (l.drop i) i∧e=aA5 l c j∧h=hBo l∧nx=1,⟨l.length,?_⟩,?_⟩
 ·refine aO (e0:=aA5 l c 0) (h0:=hBo l) (n0:=1) ⟨0,0,rfl,Nat.zero_le _,rfl,rfl,rfl,rfl,rfl⟩ ?_ ?_ (by decide)
  ·unfold aA5;((repeat' refine iE rfl rfl ?_);exact iN)
  unfold hBo;((repeat'(first|refine iF rfl rfl ?_|refine iC rfl rfl rfl ?_|refine iJ rfl rfl rfl rfl ?_));exact iN)
 rintro q e h nx ⟨i,j,hj,hi,rfl,hb,rfl,rfl,rfl⟩;unfold aA5 hBo;((conv=>whnf);apply bm<;>intro h1);rotate_left
 ·have hge:l.length≤i:=(by simp [aA,aC] at h1;omega);(conv=>whnf);rw [hb,List.drop_eq_nil_of_le hge];rfl
 have hlt:i<l.length:=(by simp [aA,aC] at h1;omega);have hd:l.drop i=dD l i::l.drop (i+1):=(by rw [rX hlt];exact List.drop_eq_getElem_cons hlt);rw [hd,NT] at hb;((conv=>whnf);apply bm<;>intro h2);rotate_left
 ·exfalso;simp [aA,aC] at h2;omega
 (conv=>whnf);refine eC (PJ l (i:=i) hlt ?_) ?_
 ·show _+Int.toNat j*1=_;omega
 ((conv=>whnf);apply bm<;>intro h3)
 ·have h3:dD l i=false:=(by simpa [aA,aC] using h3);(conv=>whnf);rw [hb,if_pos h3,hj]
 have h3:¬ dD l i=false:=(by simpa [aA,aC] using h3);((conv=>whnf);apply bm<;>intro h4)
 ·(conv=>whnf);refine⟨l.length - (i+1),by omega,?_⟩;refine aO (e0:=aA5 l c (j+1)) (h0:=hBo l) (n0:=1) ⟨i+1,j+1,by omega,hlt,rfl,by rw [hb,if_neg h3],rfl,rfl,rfl⟩ ?_ ?_ (by decide)
  ·unfold aA5;((repeat' refine iE rfl rfl ?_);exact iN)
  unfold hBo;((repeat'(first|refine iF rfl rfl ?_|refine iC rfl rfl rfl ?_|refine iJ rfl rfl rfl rfl ?_));exact iN)
 exfalso;simp [aA,aC,aF] at h4;omega
def ctS (l:List Bool):List Value→Option (Bool × Value)
 |[.bool false]=>some (decide (l.length≤1000000),.bool (!(l.all id)))
 |_=>none
theorem aDT {l:List Bool}{r:List Value}{v:Value}(hs:ctS l r=some (true,v)):r=[.bool false]∧l.length≤1000000∧v=.bool (!(l.all id)):=by
 unfold ctS at hs;split at hs
 ·injection hs with hs;injection hs with h1 h2;exact⟨rfl,by simpa using h1,h2.symm⟩
 ·cases hs
def VD:Nat × XF:=(208,lX gI ctS)
theorem aG4:cT Go.Proofs.Tryz.prog VD.1 VD.2:=VM gI (aL (xl:=[aC3]) (.cons aK6 .nil)) fun l r v hs=>by
 obtain⟨rfl,hlen,rfl⟩:=aDT hs;refine⟨rfl,rfl,fun c=>?_⟩;(conv=>whnf);refine⟨l,aJ gI rfl,?_⟩;((conv=>whnf);apply bm<;>intro h1)
 ·(conv=>whnf);rw [← OS l 0];rfl
 exact absurd hlen (by simpa using h1)
theorem TT (n:Nat):rep n [.bool false]=flat gI.fl (List.replicate n false):=by
 induction n with
 |zero=>rfl
 |succ n ih=>simp only [List.replicate_succ,flat,← ih];rfl
theorem S9 (n:Nat):rep n [iv 0]=flat aP.fl (List.replicate n 0):=by
 induction n with
 |zero=>rfl
 |succ n ih=>simp only [List.replicate_succ,flat,← ih];rfl
theorem AS (a b:Pt):gC a b=decide (lA a b<0):=by
 unfold gC lA orI jL;by_cases h1:a.1<b.1
 ·simp [h1]
 by_cases h2:b.1<a.1
 ·have h3:¬ a.1=b.1:=(by omega);simp [h1,h2,h3]
 have h3:a.1=b.1:=(by omega);simp only [h1,h2,if_false,h3];by_cases h4:a.2<b.2 <;> by_cases h5:b.2<a.2 <;> simp [h4,h5]
theorem W2 (d e:Ed):bfE d e=decide (orI (jL d.a e.a) (jL d.b e.b)<0):=AS (d.a,d.b) (e.a,e.b)
def liS (l:List Pt)(m:List Ed)(n:Int):List Value→Option (Bool × Value)
 |[]=>some (decide (l.length≤1000)&&decide (m.length≤1000),.bool (dG l m n))
 |_=>none
theorem aF0 {l:List Pt}{m:List Ed}{n:Int}{r:List Value}{v:Value}(h:liS l m n r=some (true,v)):r=[]∧l.length≤1000∧m.length≤1000∧v=.bool (dG l m n):=by
 unfold liS at h;split at h
 ·injection h with h;injection h with h1 h2;simp only [Bool.and_eq_true,decide_eq_true_eq] at h1;exact⟨rfl,h1.1,h1.2,h2.symm⟩
 ·cases h
def QB (N c:Nat)(j:Int):List (Nat × Value):=[(1,.pointer (some ⟨2,0,none⟩)),(35,.slice (some ⟨0,0,none⟩) N c),(36,iv N),(37,iv j)]
def C0 (N M c:Nat)(j:Int):List (Nat × Value):=[(1,.pointer (some ⟨2,0,none⟩)),(5,.slice (some ⟨3,0,none⟩) N N),(66,.slice (some ⟨1,0,none⟩) M c),(67,iv M),(68,iv j)]
def XC:Nat × XF:=(152,mX aT aW liS)
theorem aKg:cT Go.Proofs.Tryz.prog XC.1 XC.2:=uG aT aW (aL (xl:=[X17,aHQ,UO,aCD,VD]) (.cons x17 (.cons aJG (.cons ZI (.cons aGR (.cons aG4 .nil)))))) fun l m n r v hs=>by
 obtain⟨rfl,hl,hm,rfl⟩:=aF0 hs;clear hs;refine⟨rfl,rfl,fun c1 c2=>?_⟩;have hszf:¬ (l.length≤400∧3≤m.length∧m.length≤400∧1≤n∧n≤100)→dG l m n=false:=fun h=>aHd (by
  cases hz:ZH l m n with
  |false=>rfl
  |true=>simp only [ZH,Bool.and_eq_true,decide_eq_true_eq] at hz;exact absurd ⟨hz.1.1.1.1,hz.1.1.1.2,hz.1.1.2,hz.1.2,hz.2⟩ h)
 ((conv=>whnf);apply bm<;>intro a1);rotate_left
 ·have a1:400<l.length:=(by simp [aA,aC] at a1;omega);(conv=>whnf);rw [hszf (by omega)]
 have a1:¬ 400<l.length:=(by simp [aA,aC] at a1;omega);((conv=>whnf);apply bm<;>intro a2);rotate_left
 ·have a2:m.length<3:=(by simp [aA,aC] at a2;omega);(conv=>whnf);rw [hszf (by omega)]
 have a2:¬ m.length<3:=(by simp [aA,aC] at a2;omega);((conv=>whnf);apply bm<;>intro a3);rotate_left
 ·have a3:400<m.length:=(by simp [aA,aC] at a3;omega);(conv=>whnf);rw [hszf (by omega)]
 have a3:¬ 400<m.length:=(by simp [aA,aC] at a3;omega);((conv=>whnf);apply bm<;>intro a4);rotate_left
 ·have a4:n<1:=(by simp [aA,aC] at a4;omega);(conv=>whnf);rw [hszf (by omega)]
 have a4:¬ n<1:=(by simp [aA,aC] at a4;omega);((conv=>whnf);apply bm<;>intro a5)
 ·have a5:100<n:=(by simp [aA,aC] at a5;omega);(conv=>whnf);rw [hszf (by omega)]
 have a5:¬ 100<n:=(by simp [aA,aC] at a5;omega);have hsz:ZH l m n=true:=by
  simp only [ZH,Bool.and_eq_true,decide_eq_true_eq];omega
 clear hszf;(conv=>whnf);refine⟨fun q e h nx=>∃ (i:Nat) (j:Int),j=i∧i≤l.length∧q=l.length - i∧(∀ t,t<i→C8 l t=true)∧e=QB l.length c1 j∧h=cJ l m c1 c2 n∧nx=3,⟨l.length,?_⟩,?_⟩
 ·refine aO (e0:=QB l.length c1 0) (h0:=cJ l m c1 c2 n) (n0:=3) ⟨0,0,rfl,Nat.zero_le _,rfl,fun t ht=>absurd ht (Nat.not_lt_zero t),rfl,rfl,rfl⟩ ?_ ?_ (by decide)
  ·unfold QB;((repeat' refine iE rfl rfl ?_);exact iN)
  unfold cJ aX aB;((repeat'(first|refine iF rfl rfl ?_|refine iC rfl rfl rfl ?_|refine iJ rfl rfl rfl rfl ?_));exact iN)
 rintro q e h nx ⟨i,j,hj,hi,rfl,hpt,rfl,rfl,rfl⟩;unfold QB cJ aX aB;((conv=>whnf);apply bm<;>intro b1)
 ·have hlt:i<l.length:=(by simp [aA,aC] at b1;omega);((conv=>whnf);apply bm<;>intro b2);rotate_left
  ·exfalso;simp [aA,aC] at b2;omega
  (conv=>whnf);refine nN (jP l (i:=i) hlt ?_) ?_
  ·show _+Int.toNat j*2=_;omega
  ((conv=>whnf);apply bm<;>intro b3);rotate_left
  ·have hr:bV (jG l i)=false:=(by simpa [aA,aC] using b3);(conv=>whnf);rw [aBD hlt (show C8 l i=false by rw [C8,hr];rfl)]
  have hr:bV (jG l i)=true:=(by simpa [aA,aC] using b3);((conv=>whnf);apply bm<;>intro b4);rotate_left
  ·have hi0:i=0:=(by simp [aA,aC] at b4;omega);have hyes:C8 l i=true:=(by rw [C8,hr,hi0];rfl);((conv=>whnf);apply bm<;>intro b9)
   ·(conv=>whnf);refine⟨l.length - (i+1),by omega,?_⟩;refine aO (e0:=QB l.length c1 (j+1)) (h0:=cJ l m c1 c2 n) (n0:=3) ⟨i+1,j+1,by omega,by omega,rfl,fun t ht=>?_,rfl,rfl,rfl⟩ ?_ ?_ (by decide)
    ·by_cases hti:t=i
     ·rw [hti];exact hyes
     exact hpt t (by omega)
    ·unfold QB;((repeat' refine iE rfl rfl ?_);exact iN)
    unfold cJ aX aB;((repeat'(first|refine iF rfl rfl ?_|refine iC rfl rfl rfl ?_|refine iJ rfl rfl rfl rfl ?_));exact iN)
   exfalso;simp [aA,aC,aF] at b9;omega
  have hi0:i≠0:=(by simp [aA,aC] at b4;omega);((conv=>whnf);apply bm<;>intro b5);rotate_left
  ·exfalso;simp [aA,aC,aF] at b5;omega
  ((conv=>whnf);apply bm<;>intro b6);rotate_left
  ·exfalso;simp [aA,aC] at b6;omega
  (conv=>whnf);refine nN (jP l (i:=i - 1) (by omega) ?_) ?_
  ·show _+Int.toNat (j - 1)*2=_;omega
  ((conv=>whnf);apply bm<;>intro b8)
  ·have b8:gC (jG l (i - 1)) (jG l i)=false:=by
    rw [AS];have:0≤lA (jG l (i - 1)) (jG l i):=(by simpa [aA,aC] using b8);exact decide_eq_false (by omega)
   (conv=>whnf);rw [aBD hlt (show C8 l i=false by rw [C8,hr,b8,decide_eq_false hi0];rfl)]
  have b8:gC (jG l (i - 1)) (jG l i)=true:=by
   rw [AS];have:¬ 0≤lA (jG l (i - 1)) (jG l i):=(by simpa [aA,aC] using b8);exact decide_eq_true (by omega)
  have hyes:C8 l i=true:=(by rw [C8,hr,b8];simp);((conv=>whnf);apply bm<;>intro b9)
  ·(conv=>whnf);refine⟨l.length - (i+1),by omega,?_⟩;refine aO (e0:=QB l.length c1 (j+1)) (h0:=cJ l m c1 c2 n) (n0:=3) ⟨i+1,j+1,by omega,by omega,rfl,fun t ht=>?_,rfl,rfl,rfl⟩ ?_ ?_ (by decide)
   ·by_cases hti:t=i
    ·rw [hti];exact hyes
    exact hpt t (by omega)
   ·unfold QB;((repeat' refine iE rfl rfl ?_);exact iN)
   unfold cJ aX aB;((repeat'(first|refine iF rfl rfl ?_|refine iC rfl rfl rfl ?_|refine iJ rfl rfl rfl rfl ?_));exact iN)
  exfalso;simp [aA,aC,aF] at b9;omega
 have hge:i=l.length:=(by simp [aA,aC] at b1;omega);subst hge;clear b1 hi hj;((conv=>whnf);apply bm<;>intro m1);rotate_left
 ·exfalso;simp [aA,aC] at m1;omega
 (conv=>whnf);refine⟨fun q e h nx=>∃ (i:Nat) (j:Int),j=i∧i≤m.length∧q=m.length - i∧(∀ t,t<i→I0 l m t=true)∧e=C0 l.length m.length c2 j∧h=bO l m c1 c2 n (m7 m (List.replicate l.length false) i)∧nx=4,⟨m.length,?_⟩,?_⟩
 ·refine aO (e0:=C0 l.length m.length c2 0) (h0:=bO l m c1 c2 n (List.replicate l.length false)) (n0:=4) ⟨0,0,rfl,Nat.zero_le _,rfl,fun t ht=>absurd ht (Nat.not_lt_zero t),rfl,rfl,rfl⟩ ?_ ?_ (by decide)
  ·unfold C0;((repeat' refine iE rfl rfl ?_);exact iN)
  unfold bO cJ aX aB;have hrep:=TT l.length;((repeat'(first|refine iW rfl rfl (aU (aH gI _) hrep) ?_|refine iF rfl rfl ?_|refine iC rfl rfl rfl ?_|refine iJ rfl rfl rfl rfl ?_));exact iN)
 rintro q e h nx ⟨i,j,hj,hi,rfl,hed0,rfl,rfl,rfl⟩;have rl:(m7 m (List.replicate l.length false) i).length=l.length:=(by rw [AU,List.length_replicate]);have nxt:m7 m (List.replicate l.length false) (i+1)=((m7 m (List.replicate l.length false) i).set (cH m i).a.toNat true).set (cH m i).b.toNat true:=rfl;generalize hs0:m7 m (List.replicate l.length false) i=s at rl nxt;have hsl:(flat gI.fl s).length=l.length:=(by rw [a7,rl];exact Nat.mul_one _);unfold C0 bO cJ aX aB;((conv=>whnf);apply bm<;>intro d1);rotate_left
 ·have hge:i=m.length:=(by simp [aA,aC] at d1;omega);subst hge;(conv=>whnf);refine⟨s,⟨rl.symm,_,_,_,_,rfl,by rw [List.drop_zero,List.take_length]⟩,?_⟩;((conv=>whnf);apply bm<;>intro g1)
  ·(conv=>whnf);rw [dG,hsz,fC hpt,fC hed0,hs0];show Value.bool (!(!(s.all id)))=_;rw [Bool.not_not];rfl
  exfalso;have g1:decide (s.length≤1000000)=false:=g1;simp at g1;omega
 have hlt:i<m.length:=(by simp [aA,aC] at d1;omega);((conv=>whnf);apply bm<;>intro d2);rotate_left
 ·exfalso;simp [aA,aC] at d2;omega
 (conv=>whnf);refine nN (A2 m (i:=i) hlt ?_) ?_
 ·show _+Int.toNat j*5=_;omega
 generalize hed:cH m i=ed at nxt;((conv=>whnf);apply bm<;>intro f1);rotate_left
 ·have f1:¬ 0≤ed.a:=(by simp [aA,aC] at f1;omega);(conv=>whnf);rw [B3 hlt (nS hed (by omega))]
 have f1:0≤ed.a:=(by simp [aA,aC] at f1;omega);((conv=>whnf);apply bm<;>intro f2);rotate_left
 ·have f2:¬ ed.a<ed.b:=(by simp [aA,aC] at f2;omega);(conv=>whnf);rw [B3 hlt (nS hed (by omega))]
 have f2:ed.a<ed.b:=(by simp [aA,aC] at f2;omega);((conv=>whnf);apply bm<;>intro f3);rotate_left
 ·have f3:¬ ed.b<l.length:=(by simp [aA,aC] at f3;omega);(conv=>whnf);rw [B3 hlt (nS hed (by omega))]
 have f3:ed.b<l.length:=(by simp [aA,aC] at f3;omega);((conv=>whnf);apply bm<;>intro f4);rotate_left
 ·have f4:¬ -1≤ed.n:=(by simp [aA,aC] at f4;omega);(conv=>whnf);rw [B3 hlt (nS hed (by omega))]
 have f4 : -1≤ed.n:=(by simp [aA,aC] at f4;omega);((conv=>whnf);apply bm<;>intro f5)
 ·have f5:200≤ed.n:=(by simp [aA,aC] at f5;omega);(conv=>whnf);rw [B3 hlt (nS hed (by omega))]
 have f5:ed.n<200:=(by simp [aA,aC] at f5;omega);((conv=>whnf);apply bm<;>intro f6);rotate_left
 ·have f6:i=0:=(by simp [aA,aC] at f6;omega);have hyes:I0 l m i=true:=z8 hed ⟨f1,f2,f3,f4,f5⟩ (by simp [f6]);((conv=>whnf);apply bm<;>intro k1)
  ·((conv=>whnf);apply bm<;>intro k2)
   ·((conv=>whnf);apply bm<;>intro k3)
    ·((conv=>whnf);apply bm<;>intro k4)
     ·((conv=>whnf);apply bm<;>intro k5)
      ·(conv=>whnf);refine⟨m.length - (i+1),by omega,?_⟩;refine aO (e0:=C0 l.length m.length c2 (j+1)) (h0:=bO l m c1 c2 n (m7 m (List.replicate l.length false) (i+1))) (n0:=4) ⟨i+1,j+1,by omega,by omega,rfl,fun t ht=>?_,rfl,rfl,rfl⟩ ?_ ?_ (by decide)
       ·by_cases hti:t=i
        ·rw [hti];exact hyes
        exact hed0 t (by omega)
       ·unfold C0;((repeat' refine iE rfl rfl ?_);exact iN)
       unfold bO cJ aX aB;have bZ:=R3 (s:=s) (a:=ed.a.toNat) (b:=ed.b.toNat) (o1:=0+ed.a.toNat*1) (o2:=0+ed.b.toNat*1) (by omega) (by omega) (by omega) (by omega);rw [nxt];((repeat'(first|refine iW rfl rfl (aU (aH gI _) bZ) ?_|refine iF rfl rfl ?_|refine iC rfl rfl rfl ?_|refine iJ rfl rfl rfl rfl ?_));exact iN)
      exfalso;simp [aA,aC,aF] at k5;omega
     have hpl:(cN (flat gI.fl s) (0+ed.a.toNat*1) [.bool true]).length=l.length:=(by rw [dN (by rw [hsl];show 0+ed.a.toNat*1+1≤l.length;omega)];exact hsl);have k4:(0+ed.b.toNat*1+1).ble (cN (flat gI.fl s) (0+ed.a.toNat*1) [.bool true]).length=false:=k4;rw [hpl] at k4;exact eZ k4 (by omega)
    exfalso;simp [aA,aC] at k3;omega
   rw [hsl] at k2;exact eZ k2 (by show 0+ed.a.toNat*1+1≤l.length;omega)
  exfalso;simp [aA,aC] at k1;omega
 have f6:0<i:=(by simp [aA,aC] at f6;omega);((conv=>whnf);apply bm<;>intro f7);rotate_left
 ·exfalso;simp [aA,aC,aF] at f7;omega
 ((conv=>whnf);apply bm<;>intro f8);rotate_left
 ·exfalso;simp [aA,aC] at f8;omega
 (conv=>whnf);refine eC (OO m 0 (i:=i - 1) (by omega) rfl (by decide) ?_) ?_
 ·show _+Int.toNat (j - 1)*5+0=_;omega
 ((conv=>whnf);apply bm<;>intro f9);rotate_left
 ·exfalso;simp [aA,aC,aF] at f9;omega
 ((conv=>whnf);apply bm<;>intro f10);rotate_left
 ·exfalso;simp [aA,aC] at f10;omega
 (conv=>whnf);refine eC (OO m 1 (i:=i - 1) (by omega) rfl (by decide) ?_) ?_
 ·show _+Int.toNat (j - 1)*5+1=_;omega
 generalize hd0:cH m (i - 1)=dd;(conv=>whnf);refine⟨[jL dd.a ed.a,jL dd.b ed.b],⟨rfl,_,_,_,_,rfl,rfl⟩,?_⟩;((conv=>whnf);apply bm<;>intro f11)
 ·have f11:bfE dd ed=false:=by
   rw [W2];have:0≤orI (jL dd.a ed.a) (jL dd.b ed.b):=(by simpa [aA,aC] using f11);exact decide_eq_false (by omega)
  (conv=>whnf);rw [B3 hlt (UM hed hd0 (by omega) f11)]
 have f11:bfE dd ed=true:=by
  rw [W2];have:¬ 0≤orI (jL dd.a ed.a) (jL dd.b ed.b):=(by simpa [aA,aC] using f11);exact decide_eq_true (by omega)
 have hyes:I0 l m i=true:=z8 hed ⟨f1,f2,f3,f4,f5⟩ (by rw [hd0,f11,Bool.or_true]);((conv=>whnf);apply bm<;>intro k1);rotate_left
 ·exfalso;simp [aA,aC] at k1;omega
 ((conv=>whnf);apply bm<;>intro k2);rotate_left
 ·rw [hsl] at k2;exact eZ k2 (by show 0+ed.a.toNat*1+1≤l.length;omega)
 ((conv=>whnf);apply bm<;>intro k3);rotate_left
 ·exfalso;simp [aA,aC] at k3;omega
 ((conv=>whnf);apply bm<;>intro k4);rotate_left
 ·have hpl:(cN (flat gI.fl s) (0+ed.a.toNat*1) [.bool true]).length=l.length:=(by rw [dN (by rw [hsl];show 0+ed.a.toNat*1+1≤l.length;omega)];exact hsl);have k4:(0+ed.b.toNat*1+1).ble (cN (flat gI.fl s) (0+ed.a.toNat*1) [.bool true]).length=false:=k4;rw [hpl] at k4;exact eZ k4 (by omega)
 ((conv=>whnf);apply bm<;>intro k5)
 ·(conv=>whnf);refine⟨m.length - (i+1),by omega,?_⟩;refine aO (e0:=C0 l.length m.length c2 (j+1)) (h0:=bO l m c1 c2 n (m7 m (List.replicate l.length false) (i+1))) (n0:=4) ⟨i+1,j+1,by omega,by omega,rfl,fun t ht=>?_,rfl,rfl,rfl⟩ ?_ ?_ (by decide)
  ·by_cases hti:t=i
   ·rw [hti];exact hyes
   exact hed0 t (by omega)
  ·unfold C0;((repeat' refine iE rfl rfl ?_);exact iN)
  unfold bO cJ aX aB;have bZ:=R3 (s:=s) (a:=ed.a.toNat) (b:=ed.b.toNat) (o1:=0+ed.a.toNat*1) (o2:=0+ed.b.toNat*1) (by omega) (by omega) (by omega) (by omega);rw [nxt];((repeat'(first|refine iW rfl rfl (aU (aH gI _) bZ) ?_|refine iF rfl rfl ?_|refine iC rfl rfl rfl ?_|refine iJ rfl rfl rfl rfl ?_));exact iN)
 exfalso;simp [aA,aC,aF] at k5;omega
end Go.Aw
end

noncomputable section
namespace Go.Aw
theorem apart {F1 F2 G1 G2 s1 s2 t1 t2 c:Int}(hi:G1*s2 - G2*s1=F2*t1 - F1*t2)(hd:G1 - G2=F2 - F1)(hF:F1*F2<0)(hG:G1*G2<0)
  (h1:s1≤c) (h2:s2≤c) (h3:c+1≤t1) (h4:c+1≤t2):False:=by
 have key:∀ {F1 F2 G1 G2 s1 s2 t1 t2:Int},G1*s2 - G2*s1=F2*t1 - F1*t2→G1 - G2=F2 - F1→F1<0→0<F2→0<G1→G2<0→s1≤c→s2≤c→c+1≤t1→c+1≤t2→False:=by
  intro F1 F2 G1 G2 s1 s2 t1 t2 hi hd f1 f2 g1 g2 h1 h2 h3 h4;have e1:=Int.mul_le_mul_of_nonneg_left h2 (Int.le_of_lt g1);have e2:=Int.mul_le_mul_of_nonneg_left h1 (show 0≤-G2 by omega);have e3:=Int.mul_le_mul_of_nonneg_left h3 (Int.le_of_lt f2);have e4:=Int.mul_le_mul_of_nonneg_left h4 (show 0≤-F1 by omega);have d:(G1 - G2)*c=(F2 - F1)*c:=(by rw [hd]);simp only [Int.mul_add,Int.mul_one,Int.neg_mul,Int.sub_mul] at e1 e2 e3 e4 d;omega
 rcases Int.lt_or_le F1 0 with f1|f1
 ·have f2:0<F2:=by
   rcases Int.lt_or_le 0 F2 with h|h
   ·exact h
   have:=Int.mul_nonneg_of_nonpos_of_nonpos (Int.le_of_lt f1) h;omega
  rcases Int.lt_or_le G1 0 with g1|g1
  ·have g2:0<G2:=by
    rcases Int.lt_or_le 0 G2 with h|h
    ·exact h
    have:=Int.mul_nonneg_of_nonpos_of_nonpos (Int.le_of_lt g1) h;omega
   omega
  have g1':0<G1:=by
   rcases Int.lt_or_le 0 G1 with h|h
   ·exact h
   have:G1=0:=(by omega);rw [this] at hG;omega
  have g2:G2<0:=by
   rcases Int.lt_or_le G2 0 with h|h
   ·exact h
   have:=Int.mul_nonneg g1 h;omega
  exact key hi hd f1 f2 g1' g2 h1 h2 h3 h4
 have f1':0<F1:=by
  rcases Int.lt_or_le 0 F1 with h|h
  ·exact h
  have:F1=0:=(by omega);rw [this] at hF;omega
 have f2:F2<0:=by
  rcases Int.lt_or_le F2 0 with h|h
  ·exact h
  have:=Int.mul_nonneg f1 h;omega
 rcases Int.lt_or_le G1 0 with g1|g1
 ·have g2:0<G2:=by
   rcases Int.lt_or_le 0 G2 with h|h
   ·exact h
   have:=Int.mul_nonneg_of_nonpos_of_nonpos (Int.le_of_lt g1) h;omega
  exact key (F1:=F2) (F2:=F1) (G1:=G2) (G2:=G1) (s1:=s2) (s2:=s1) (t1:=t2) (t2:=t1) (by omega) (by omega) f2 f1' g2 g1 h2 h1 h4 h3
 have g2:G2<0:=by
  rcases Int.lt_or_le G2 0 with h|h
  ·exact h
  have:=Int.mul_nonneg g1 h;omega
 omega
theorem OW {a b:Int}(h:YY a*YY b<0):a*b<0:=by
 unfold YY at h
 split at h <;> split at h <;> first
  |omega
  |(exact Int.mul_neg_of_neg_of_pos (by omega) (by omega))
  |(exact Int.mul_neg_of_pos_of_neg (by omega) (by omega))
  |(split at h <;> first|omega|(exact Int.mul_neg_of_neg_of_pos (by omega) (by omega))|(exact Int.mul_neg_of_pos_of_neg (by omega) (by omega)))
theorem aCQ (s t:Sg):bG t.1 t.2 s.1 - bG t.1 t.2 s.2=bG s.1 s.2 t.2 - bG s.1 s.2 t.1:=by
 obtain⟨⟨a,b⟩,⟨c,d⟩⟩:=s;obtain⟨⟨e,f⟩,⟨g,h⟩⟩:=t;simp only [bG,Int.sub_mul,Int.mul_sub,Int.mul_comm,Int.mul_left_comm,Int.mul_assoc];omega
theorem aAk (s t:Sg):bG t.1 t.2 s.1*s.2.1 - bG t.1 t.2 s.2*s.1.1=bG s.1 s.2 t.2*t.1.1 - bG s.1 s.2 t.1*t.2.1:=by
 obtain⟨⟨a,b⟩,⟨c,d⟩⟩:=s;obtain⟨⟨e,f⟩,⟨g,h⟩⟩:=t;simp only [bG,Int.sub_mul,Int.mul_sub,Int.mul_comm,Int.mul_left_comm,Int.mul_assoc];omega
theorem aCR (s t:Sg):bG t.1 t.2 s.1*s.2.2 - bG t.1 t.2 s.2*s.1.2=bG s.1 s.2 t.2*t.1.2 - bG s.1 s.2 t.1*t.2.2:=by
 obtain⟨⟨a,b⟩,⟨c,d⟩⟩:=s;obtain⟨⟨e,f⟩,⟨g,h⟩⟩:=t;simp only [bG,Int.sub_mul,Int.mul_sub,Int.mul_comm,Int.mul_left_comm,Int.mul_assoc];omega
theorem V6 {a b c d:Int}(h:apI a b c d=true):(∃ k,a≤k∧b≤k∧k+1≤c∧k+1≤d)∨(∃ k,c≤k∧d≤k∧k+1≤a∧k+1≤b):=by
 unfold apI mxI mnI at h;simp only [Bool.or_eq_true,decide_eq_true_eq] at h;rcases h with h|h
 ·refine .inl ⟨if b > a then b else a,?_⟩;split at h <;> split at h <;> omega
 refine .inr ⟨if d > c then d else c,?_⟩;split at h <;> split at h <;> omega
theorem ZS {s t:Sg}(h:BW s t=true):¬ (bE s.1 s.2 t.1*bE s.1 s.2 t.2<0∧bE t.1 t.2 s.1*bE t.1 t.2 s.2<0):=by
 rintro ⟨h1,h2⟩;have h1:=OW h1;have h2:=OW h2;have d1:=aCQ s t;have d2:=aCQ t s;unfold BW at h;rw [Bool.or_eq_true] at h;rcases h with h|h
 ·rcases V6 h with ⟨k,a1,a2,a3,a4⟩|⟨k,a1,a2,a3,a4⟩
  ·exact apart (aAk s t) d1 h1 h2 a1 a2 a3 a4
  exact apart (aAk t s) d2 h2 h1 a1 a2 a3 a4
 ·rcases V6 h with ⟨k,a1,a2,a3,a4⟩|⟨k,a1,a2,a3,a4⟩
  ·exact apart (aCR s t) d1 h1 h2 a1 a2 a3 a4
  exact apart (aCR t s) d2 h2 h1 a1 a2 a3 a4
theorem aFM {s t:Sg}(h:BW s t=true)(p:Pt):¬ (pQ p s=true∧pQ p t=true):=by
 rintro ⟨h1,h2⟩;simp only [pQ,Z0,Bool.and_eq_true,decide_eq_true_eq] at h1 h2;obtain⟨⟨⟨x1,x2⟩,y1,y2⟩,_⟩:=h1;obtain⟨⟨⟨x3,x4⟩,y3,y4⟩,_⟩:=h2;unfold BW at h;rw [Bool.or_eq_true] at h;rcases h with h|h
 ·rcases V6 h with ⟨k,a1,a2,a3,a4⟩|⟨k,a1,a2,a3,a4⟩ <;>
   (split at x1 <;> split at x2 <;> split at x3 <;> split at x4 <;> omega)
 ·rcases V6 h with ⟨k,a1,a2,a3,a4⟩|⟨k,a1,a2,a3,a4⟩ <;>
   (split at y1 <;> split at y2 <;> split at y3 <;> split at y4 <;> omega)
theorem aBu {s t:Sg}(h:BW s t=true):fT s t=0:=by
 unfold fT;split
 ·rename_i hr;rw [XP s t hr.1 hr.2];have he:qN s t=[]:=by
   unfold qN;have:∀ p,l8 s t [] p=[]:=fun p=>by
    unfold l8;rw [if_neg (fun hh=>aFM h p ⟨hh.1,hh.2.1⟩)]
   rw [this,this,this,this]
  unfold oS;rw [he];exact if_neg (ZS h)
 rfl
theorem aCG (s t:Sg):FB s t=fT s t:=by
 unfold FB;split
 ·rename_i h;rw [aBu h]
 rfl
end Go.Aw
end

noncomputable section
namespace Go.Aw
set_option maxRecDepth 100000
def DE (v:Pt):Bool:=decide (v.2<0) || (decide (v.2=0)&&decide (v.1<0))
def aIT:Nat × XF:=(242,gX (s1 cP fun v=>(true,.bool (DE v))))
theorem aM8:cT Go.Proofs.Tryz.prog aIT.1 aIT.2:=x1 cP (xl:=[]) .nil (fun _=>rfl) fun a _=>by
 obtain⟨ax,ay⟩:=a;unfold dF
 repeat' ((conv=>whnf);apply bm<;>intro h)
 all_goals (conv=>whnf)
 all_goals (simp only [gJ,tM,jB,gQ,beq_iff_eq,beq_eq_false_iff_ne,ne_eq,Bool.not_eq_false,Bool.not_eq_true,decide_eq_true_eq,decide_eq_false_iff_not] at *)
 all_goals (show _=Value.bool (DE _);unfold DE;simp_all)
def crP (w v:Pt):Int:=w.1*v.2 - w.2*v.1
def S3 (w v:Pt):Int:=if DE w=DE v then jL 0 (crP w v) else if DE v=true then -1 else 1
def aH7:Nat × XF:=(210,gX (s2 cP cP fun w v=>(wide w&&wide v,iv (S3 w v))))
theorem aMX:cT Go.Proofs.Tryz.prog aH7.1 aH7.2:=x2 cP cP (xl:=[aIT,UO]) (.cons aM8 (.cons ZI .nil)) (fun _ _=>rfl) fun w v hp=>by
 obtain⟨wx,wy⟩:=w;obtain⟨vx,vy⟩:=v;simp only [wide,Bool.and_eq_true,decide_eq_true_eq] at hp;have m1:=wL (a:=wx) (b:=vy) (A:=1000000) (B:=1000000) (by omega) (by omega) (by omega) (by omega);have m2:=wL (a:=wy) (b:=vx) (A:=1000000) (B:=1000000) (by omega) (by omega) (by omega) (by omega);unfold dF
 repeat' ((conv=>whnf);apply bm<;>intro h)
 all_goals (conv=>whnf)
 all_goals first
  |(exfalso;simp [aA,aC,aF] at h;omega)
  |(show iv _=iv (S3 _ _);unfold S3;simp [aA,aC] at *;simp_all;done)
  |(show iv _=iv (S3 _ _);unfold S3 crP;simp [aA,aC] at *;simp_all)
  |trace_state
structure Dt where
 dx:Int
 dy:Int
 no:Int
 fr:Int
 tt:Int
def sH:El Dt:=⟨fun e=>[iv e.dx,iv e.dy,iv e.no,iv e.fr,iv e.tt],5,fun _=>rfl,fun _=>rfl,by decide⟩
def cB (m:List Dt)(i:Nat):Dt:=m.getD i ⟨0,0,0,0,0⟩
theorem pR {m:List Dt}{i:Nat}(h:i<m.length):cB m i=m[i]:=by
 unfold cB;rw [List.getD_eq_getElem?_getD,List.getElem?_eq_getElem h];rfl
theorem aGg (m:List Dt){i o:Nat}(hi:i<m.length)(ho:o=i*5):nU (flat sH.fl m) o 5=some [iv (cB m i).dx,iv (cB m i).dy,iv (cB m i).no,iv (cB m i).fr,iv (cB m i).tt]:=by
 rw [pR hi];exact zP sH m hi ho
def eX (d:Dt):Pt:=(d.dx,d.dy)
theorem V5 (m:List Dt){i o:Nat}(hi:i<m.length)(ho:o=i*5):nU (flat sH.fl m) o 2=some [iv (eX (cB m i)).1,iv (eX (cB m i)).2]:=by
 have h1:nth (flat sH.fl m) o=some (iv (cB m i).dx):=by
  rw [pR hi];exact oG sH m hi (k:=0) rfl (by decide) (by rw [ho];rfl)
 have h2:nth (flat sH.fl m) (o+1)=some (iv (cB m i).dy):=by
  rw [pR hi];exact oG sH m hi (k:=1) rfl (by decide) (by rw [ho];rfl)
 simp only [nU,h1,h2];rfl
def nY (h:Heap)(p:Nat)(D:List Dt):Prop:=∃ b c k0 k1 wr g sz r0 wr1 g1 sz1 r1 wr2 g2 sz2 cs n0 c0 n1 c1 F cc,
 look h p=some (.cells wr g sz (.pointer (some ⟨b,0,none⟩)::r0)) ∧
 look h b=some (.cells wr1 g1 sz1 (.slice (some ⟨k0,0,none⟩) n0 c0::.slice (some ⟨k1,0,none⟩) n1 c1::iv F::.slice (some ⟨c,0,none⟩) D.length cc::r1)) ∧
 look h c=some (.cells wr2 g2 sz2 cs)∧cs.take (flat sH.fl D).length=flat sH.fl D
def fV (D:List Dt):Bool:=D.all fun d=>wide (eX d)
def aCY (D:List Dt)(x y:Int):Int:=S3 (eX (cB D x.toNat)) (eX (cB D y.toNat))
def tK (D:List Dt)(x y:Int):Bool:=decide (0≤x)&&decide (x<D.length)&&(decide (0≤y)&&decide (y<D.length))&&fV D
def X6:Nat × XF:=(209,fun args h nx K=>∃ x y p D,args=[iv x,iv y,.pointer (some ⟨p,0,none⟩)]∧nY h p D∧dT (tK D x y) (K (iv (aCY D x y)) h nx))
def aIA (D:List Dt)(n0 c0 n1 c1:Nat)(F:Int)(cc:Nat):Heap:=[(0,.cells false false 1 [.pointer (some ⟨1,0,none⟩)]),(1,.cells false false 1 [.slice (some ⟨3,0,none⟩) n0 c0,.slice (some ⟨4,0,none⟩) n1 c1,iv F,.slice (some ⟨2,0,none⟩) D.length cc]),(2,.cells false true 5 (flat sH.fl D))]
def aN1 (p b c k0 k1:Nat):Nat→Nat
 |0=>p
 |1=>b
 |2=>c
 |3=>k0
 |_=>k1
theorem aHB {h:Heap}{p nx:Nat}{D:List Dt}(hd:nY h p D)(x y:Int):∃ n0 c0 n1 c1 F cc,In [iv x,iv y,.pointer (some ⟨0,0,none⟩)] (aIA D n0 c0 n1 c1 F cc) 5 [iv x,iv y,.pointer (some ⟨p,0,none⟩)] h nx:=by
 obtain⟨b,c,k0,k1,wr,g,sz,r0,wr1,g1,sz1,r1,wr2,g2,sz2,cs,n0,c0,n1,c1,F,cc,h1,h2,h3,h4⟩:=hd;refine⟨n0,c0,n1,c1,F,cc,BJ (aN1 p b c k0 k1) rfl ?_ ?_⟩
 ·refine List.forall_mem_cons.2 ⟨dI rfl,List.forall_mem_cons.2 ⟨dI rfl,List.forall_mem_cons.2 ⟨⟨by decide,rfl⟩,fun _ h=>by cases h⟩⟩⟩
 intro k o hk;unfold aIA at hk;rw [aE] at hk;split at hk
 ·rename_i hb;injection hk with hk;subst hk;rw [← beq_true hb]
  refine⟨by decide,false,1,_,rfl,by decide,(fun h=>by cases h),List.forall_mem_cons.2 ⟨⟨by decide,rfl⟩,fun _ h=>by cases h⟩,wr,g,sz,_,h1,rfl⟩
 rw [aE] at hk;split at hk
 ·rename_i hb;injection hk with hk;subst hk;rw [← beq_true hb]
  refine⟨by decide,false,1,_,rfl,by decide,(fun h=>by cases h),?_,wr1,g1,sz1,_,h2,rfl⟩;refine List.forall_mem_cons.2 ⟨⟨by decide,fun h=>by cases h⟩,List.forall_mem_cons.2 ⟨⟨by decide,fun h=>by cases h⟩,List.forall_mem_cons.2 ⟨cX rfl,List.forall_mem_cons.2 ⟨⟨by decide,fun h=>by cases h⟩,fun _ h=>by cases h⟩⟩⟩⟩
 rw [aE] at hk;split at hk
 ·rename_i hb;injection hk with hk;subst hk;rw [← beq_true hb]
  exact⟨by decide,true,5,_,rfl,by decide,fun _=>aH sH D,fun v hv=>cX (bB (aH sH D) hv),wr2,g2,sz2,cs,h3,by rw [h4];exact (cZ (aH sH D)).symm⟩
 exact bU hk
theorem aGw:cT Go.Proofs.Tryz.prog X6.1 X6.2:=by
 refine (jD (S:=fun args0 h0 n0 v1 h1 m=>∃ x y D n1 c1 n2 c2 F cc,tK D x y=true∧args0=[iv x,iv y,.pointer (some ⟨0,0,none⟩)]∧h0=aIA D n1 c1 n2 c2 F cc∧n0=5∧v1=iv (aCY D x y)∧h1=[]∧m=0) (aL (xl:=[aH7]) (.cons aMX .nil)) ?_).mono ?_ ?_
 ·rintro args0 h0 n0 v1 h1 m ⟨x,y,D,n1,c1,n2,c2,F,cc,hok,rfl,rfl,rfl,rfl,rfl,rfl⟩;refine⟨rfl,fun u _ _=>u=iv (aCY D x y),?_,fun v h nx e=>by rw [e];exact mG rfl⟩;simp only [tK,Bool.and_eq_true,decide_eq_true_eq] at hok;obtain⟨⟨⟨h0,h1⟩,h2,h3⟩,hw⟩:=hok;have wx:wide (eX (cB D x.toNat))=true:=by
   rw [pR (by omega)];exact List.all_eq_true.1 hw _ (List.getElem_mem _)
  have wy:wide (eX (cB D y.toNat))=true:=by
   rw [pR (by omega)];exact List.all_eq_true.1 hw _ (List.getElem_mem _)
  ((conv=>whnf);apply bm<;>intro a1);rotate_left
  ·exfalso;simp [aA,aC] at a1;omega
  (conv=>whnf);refine nN (V5 D (i:=x.toNat) (by omega) ?_) ?_
  ·show _+Int.toNat x*5=_;omega
  ((conv=>whnf);apply bm<;>intro a2)
  ·(conv=>whnf);refine nN (V5 D (i:=y.toNat) (by omega) ?_) ?_
   ·show _+Int.toNat y*5=_;omega
   ((conv=>whnf);apply bm<;>intro a3)
   ·(conv=>whnf);rfl
   exfalso;have a3:(wide (eX (cB D x.toNat))&&wide (eX (cB D y.toNat)))=false:=a3;rw [wx,wy] at a3;cases a3
  exfalso;simp [aA,aC] at a2;omega
 ·rintro args h nx K ⟨x,y,p,D,rfl,hd,hx⟩;obtain⟨hb,hx⟩:=aI.1 hx;obtain⟨n0,c0,n1,c1,F,cc,i⟩:=aHB (nx:=nx) hd x y;refine⟨_,_,5,_,[],0,⟨x,y,D,n0,c0,n1,c1,F,cc,hb,rfl,rfl,rfl,rfl,rfl,rfl⟩,i,?_⟩;exact hx
 rintro args h nx K ⟨x,y,p,D,rfl,hd,hx⟩;obtain⟨hb,hx⟩:=aI.1 hx;exact⟨_,_,_,hx,fun K' hk'=>⟨x,y,p,D,rfl,hd,aM hb hk'⟩⟩
end Go.Aw
end

noncomputable section
namespace Go.Aw
open Go.RowKit
section
variable {α:Type}(E:El α)
theorem MN {ι ι':Nat→Loc}{B:Nat}{w:World}{sz:Nat}{cs:List Value}{loc:Loc}(hg:dL cs=true)(h:kU ι B w (.cells true false sz cs) loc):kU ι' B w (.cells true false sz cs) loc:=by
 cases loc with
 |nil p=>exact h
 |lay b o e =>
  obtain⟨x1,x2,arr,t,x3,x4,x5⟩:=h;refine⟨x1,x2,arr,t,x3,x4,fun i v hv=>?_⟩;rw [x5 i v hv,kG (bB hg (List.mem_of_getElem? hv)),kG (bB hg (List.mem_of_getElem? hv))]
end
end Go.Aw
end
