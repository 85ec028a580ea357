/-
  Parts of a proof. No condition.
-/
import Derived.Test.YtjahkcbdecgbhaaGreatQAu
set_option linter.unusedSimpArgs false
set_option linter.unusedVariables false
noncomputable section
namespace Go.Aw
set_option maxRecDepth 100000
theorem jF {l:List Pt}{m:List Ed}{n:Int}(h:cX l m n=true):kK l m=true∧3≤m.length∧1≤l.length∧l.length≤400∧m.length≤400∧1≤n∧n≤100:=by
 simp only [cX,Bool.and_eq_true] at h;obtain⟨h1,h2,h3,h4⟩:=h;simp only [W2,Bool.and_eq_true,decide_eq_true_eq] at h1;have hM:=KB (l:=l) (m:=m) (by omega) (by omega) (fun i hi=>eV h2 hi) (fun i hi=>eV h3 hi);have:=nB hM (i:=0) (by omega);exact⟨hM,by omega,by omega,by omega,by omega,by omega,by omega⟩
theorem lE {l:List Pt}{m:List Ed}{n:Int}(h:gI l m n=true):cX l m n=true:=by
 simp only [gI,Bool.and_eq_true] at h;exact h.1
def faB (m:List Ed)(of:List Int)(i:Nat):Bool:=decide ((cC m i).l=aM of (2*i))&&decide ((cC m i).r=aM of (2*i+1))
def HW (l:List Pt)(m:List Ed)(n:Int):Bool:=gI l m n&&(L4 l m&&(K2 (eN l m)&&(decide ((eN l m).faces=n)&&mS (faB m (eN l m).of) m.length)))
def vaS (l:List Pt)(m:List Ed)(n:Int):List Value→Option (Bool × Value)
 |[]=>some (decide (l.length≤1000)&&decide (m.length≤1000),.bool (HW l m n))
 |_=>none
theorem aCP {l:List Pt}{m:List Ed}{n:Int}{r:List Value}{v:Value}(h:vaS l m n r=some (true,v)):r=[]∧l.length≤1000∧m.length≤1000∧v=.bool (HW l m n):=by
 unfold vaS at h;split at h
 ·injection h with h;injection h with h1 h2;simp only [Bool.and_eq_true,decide_eq_true_eq] at h1;exact⟨rfl,h1.1,h1.2,h2.symm⟩
 ·cases h
def e70 (j:Int):List (Nat × Value):=[(1,.pointer (some ⟨2,0,none⟩)),(4,.pointer (some ⟨4,0,none⟩)),(5,iv j)]
def h70 (l:List Pt)(m:List Ed)(c1 c2:Nat)(n:Int)(of:List Int)(F:Int)(K:Bool):Heap:=(4,.cells true false 1 [.slice (some ⟨3,0,none⟩) of.length of.length,iv F,.bool K])::(3,.cells true false 1 (flat aO.fl of))::cH l m c1 c2 n
def aJ3:Nat × XF:=(70,mX aQ aU vaS)
theorem aLA:cO Go.Proofs.Tryz.prog aJ3.1 aJ3.2:=sY aQ aU (aL (xl:=[aBk,ZI,Y1]) (.cons aIc (.cons aJD (.cons aIC .nil)))) fun l m n r v hs=>by
 obtain⟨rfl,hl,hm,rfl⟩:=aCP hs;clear hs;refine⟨rfl,rfl,fun c1 c2=>?_⟩;(conv=>whnf);refine⟨l,m,aI aQ rfl,aI aU rfl,?_⟩;((conv=>whnf);refine bm (fun a1=>?_) (fun a1=>?_))
 ·((conv=>whnf);refine bm (fun a2=>?_) (fun a2=>?_))
  ·have a2:gI l m n=false:=(by simpa [aA,aC] using a2);(conv=>whnf);rw [HW,a2];rfl
  ·have a2:gI l m n=true:=(by simpa [aA,aC] using a2);obtain⟨hM,h3,h1l,_⟩:=jF (lE a2);(conv=>whnf);refine⟨l,m,aI aQ rfl,aI aU rfl,?_⟩;((conv=>whnf);refine bm (fun a3=>?_) (fun a3=>?_))
   ·(conv=>whnf);refine⟨_,_,_,[],l,m,rfl,aI aQ rfl,aI aU rfl,?_⟩;((conv=>whnf);refine bm (fun a4=>?_) (fun a4=>?_))
    ·have flen:(eN l m).of.length=2*m.length:=tS l m _;have hval:HW l m n=(L4 l m&&(K2 (eN l m)&&(decide ((eN l m).faces=n)&&mS (faB m (eN l m).of) m.length))):=(by rw [HW,a2,Bool.true_and]);rw [hval];generalize eN l m=st at flen;((conv=>whnf);refine bm (fun b1=>?_) (fun b1=>?_))
     ·have b1:L4 l m=true:=(by simpa [aA,aC] using b1);((conv=>whnf);refine bm (fun b2=>?_) (fun b2=>?_))
      ·have b2:K2 st=true:=(by simpa [aA,aC] using b2);((conv=>whnf);refine bm (fun b3=>?_) (fun b3=>?_))
       ·have b3:¬ st.faces=n:=(by simpa [aA,aC] using b3);(conv=>whnf);rw [b1,b2,decide_eq_false b3];rfl
       ·have b3:st.faces=n:=(by simpa [aA,aC] using b3);(conv=>whnf);rw [b1,b2,decide_eq_true b3,Bool.true_and,Bool.true_and,Bool.true_and];refine⟨fun q e h nx=>∃ (i:Nat) (j:Int),j=i∧i≤m.length∧q=m.length - i∧(∀ t,t<i→faB m st.of t=true)∧e=e70 j∧h=h70 l m c1 c2 n st.of st.faces true∧nx=5,⟨m.length,?_⟩,?_⟩
        ·refine aK (e0:=e70 0) (h0:=h70 l m c1 c2 n st.of st.faces true) (n0:=5) ⟨0,0,rfl,Nat.zero_le _,rfl,fun t ht=>absurd ht (Nat.not_lt_zero t),rfl,rfl,rfl⟩ ?_ ?_ (by decide)
         ·unfold e70;((repeat' refine iE rfl rfl ?_);exact iN)
         ·unfold h70 cH aX aB;((repeat'(first|refine iF rfl rfl ?_|refine iC rfl rfl rfl ?_|refine iJ rfl rfl rfl rfl ?_));exact iN)
        ·rintro q e h nx ⟨i,j,hj,hi,rfl,hfa,rfl,rfl,rfl⟩;unfold e70 h70 cH aX aB;((conv=>whnf);refine bm (fun d1=>?_) (fun d1=>?_))
         ·have hlt:i<m.length:=(by simp [aA,aC] at d1;omega);((conv=>whnf);refine bm (fun d2=>?_) (fun d2=>?_))
          ·(conv=>whnf);refine iB (HU m 2 (i:=i) hlt rfl (by decide) ?_) ?_
           ·show _+Int.toNat j*5+2=_;omega
           ((conv=>whnf);refine bm (fun d3=>?_) (fun d3=>?_))
           ·((conv=>whnf);refine bm (fun d4=>?_) (fun d4=>?_))
            ·(conv=>whnf);refine iB (fN st.of (i:=2*i) (by omega) ?_) ?_
             ·show _+Int.toNat (2*j)*1=_;omega
             ((conv=>whnf);refine bm (fun d5=>?_) (fun d5=>?_))
             ·have d5:(cC m i).l=aM st.of (2*i):=(by simpa [aA,aC] using d5);((conv=>whnf);refine bm (fun d6=>?_) (fun d6=>?_))
              ·(conv=>whnf);refine iB (HU m 3 (i:=i) hlt rfl (by decide) ?_) ?_
               ·show _+Int.toNat j*5+3=_;omega
               ((conv=>whnf);refine bm (fun d7=>?_) (fun d7=>?_))
               ·((conv=>whnf);refine bm (fun d8=>?_) (fun d8=>?_))
                ·((conv=>whnf);refine bm (fun d9=>?_) (fun d9=>?_))
                 ·(conv=>whnf);refine iB (fN st.of (i:=2*i+1) (by omega) ?_) ?_
                  ·show _+Int.toNat (2*j+1)*1=_;omega
                  ((conv=>whnf);refine bm (fun d10=>?_) (fun d10=>?_))
                  ·have d10:¬ (cC m i).r=aM st.of (2*i+1):=(by simpa [aA,aC] using d10);(conv=>whnf);rw [fF hlt (show faB m st.of i=false by rw [faB,decide_eq_false d10,Bool.and_false])]
                  ·have d10:(cC m i).r=aM st.of (2*i+1):=(by simpa [aA,aC] using d10);((conv=>whnf);refine bm (fun d11=>?_) (fun d11=>?_))
                   ·(conv=>whnf);refine⟨m.length - (i+1),by omega,?_⟩;refine aK (e0:=e70 (j+1)) (h0:=h70 l m c1 c2 n st.of st.faces true) (n0:=5) ⟨i+1,j+1,by omega,by omega,rfl,fun t ht=>?_,rfl,rfl,rfl⟩ ?_ ?_ (by decide)
                    ·by_cases hti:t=i
                     ·rw [hti,faB,decide_eq_true d5,decide_eq_true d10];rfl
                     ·exact hfa t (by omega)
                    ·unfold e70;((repeat' refine iE rfl rfl ?_);exact iN)
                    ·unfold h70 cH aX aB;((repeat'(first|refine iF rfl rfl ?_|refine iC rfl rfl rfl ?_|refine iJ rfl rfl rfl rfl ?_));exact iN)
                   ·exfalso;simp [aA,aC,aH] at d11;omega
                 ·exfalso;simp [aA,aC] at d9;omega
                ·exfalso;simp [aA,aC,aH] at d8;omega
               ·exfalso;simp [aA,aC,aH] at d7;omega
              ·exfalso;simp [aA,aC] at d6;omega
             ·have d5:¬ (cC m i).l=aM st.of (2*i):=(by simpa [aA,aC] using d5);(conv=>whnf);rw [fF hlt (show faB m st.of i=false by rw [faB,decide_eq_false d5,Bool.false_and])]
            ·exfalso;simp [aA,aC] at d4;omega
           ·exfalso;simp [aA,aC,aH] at d3;omega
          ·exfalso;simp [aA,aC] at d2;omega
         ·have hge:i=m.length:=(by simp [aA,aC] at d1;omega);(conv=>whnf);rw [eS (fun t ht=>hfa t (by omega))]
      ·have b2:K2 st=false:=(by simpa [aA,aC] using b2);(conv=>whnf);rw [b1,b2];rfl
     ·have b1:L4 l m=false:=(by simpa [aA,aC] using b1);(conv=>whnf);rw [b1];rfl
    ·exfalso;have a4:(kK l m&&decide (1≤m.length))=false:=a4;rw [hM,decide_eq_true (show 1≤m.length by omega)] at a4;cases a4
   ·exfalso;have a3:(kK l m&&decide (1≤l.length))=false:=a3;rw [hM,decide_eq_true h1l] at a3;cases a3
 ·exfalso;have a1:(decide (l.length≤1000)&&decide (m.length≤1000))=false:=a1;rw [decide_eq_true hl,decide_eq_true hm] at a1;cases a1
def ckS (l:List Pt)(m:List Ed)(n:Int):List Value→Option (Bool × Value)
 |[]=>some (decide (l.length≤1000)&&decide (m.length≤1000),iv (if HW l m n=true then 0 else 1))
 |_=>none
def aKu:Nat × XF:=(18,mX aQ aU ckS)
def K4:List Bool→Nat→Int
 |[],_=>-1
 |b::r,i=>if b=false then i else K4 r (i+1)
theorem OQ:∀ (l:List Bool) (i:Nat),decide (0≤K4 l i)=!(l.all id)
 |[],i=>rfl
 |b::r,i=>by
  cases b with
  |false=>simp [K4]
  |true=>simpa [K4] using OQ r (i+1)
def ixS (l:List Bool):List Value→Option (Bool × Value)
 |[.bool false]=>some (decide (l.length≤1000000),iv (K4 l 0))
 |_=>none
theorem aCJ {l:List Bool}{r:List Value}{v:Value}(hs:ixS l r=some (true,v)):r=[.bool false]∧l.length≤1000000∧v=iv (K4 l 0):=by
 unfold ixS at hs;split at hs
 ·injection hs with hs;injection hs with h1 h2;exact⟨rfl,by simpa using h1,h2.symm⟩
 ·cases hs
def W6 (l:List Bool)(c:Nat)(j:Int):List (Nat × Value):=[(0,.slice (some ⟨0,0,none⟩) l.length c),(1,.bool false),(7,iv l.length),(8,iv j)]
def hBo (l:List Bool):Heap:=[(0,.cells false true 1 (flat fU.fl l))]
def aBo:Nat × XF:=(241,lX fU ixS)
theorem aIl:cO Go.Proofs.Tryz.prog aBo.1 aBo.2:=SR fU (aL (xl:=[]) .nil) fun l r v hs=>by
 obtain⟨rfl,hlen,rfl⟩:=aCJ hs;refine⟨rfl,rfl,fun c=>?_⟩;(conv=>whnf);refine⟨fun q e h nx=>∃ (i:Nat) (j:Int),j=i∧i≤l.length∧q=l.length - i∧K4 l 0=K4 (l.drop i) i∧e=W6 l c j∧h=hBo l∧nx=1,⟨l.length,?_⟩,?_⟩
 ·refine aK (e0:=W6 l c 0) (h0:=hBo l) (n0:=1) ⟨0,0,rfl,Nat.zero_le _,rfl,rfl,rfl,rfl,rfl⟩ ?_ ?_ (by decide)
  ·unfold W6;((repeat' refine iE rfl rfl ?_);exact iN)
  ·unfold hBo;((repeat'(first|refine iF rfl rfl ?_|refine iC rfl rfl rfl ?_|refine iJ rfl rfl rfl rfl ?_));exact iN)
 ·rintro q e h nx ⟨i,j,hj,hi,rfl,hb,rfl,rfl,rfl⟩;unfold W6 hBo;((conv=>whnf);refine bm (fun h1=>?_) (fun h1=>?_))
  ·have hlt:i<l.length:=(by simp [aA,aC] at h1;omega);have hd:l.drop i=cU l i::l.drop (i+1):=(by rw [qL hlt];exact List.drop_eq_getElem_cons hlt);rw [hd,K4] at hb;((conv=>whnf);refine bm (fun h2=>?_) (fun h2=>?_))
   ·(conv=>whnf);refine iB (M9 l (i:=i) hlt ?_) ?_
    ·show _+Int.toNat j*1=_;omega
    ((conv=>whnf);refine bm (fun h3=>?_) (fun h3=>?_))
    ·have h3:cU l i=false:=(by simpa [aA,aC] using h3);(conv=>whnf);rw [hb,if_pos h3,hj]
    ·have h3:¬ cU l i=false:=(by simpa [aA,aC] using h3);((conv=>whnf);refine bm (fun h4=>?_) (fun h4=>?_))
     ·(conv=>whnf);refine⟨l.length - (i+1),by omega,?_⟩;refine aK (e0:=W6 l c (j+1)) (h0:=hBo l) (n0:=1) ⟨i+1,j+1,by omega,hlt,rfl,by rw [hb,if_neg h3],rfl,rfl,rfl⟩ ?_ ?_ (by decide)
      ·unfold W6;((repeat' refine iE rfl rfl ?_);exact iN)
      ·unfold hBo;((repeat'(first|refine iF rfl rfl ?_|refine iC rfl rfl rfl ?_|refine iJ rfl rfl rfl rfl ?_));exact iN)
     ·exfalso;simp [aA,aC,aH] at h4;omega
   ·exfalso;simp [aA,aC] at h2;omega
  ·have hge:l.length≤i:=(by simp [aA,aC] at h1;omega);(conv=>whnf);rw [hb,List.drop_eq_nil_of_le hge];rfl
def ctS (l:List Bool):List Value→Option (Bool × Value)
 |[.bool false]=>some (decide (l.length≤1000000),.bool (!(l.all id)))
 |_=>none
theorem aEi {l:List Bool}{r:List Value}{v:Value}(hs:ctS l r=some (true,v)):r=[.bool false]∧l.length≤1000000∧v=.bool (!(l.all id)):=by
 unfold ctS at hs;split at hs
 ·injection hs with hs;injection hs with h1 h2;exact⟨rfl,by simpa using h1,h2.symm⟩
 ·cases hs
def VI:Nat × XF:=(208,lX fU ctS)
theorem aF8:cO Go.Proofs.Tryz.prog VI.1 VI.2:=SR fU (aL (xl:=[aBo]) (.cons aIl .nil)) fun l r v hs=>by
 obtain⟨rfl,hlen,rfl⟩:=aEi hs;refine⟨rfl,rfl,fun c=>?_⟩;(conv=>whnf);refine⟨l,aI fU rfl,?_⟩;((conv=>whnf);refine bm (fun h1=>?_) (fun h1=>?_))
 ·(conv=>whnf);rw [← OQ l 0];rfl
 ·exact absurd hlen (by simpa using h1)
theorem R9 (n:Nat):rep n [.bool false]=flat fU.fl (List.replicate n false):=by
 induction n with
 |zero=>rfl
 |succ n ih=>simp only [List.replicate_succ,flat,← ih];rfl
theorem aFI (n:Nat):rep n [iv 0]=flat aO.fl (List.replicate n 0):=by
 induction n with
 |zero=>rfl
 |succ n ih=>simp only [List.replicate_succ,flat,← ih];rfl
theorem zH (a b:Pt):fQ a b=decide (jM a b<0):=by
 unfold fQ jM WQ gH;by_cases h1:a.1<b.1
 ·simp [h1]
 ·by_cases h2:b.1<a.1
  ·have h3:¬ a.1=b.1:=(by omega);simp [h1,h2,h3]
  ·have h3:a.1=b.1:=(by omega);simp only [h1,h2,if_false,h3];by_cases h4:a.2<b.2 <;> by_cases h5:b.2<a.2 <;> simp [h4,h5]
theorem SU (d e:Ed):bfE d e=decide (WQ (gH d.a e.a) (gH d.b e.b)<0):=zH (d.a,d.b) (e.a,e.b)
def liS (l:List Pt)(m:List Ed)(n:Int):List Value→Option (Bool × Value)
 |[]=>some (decide (l.length≤1000)&&decide (m.length≤1000),.bool (cX l m n))
 |_=>none
theorem aCC {l:List Pt}{m:List Ed}{n:Int}{r:List Value}{v:Value}(h:liS l m n r=some (true,v)):r=[]∧l.length≤1000∧m.length≤1000∧v=.bool (cX l m n):=by
 unfold liS at h;split at h
 ·injection h with h;injection h with h1 h2;simp only [Bool.and_eq_true,decide_eq_true_eq] at h1;exact⟨rfl,h1.1,h1.2,h2.symm⟩
 ·cases h
def NY (N c:Nat)(j:Int):List (Nat × Value):=[(1,.pointer (some ⟨2,0,none⟩)),(35,.slice (some ⟨0,0,none⟩) N c),(36,iv N),(37,iv j)]
def BM (N M c:Nat)(j:Int):List (Nat × Value):=[(1,.pointer (some ⟨2,0,none⟩)),(5,.slice (some ⟨3,0,none⟩) N N),(66,.slice (some ⟨1,0,none⟩) M c),(67,iv M),(68,iv j)]
def VJ:Nat × XF:=(152,mX aQ aU liS)
theorem aJA:cO Go.Proofs.Tryz.prog VJ.1 VJ.2:=sY aQ aU (aL (xl:=[X17,aH0,O8,Z6,VI]) (.cons x17 (.cons aJl (.cons RV (.cons aFB (.cons aF8 .nil)))))) fun l m n r v hs=>by
 obtain⟨rfl,hl,hm,rfl⟩:=aCC hs;clear hs;refine⟨rfl,rfl,fun c1 c2=>?_⟩;have hszf:¬ (l.length≤400∧3≤m.length∧m.length≤400∧1≤n∧n≤100)→cX l m n=false:=fun h=>aGr (by
  cases hz:W2 l m n with
  |false=>rfl
  |true=>simp only [W2,Bool.and_eq_true,decide_eq_true_eq] at hz;exact absurd ⟨hz.1.1.1.1,hz.1.1.1.2,hz.1.1.2,hz.1.2,hz.2⟩ h)
 ((conv=>whnf);refine bm (fun a1=>?_) (fun a1=>?_))
 ·have a1:¬ 400<l.length:=(by simp [aA,aC] at a1;omega);((conv=>whnf);refine bm (fun a2=>?_) (fun a2=>?_))
  ·have a2:¬ m.length<3:=(by simp [aA,aC] at a2;omega);((conv=>whnf);refine bm (fun a3=>?_) (fun a3=>?_))
   ·have a3:¬ 400<m.length:=(by simp [aA,aC] at a3;omega);((conv=>whnf);refine bm (fun a4=>?_) (fun a4=>?_))
    ·have a4:¬ n<1:=(by simp [aA,aC] at a4;omega);((conv=>whnf);refine bm (fun a5=>?_) (fun a5=>?_))
     ·have a5:100<n:=(by simp [aA,aC] at a5;omega);(conv=>whnf);rw [hszf (by omega)]
     ·have a5:¬ 100<n:=(by simp [aA,aC] at a5;omega);have hsz:W2 l m n=true:=by
       simp only [W2,Bool.and_eq_true,decide_eq_true_eq];omega
      clear hszf;(conv=>whnf);refine⟨fun q e h nx=>∃ (i:Nat) (j:Int),j=i∧i≤l.length∧q=l.length - i∧(∀ t,t<i→B2 l t=true)∧e=NY l.length c1 j∧h=cH l m c1 c2 n∧nx=3,⟨l.length,?_⟩,?_⟩
      ·refine aK (e0:=NY l.length c1 0) (h0:=cH l m c1 c2 n) (n0:=3) ⟨0,0,rfl,Nat.zero_le _,rfl,fun t ht=>absurd ht (Nat.not_lt_zero t),rfl,rfl,rfl⟩ ?_ ?_ (by decide)
       ·unfold NY;((repeat' refine iE rfl rfl ?_);exact iN)
       ·unfold cH aX aB;((repeat'(first|refine iF rfl rfl ?_|refine iC rfl rfl rfl ?_|refine iJ rfl rfl rfl rfl ?_));exact iN)
      ·rintro q e h nx ⟨i,j,hj,hi,rfl,hpt,rfl,rfl,rfl⟩;unfold NY cH aX aB;((conv=>whnf);refine bm (fun b1=>?_) (fun b1=>?_))
       ·have hlt:i<l.length:=(by simp [aA,aC] at b1;omega);((conv=>whnf);refine bm (fun b2=>?_) (fun b2=>?_))
        ·(conv=>whnf);refine oA (jE l (i:=i) hlt ?_) ?_
         ·show _+Int.toNat j*2=_;omega
         ((conv=>whnf);refine bm (fun b3=>?_) (fun b3=>?_))
         ·have hr:aZ (fT l i)=true:=(by simpa [aA,aC] using b3);((conv=>whnf);refine bm (fun b4=>?_) (fun b4=>?_))
          ·have hi0:i≠0:=(by simp [aA,aC] at b4;omega);((conv=>whnf);refine bm (fun b5=>?_) (fun b5=>?_))
           ·((conv=>whnf);refine bm (fun b6=>?_) (fun b6=>?_))
            ·(conv=>whnf);refine oA (jE l (i:=i - 1) (by omega) ?_) ?_
             ·show _+Int.toNat (j - 1)*2=_;omega
             ((conv=>whnf);refine bm (fun b8=>?_) (fun b8=>?_))
             ·have b8:fQ (fT l (i - 1)) (fT l i)=false:=by
               rw [zH];have:0≤jM (fT l (i - 1)) (fT l i):=(by simpa [aA,aC] using b8);exact decide_eq_false (by omega)
              (conv=>whnf);rw [aBp hlt (show B2 l i=false by rw [B2,hr,b8,decide_eq_false hi0];rfl)]
             ·have b8:fQ (fT l (i - 1)) (fT l i)=true:=by
               rw [zH];have:¬ 0≤jM (fT l (i - 1)) (fT l i):=(by simpa [aA,aC] using b8);exact decide_eq_true (by omega)
              have hyes:B2 l i=true:=(by rw [B2,hr,b8];simp);((conv=>whnf);refine bm (fun b9=>?_) (fun b9=>?_))
              ·(conv=>whnf);refine⟨l.length - (i+1),by omega,?_⟩;refine aK (e0:=NY l.length c1 (j+1)) (h0:=cH l m c1 c2 n) (n0:=3) ⟨i+1,j+1,by omega,by omega,rfl,fun t ht=>?_,rfl,rfl,rfl⟩ ?_ ?_ (by decide)
               ·by_cases hti:t=i
                ·rw [hti];exact hyes
                ·exact hpt t (by omega)
               ·unfold NY;((repeat' refine iE rfl rfl ?_);exact iN)
               ·unfold cH aX aB;((repeat'(first|refine iF rfl rfl ?_|refine iC rfl rfl rfl ?_|refine iJ rfl rfl rfl rfl ?_));exact iN)
              ·exfalso;simp [aA,aC,aH] at b9;omega
            ·exfalso;simp [aA,aC] at b6;omega
           ·exfalso;simp [aA,aC,aH] at b5;omega
          ·have hi0:i=0:=(by simp [aA,aC] at b4;omega);have hyes:B2 l i=true:=(by rw [B2,hr,hi0];rfl);((conv=>whnf);refine bm (fun b9=>?_) (fun b9=>?_))
           ·(conv=>whnf);refine⟨l.length - (i+1),by omega,?_⟩;refine aK (e0:=NY l.length c1 (j+1)) (h0:=cH l m c1 c2 n) (n0:=3) ⟨i+1,j+1,by omega,by omega,rfl,fun t ht=>?_,rfl,rfl,rfl⟩ ?_ ?_ (by decide)
            ·by_cases hti:t=i
             ·rw [hti];exact hyes
             ·exact hpt t (by omega)
            ·unfold NY;((repeat' refine iE rfl rfl ?_);exact iN)
            ·unfold cH aX aB;((repeat'(first|refine iF rfl rfl ?_|refine iC rfl rfl rfl ?_|refine iJ rfl rfl rfl rfl ?_));exact iN)
           ·exfalso;simp [aA,aC,aH] at b9;omega
         ·have hr:aZ (fT l i)=false:=(by simpa [aA,aC] using b3);(conv=>whnf);rw [aBp hlt (show B2 l i=false by rw [B2,hr];rfl)]
        ·exfalso;simp [aA,aC] at b2;omega
       ·have hge:i=l.length:=(by simp [aA,aC] at b1;omega);subst hge;clear b1 hi hj;((conv=>whnf);refine bm (fun m1=>?_) (fun m1=>?_))
        ·(conv=>whnf);refine⟨fun q e h nx=>∃ (i:Nat) (j:Int),j=i∧i≤m.length∧q=m.length - i∧(∀ t,t<i→G6 l m t=true)∧e=BM l.length m.length c2 j∧h=bJ l m c1 c2 n (mH m (List.replicate l.length false) i)∧nx=4,⟨m.length,?_⟩,?_⟩
         ·refine aK (e0:=BM l.length m.length c2 0) (h0:=bJ l m c1 c2 n (List.replicate l.length false)) (n0:=4) ⟨0,0,rfl,Nat.zero_le _,rfl,fun t ht=>absurd ht (Nat.not_lt_zero t),rfl,rfl,rfl⟩ ?_ ?_ (by decide)
          ·unfold BM;((repeat' refine iE rfl rfl ?_);exact iN)
          ·unfold bJ cH aX aB;have hrep:=R9 l.length;((repeat'(first|refine iW rfl rfl (aW (aF fU _) hrep) ?_|refine iF rfl rfl ?_|refine iC rfl rfl rfl ?_|refine iJ rfl rfl rfl rfl ?_));exact iN)
         ·rintro q e h nx ⟨i,j,hj,hi,rfl,hed0,rfl,rfl,rfl⟩;have rl:(mH m (List.replicate l.length false) i).length=l.length:=(by rw [xV,List.length_replicate]);have nxt:mH m (List.replicate l.length false) (i+1)=((mH m (List.replicate l.length false) i).set (cC m i).a.toNat true).set (cC m i).b.toNat true:=rfl;generalize hs0:mH m (List.replicate l.length false) i=s at rl nxt;have hsl:(flat fU.fl s).length=l.length:=(by rw [bE,rl];exact Nat.mul_one _);unfold BM bJ cH aX aB;((conv=>whnf);refine bm (fun d1=>?_) (fun d1=>?_))
          ·have hlt:i<m.length:=(by simp [aA,aC] at d1;omega);((conv=>whnf);refine bm (fun d2=>?_) (fun d2=>?_))
           ·(conv=>whnf);refine oA (EX m (i:=i) hlt ?_) ?_
            ·show _+Int.toNat j*5=_;omega
            generalize hed:cC m i=ed at nxt;((conv=>whnf);refine bm (fun f1=>?_) (fun f1=>?_))
            ·have f1:0≤ed.a:=(by simp [aA,aC] at f1;omega);((conv=>whnf);refine bm (fun f2=>?_) (fun f2=>?_))
             ·have f2:ed.a<ed.b:=(by simp [aA,aC] at f2;omega);((conv=>whnf);refine bm (fun f3=>?_) (fun f3=>?_))
              ·have f3:ed.b<l.length:=(by simp [aA,aC] at f3;omega);((conv=>whnf);refine bm (fun f4=>?_) (fun f4=>?_))
               ·have f4 : -1≤ed.n:=(by simp [aA,aC] at f4;omega);((conv=>whnf);refine bm (fun f5=>?_) (fun f5=>?_))
                ·have f5:200≤ed.n:=(by simp [aA,aC] at f5;omega);(conv=>whnf);rw [AF hlt (nN hed (by omega))]
                ·have f5:ed.n<200:=(by simp [aA,aC] at f5;omega);((conv=>whnf);refine bm (fun f6=>?_) (fun f6=>?_))
                 ·have f6:0<i:=(by simp [aA,aC] at f6;omega);((conv=>whnf);refine bm (fun f7=>?_) (fun f7=>?_))
                  ·((conv=>whnf);refine bm (fun f8=>?_) (fun f8=>?_))
                   ·(conv=>whnf);refine iB (HU m 0 (i:=i - 1) (by omega) rfl (by decide) ?_) ?_
                    ·show _+Int.toNat (j - 1)*5+0=_;omega
                    ((conv=>whnf);refine bm (fun f9=>?_) (fun f9=>?_))
                    ·((conv=>whnf);refine bm (fun f10=>?_) (fun f10=>?_))
                     ·(conv=>whnf);refine iB (HU m 1 (i:=i - 1) (by omega) rfl (by decide) ?_) ?_
                      ·show _+Int.toNat (j - 1)*5+1=_;omega
                      generalize hd0:cC m (i - 1)=dd;(conv=>whnf);refine⟨[gH dd.a ed.a,gH dd.b ed.b],⟨rfl,_,_,_,_,rfl,rfl⟩,?_⟩;((conv=>whnf);refine bm (fun f11=>?_) (fun f11=>?_))
                      ·have f11:bfE dd ed=false:=by
                        rw [SU];have:0≤WQ (gH dd.a ed.a) (gH dd.b ed.b):=(by simpa [aA,aC] using f11);exact decide_eq_false (by omega)
                       (conv=>whnf);rw [AF hlt (RG hed hd0 (by omega) f11)]
                      ·have f11:bfE dd ed=true:=by
                        rw [SU];have:¬ 0≤WQ (gH dd.a ed.a) (gH dd.b ed.b):=(by simpa [aA,aC] using f11);exact decide_eq_true (by omega)
                       have hyes:G6 l m i=true:=y6 hed ⟨f1,f2,f3,f4,f5⟩ (by rw [hd0,f11,Bool.or_true]);((conv=>whnf);refine bm (fun k1=>?_) (fun k1=>?_))
                       ·((conv=>whnf);refine bm (fun k2=>?_) (fun k2=>?_))
                        ·((conv=>whnf);refine bm (fun k3=>?_) (fun k3=>?_))
                         ·((conv=>whnf);refine bm (fun k4=>?_) (fun k4=>?_))
                          ·((conv=>whnf);refine bm (fun k5=>?_) (fun k5=>?_))
                           ·(conv=>whnf);refine⟨m.length - (i+1),by omega,?_⟩;refine aK (e0:=BM l.length m.length c2 (j+1)) (h0:=bJ l m c1 c2 n (mH m (List.replicate l.length false) (i+1))) (n0:=4) ⟨i+1,j+1,by omega,by omega,rfl,fun t ht=>?_,rfl,rfl,rfl⟩ ?_ ?_ (by decide)
                            ·by_cases hti:t=i
                             ·rw [hti];exact hyes
                             ·exact hed0 t (by omega)
                            ·unfold BM;((repeat' refine iE rfl rfl ?_);exact iN)
                            ·unfold bJ cH aX aB;have bO:=QB (s:=s) (a:=ed.a.toNat) (b:=ed.b.toNat) (o1:=0+ed.a.toNat*1) (o2:=0+ed.b.toNat*1) (by omega) (by omega) (by omega) (by omega);rw [nxt];((repeat'(first|refine iW rfl rfl (aW (aF fU _) bO) ?_|refine iF rfl rfl ?_|refine iC rfl rfl rfl ?_|refine iJ rfl rfl rfl rfl ?_));exact iN)
                           ·exfalso;simp [aA,aC,aH] at k5;omega
                          ·have hpl:(dJ (flat fU.fl s) (0+ed.a.toNat*1) [.bool true]).length=l.length:=(by rw [dH (by rw [hsl];show 0+ed.a.toNat*1+1≤l.length;omega)];exact hsl);have k4:(0+ed.b.toNat*1+1).ble (dJ (flat fU.fl s) (0+ed.a.toNat*1) [.bool true]).length=false:=k4;rw [hpl] at k4;exact dI k4 (by omega)
                         ·exfalso;simp [aA,aC] at k3;omega
                        ·rw [hsl] at k2;exact dI k2 (by show 0+ed.a.toNat*1+1≤l.length;omega)
                       ·exfalso;simp [aA,aC] at k1;omega
                     ·exfalso;simp [aA,aC] at f10;omega
                    ·exfalso;simp [aA,aC,aH] at f9;omega
                   ·exfalso;simp [aA,aC] at f8;omega
                  ·exfalso;simp [aA,aC,aH] at f7;omega
                 ·have f6:i=0:=(by simp [aA,aC] at f6;omega);have hyes:G6 l m i=true:=y6 hed ⟨f1,f2,f3,f4,f5⟩ (by simp [f6]);((conv=>whnf);refine bm (fun k1=>?_) (fun k1=>?_))
                  ·((conv=>whnf);refine bm (fun k2=>?_) (fun k2=>?_))
                   ·((conv=>whnf);refine bm (fun k3=>?_) (fun k3=>?_))
                    ·((conv=>whnf);refine bm (fun k4=>?_) (fun k4=>?_))
                     ·((conv=>whnf);refine bm (fun k5=>?_) (fun k5=>?_))
                      ·(conv=>whnf);refine⟨m.length - (i+1),by omega,?_⟩;refine aK (e0:=BM l.length m.length c2 (j+1)) (h0:=bJ l m c1 c2 n (mH m (List.replicate l.length false) (i+1))) (n0:=4) ⟨i+1,j+1,by omega,by omega,rfl,fun t ht=>?_,rfl,rfl,rfl⟩ ?_ ?_ (by decide)
                       ·by_cases hti:t=i
                        ·rw [hti];exact hyes
                        ·exact hed0 t (by omega)
                       ·unfold BM;((repeat' refine iE rfl rfl ?_);exact iN)
                       ·unfold bJ cH aX aB;have bO:=QB (s:=s) (a:=ed.a.toNat) (b:=ed.b.toNat) (o1:=0+ed.a.toNat*1) (o2:=0+ed.b.toNat*1) (by omega) (by omega) (by omega) (by omega);rw [nxt];((repeat'(first|refine iW rfl rfl (aW (aF fU _) bO) ?_|refine iF rfl rfl ?_|refine iC rfl rfl rfl ?_|refine iJ rfl rfl rfl rfl ?_));exact iN)
                      ·exfalso;simp [aA,aC,aH] at k5;omega
                     ·have hpl:(dJ (flat fU.fl s) (0+ed.a.toNat*1) [.bool true]).length=l.length:=(by rw [dH (by rw [hsl];show 0+ed.a.toNat*1+1≤l.length;omega)];exact hsl);have k4:(0+ed.b.toNat*1+1).ble (dJ (flat fU.fl s) (0+ed.a.toNat*1) [.bool true]).length=false:=k4;rw [hpl] at k4;exact dI k4 (by omega)
                    ·exfalso;simp [aA,aC] at k3;omega
                   ·rw [hsl] at k2;exact dI k2 (by show 0+ed.a.toNat*1+1≤l.length;omega)
                  ·exfalso;simp [aA,aC] at k1;omega
               ·have f4:¬ -1≤ed.n:=(by simp [aA,aC] at f4;omega);(conv=>whnf);rw [AF hlt (nN hed (by omega))]
              ·have f3:¬ ed.b<l.length:=(by simp [aA,aC] at f3;omega);(conv=>whnf);rw [AF hlt (nN hed (by omega))]
             ·have f2:¬ ed.a<ed.b:=(by simp [aA,aC] at f2;omega);(conv=>whnf);rw [AF hlt (nN hed (by omega))]
            ·have f1:¬ 0≤ed.a:=(by simp [aA,aC] at f1;omega);(conv=>whnf);rw [AF hlt (nN hed (by omega))]
           ·exfalso;simp [aA,aC] at d2;omega
          ·have hge:i=m.length:=(by simp [aA,aC] at d1;omega);subst hge;(conv=>whnf);refine⟨s,⟨rl.symm,_,_,_,_,rfl,by rw [List.drop_zero,List.take_length]⟩,?_⟩;((conv=>whnf);refine bm (fun g1=>?_) (fun g1=>?_))
           ·(conv=>whnf);rw [cX,hsz,eS hpt,eS hed0,hs0];show Value.bool (!(!(s.all id)))=_;rw [Bool.not_not];rfl
           ·exfalso;have g1:decide (s.length≤1000000)=false:=g1;simp at g1;omega
        ·exfalso;simp [aA,aC] at m1;omega
    ·have a4:n<1:=(by simp [aA,aC] at a4;omega);(conv=>whnf);rw [hszf (by omega)]
   ·have a3:400<m.length:=(by simp [aA,aC] at a3;omega);(conv=>whnf);rw [hszf (by omega)]
  ·have a2:m.length<3:=(by simp [aA,aC] at a2;omega);(conv=>whnf);rw [hszf (by omega)]
 ·have a1:400<l.length:=(by simp [aA,aC] at a1;omega);(conv=>whnf);rw [hszf (by omega)]
end Go.Aw
end

noncomputable section
namespace Go.Aw
theorem apart {F1 F2 G1 G2 s1 s2 t1 t2 c:Int}(hi:G1*s2 - G2*s1=F2*t1 - F1*t2)(hd:G1 - G2=F2 - F1)(hF:F1*F2<0)(hG:G1*G2<0)
  (h1:s1≤c) (h2:s2≤c) (h3:c+1≤t1) (h4:c+1≤t2):False:=by
 have key:∀ {F1 F2 G1 G2 s1 s2 t1 t2:Int},G1*s2 - G2*s1=F2*t1 - F1*t2→G1 - G2=F2 - F1→F1<0→0<F2→0<G1→G2<0→s1≤c→s2≤c→c+1≤t1→c+1≤t2→False:=by
  intro F1 F2 G1 G2 s1 s2 t1 t2 hi hd f1 f2 g1 g2 h1 h2 h3 h4;have e1:=Int.mul_le_mul_of_nonneg_left h2 (Int.le_of_lt g1);have e2:=Int.mul_le_mul_of_nonneg_left h1 (show 0≤-G2 by omega);have e3:=Int.mul_le_mul_of_nonneg_left h3 (Int.le_of_lt f2);have e4:=Int.mul_le_mul_of_nonneg_left h4 (show 0≤-F1 by omega);have d:(G1 - G2)*c=(F2 - F1)*c:=(by rw [hd]);simp only [Int.mul_add,Int.mul_one,Int.neg_mul,Int.sub_mul] at e1 e2 e3 e4 d;omega
 rcases Int.lt_or_le F1 0 with f1|f1
 ·have f2:0<F2:=by
   rcases Int.lt_or_le 0 F2 with h|h
   ·exact h
   ·have:=Int.mul_nonneg_of_nonpos_of_nonpos (Int.le_of_lt f1) h;omega
  rcases Int.lt_or_le G1 0 with g1|g1
  ·have g2:0<G2:=by
    rcases Int.lt_or_le 0 G2 with h|h
    ·exact h
    ·have:=Int.mul_nonneg_of_nonpos_of_nonpos (Int.le_of_lt g1) h;omega
   omega
  ·have g1':0<G1:=by
    rcases Int.lt_or_le 0 G1 with h|h
    ·exact h
    ·have:G1=0:=(by omega);rw [this] at hG;omega
   have g2:G2<0:=by
    rcases Int.lt_or_le G2 0 with h|h
    ·exact h
    ·have:=Int.mul_nonneg g1 h;omega
   exact key hi hd f1 f2 g1' g2 h1 h2 h3 h4
 ·have f1':0<F1:=by
   rcases Int.lt_or_le 0 F1 with h|h
   ·exact h
   ·have:F1=0:=(by omega);rw [this] at hF;omega
  have f2:F2<0:=by
   rcases Int.lt_or_le F2 0 with h|h
   ·exact h
   ·have:=Int.mul_nonneg f1 h;omega
  rcases Int.lt_or_le G1 0 with g1|g1
  ·have g2:0<G2:=by
    rcases Int.lt_or_le 0 G2 with h|h
    ·exact h
    ·have:=Int.mul_nonneg_of_nonpos_of_nonpos (Int.le_of_lt g1) h;omega
   exact key (F1:=F2) (F2:=F1) (G1:=G2) (G2:=G1) (s1:=s2) (s2:=s1) (t1:=t2) (t2:=t1) (by omega) (by omega) f2 f1' g2 g1 h2 h1 h4 h3
  ·have g2:G2<0:=by
    rcases Int.lt_or_le G2 0 with h|h
    ·exact h
    ·have:=Int.mul_nonneg g1 h;omega
   omega
theorem M4 {a b:Int}(h:GX a*GX b<0):a*b<0:=by
 unfold GX at h
 split at h <;> split at h <;> first
  |omega
  |(exact Int.mul_neg_of_neg_of_pos (by omega) (by omega))
  |(exact Int.mul_neg_of_pos_of_neg (by omega) (by omega))
  |(split at h <;> first|omega|(exact Int.mul_neg_of_neg_of_pos (by omega) (by omega))|(exact Int.mul_neg_of_pos_of_neg (by omega) (by omega)))
theorem YZ (s t:Sg):bA t.1 t.2 s.1 - bA t.1 t.2 s.2=bA s.1 s.2 t.2 - bA s.1 s.2 t.1:=by
 obtain⟨⟨a,b⟩,⟨c,d⟩⟩:=s;obtain⟨⟨e,f⟩,⟨g,h⟩⟩:=t;simp only [bA,Int.sub_mul,Int.mul_sub,Int.mul_comm,Int.mul_left_comm,Int.mul_assoc];omega
theorem aBe (s t:Sg):bA t.1 t.2 s.1*s.2.1 - bA t.1 t.2 s.2*s.1.1=bA s.1 s.2 t.2*t.1.1 - bA s.1 s.2 t.1*t.2.1:=by
 obtain⟨⟨a,b⟩,⟨c,d⟩⟩:=s;obtain⟨⟨e,f⟩,⟨g,h⟩⟩:=t;simp only [bA,Int.sub_mul,Int.mul_sub,Int.mul_comm,Int.mul_left_comm,Int.mul_assoc];omega
theorem aB9 (s t:Sg):bA t.1 t.2 s.1*s.2.2 - bA t.1 t.2 s.2*s.1.2=bA s.1 s.2 t.2*t.1.2 - bA s.1 s.2 t.1*t.2.2:=by
 obtain⟨⟨a,b⟩,⟨c,d⟩⟩:=s;obtain⟨⟨e,f⟩,⟨g,h⟩⟩:=t;simp only [bA,Int.sub_mul,Int.mul_sub,Int.mul_comm,Int.mul_left_comm,Int.mul_assoc];omega
theorem UE {a b c d:Int}(h:apI a b c d=true):(∃ k,a≤k∧b≤k∧k+1≤c∧k+1≤d)∨(∃ k,c≤k∧d≤k∧k+1≤a∧k+1≤b):=by
 unfold apI mxI mnI at h;simp only [Bool.or_eq_true,decide_eq_true_eq] at h;rcases h with h|h
 ·refine .inl ⟨if b > a then b else a,?_⟩;split at h <;> split at h <;> omega
 ·refine .inr ⟨if d > c then d else c,?_⟩;split at h <;> split at h <;> omega
theorem X6 {s t:Sg}(h:zY s t=true):¬ (bB s.1 s.2 t.1*bB s.1 s.2 t.2<0∧bB t.1 t.2 s.1*bB t.1 t.2 s.2<0):=by
 rintro ⟨h1,h2⟩;have h1:=M4 h1;have h2:=M4 h2;have d1:=YZ s t;have d2:=YZ t s;unfold zY at h;rw [Bool.or_eq_true] at h;rcases h with h|h
 ·rcases UE h with ⟨k,a1,a2,a3,a4⟩|⟨k,a1,a2,a3,a4⟩
  ·exact apart (aBe s t) d1 h1 h2 a1 a2 a3 a4
  ·exact apart (aBe t s) d2 h2 h1 a1 a2 a3 a4
 ·rcases UE h with ⟨k,a1,a2,a3,a4⟩|⟨k,a1,a2,a3,a4⟩
  ·exact apart (aB9 s t) d1 h1 h2 a1 a2 a3 a4
  ·exact apart (aB9 t s) d2 h2 h1 a1 a2 a3 a4
theorem aDL {s t:Sg}(h:zY s t=true)(p:Pt):¬ (oS p s=true∧oS p t=true):=by
 rintro ⟨h1,h2⟩;simp only [oS,XY,Bool.and_eq_true,decide_eq_true_eq] at h1 h2;obtain⟨⟨⟨x1,x2⟩,y1,y2⟩,_⟩:=h1;obtain⟨⟨⟨x3,x4⟩,y3,y4⟩,_⟩:=h2;unfold zY at h;rw [Bool.or_eq_true] at h;rcases h with h|h
 ·rcases UE h with ⟨k,a1,a2,a3,a4⟩|⟨k,a1,a2,a3,a4⟩ <;>
   (split at x1 <;> split at x2 <;> split at x3 <;> split at x4 <;> omega)
 ·rcases UE h with ⟨k,a1,a2,a3,a4⟩|⟨k,a1,a2,a3,a4⟩ <;>
   (split at y1 <;> split at y2 <;> split at y3 <;> split at y4 <;> omega)
theorem aBN {s t:Sg}(h:zY s t=true):eZ s t=0:=by
 unfold eZ;split
 ·rename_i hr;rw [VA s t hr.1 hr.2];have he:pO s t=[]:=by
   unfold pO;have:∀ p,lO s t [] p=[]:=fun p=>by
    unfold lO;rw [if_neg (fun hh=>aDL h p ⟨hh.1,hh.2.1⟩)]
   rw [this,this,this,this]
  unfold oP;rw [he];exact if_neg (X6 h)
 ·rfl
theorem aAb (s t:Sg):D5 s t=eZ s t:=by
 unfold D5;split
 ·rename_i h;rw [aBN h]
 ·rfl
end Go.Aw
end

noncomputable section
namespace Go.Aw
set_option maxRecDepth 100000
def B3 (v:Pt):Bool:=decide (v.2<0) || (decide (v.2=0)&&decide (v.1<0))
def aHr:Nat × XF:=(242,gX (s1 cP fun v=>(true,.bool (B3 v))))
theorem aKj:cO Go.Proofs.Tryz.prog aHr.1 aHr.2:=x1 cP (xl:=[]) .nil (fun _=>rfl) fun a _=>by
 obtain⟨ax,ay⟩:=a;unfold cV
 repeat' ((conv=>whnf);refine bm (fun h=>?_) (fun h=>?_))
 all_goals (conv=>whnf)
 all_goals (simp only [nK,IL,iQ,lJ,beq_iff_eq,beq_eq_false_iff_ne,ne_eq,Bool.not_eq_false,Bool.not_eq_true,decide_eq_true_eq,decide_eq_false_iff_not] at *)
 all_goals (show _=Value.bool (B3 _);unfold B3;simp_all)
def crP (w v:Pt):Int:=w.1*v.2 - w.2*v.1
def RJ (w v:Pt):Int:=if B3 w=B3 v then gH 0 (crP w v) else if B3 v=true then -1 else 1
def aHG:Nat × XF:=(210,gX (s2 cP cP fun w v=>(wide w&&wide v,iv (RJ w v))))
theorem aKx:cO Go.Proofs.Tryz.prog aHG.1 aHG.2:=x2 cP cP (xl:=[aHr,O8]) (.cons aKj (.cons RV .nil)) (fun _ _=>rfl) fun w v hp=>by
 obtain⟨wx,wy⟩:=w;obtain⟨vx,vy⟩:=v;simp only [wide,Bool.and_eq_true,decide_eq_true_eq] at hp;have m1:=qE (a:=wx) (b:=vy) (A:=1000000) (B:=1000000) (by omega) (by omega) (by omega) (by omega);have m2:=qE (a:=wy) (b:=vx) (A:=1000000) (B:=1000000) (by omega) (by omega) (by omega) (by omega);unfold cV
 repeat' ((conv=>whnf);refine bm (fun h=>?_) (fun h=>?_))
 all_goals (conv=>whnf)
 all_goals first
  |(exfalso;simp [aA,aC,aH] at h;omega)
  |(show iv _=iv (RJ _ _);unfold RJ;simp [aA,aC] at *;simp_all;done)
  |(show iv _=iv (RJ _ _);unfold RJ crP;simp [aA,aC] at *;simp_all)
  |trace_state
structure Dt where
 dx:Int
 dy:Int
 no:Int
 fr:Int
 tt:Int
def rK:El Dt:=⟨fun e=>[iv e.dx,iv e.dy,iv e.no,iv e.fr,iv e.tt],5,fun _=>rfl,fun _=>rfl,by decide⟩
def cA (m:List Dt)(i:Nat):Dt:=m.getD i ⟨0,0,0,0,0⟩
theorem pC {m:List Dt}{i:Nat}(h:i<m.length):cA m i=m[i]:=by
 unfold cA;rw [List.getD_eq_getElem?_getD,List.getElem?_eq_getElem h];rfl
theorem aEO (m:List Dt){i o:Nat}(hi:i<m.length)(ho:o=i*5):nO (flat rK.fl m) o 5=some [iv (cA m i).dx,iv (cA m i).dy,iv (cA m i).no,iv (cA m i).fr,iv (cA m i).tt]:=by
 rw [pC hi];exact y5 rK m hi ho
def eO (d:Dt):Pt:=(d.dx,d.dy)
theorem T2 (m:List Dt){i o:Nat}(hi:i<m.length)(ho:o=i*5):nO (flat rK.fl m) o 2=some [iv (eO (cA m i)).1,iv (eO (cA m i)).2]:=by
 have h1:nth (flat rK.fl m) o=some (iv (cA m i).dx):=by
  rw [pC hi];exact lL rK m hi (k:=0) rfl (by decide) (by rw [ho];rfl)
 have h2:nth (flat rK.fl m) (o+1)=some (iv (cA m i).dy):=by
  rw [pC hi];exact lL rK m hi (k:=1) rfl (by decide) (by rw [ho];rfl)
 simp only [nO,h1,h2];rfl
def ZM (h:Heap)(p:Nat)(D:List Dt):Prop:=∃ b c k0 k1 wr g sz r0 wr1 g1 sz1 r1 wr2 g2 sz2 cs n0 c0 n1 c1 F cc,
 look h p=some (.cells wr g sz (.pointer (some ⟨b,0,none⟩)::r0)) ∧
 look h b=some (.cells wr1 g1 sz1 (.slice (some ⟨k0,0,none⟩) n0 c0::.slice (some ⟨k1,0,none⟩) n1 c1::iv F::.slice (some ⟨c,0,none⟩) D.length cc::r1)) ∧
 look h c=some (.cells wr2 g2 sz2 cs)∧cs.take (flat rK.fl D).length=flat rK.fl D
def aBQ (D:List Dt):Bool:=D.all fun d=>wide (eO d)
def W8 (D:List Dt)(x y:Int):Int:=RJ (eO (cA D x.toNat)) (eO (cA D y.toNat))
def S1 (D:List Dt)(x y:Int):Bool:=decide (0≤x)&&decide (x<D.length)&&(decide (0≤y)&&decide (y<D.length))&&aBQ D
def aBs:Nat × XF:=(209,fun args h nx K=>∃ x y p D,args=[iv x,iv y,.pointer (some ⟨p,0,none⟩)]∧ZM h p D∧dK (S1 D x y) (K (iv (W8 D x y)) h nx))
def aGf (D:List Dt)(n0 c0 n1 c1:Nat)(F:Int)(cc:Nat):Heap:=[(0,.cells false false 1 [.pointer (some ⟨1,0,none⟩)]),(1,.cells false false 1 [.slice (some ⟨3,0,none⟩) n0 c0,.slice (some ⟨4,0,none⟩) n1 c1,iv F,.slice (some ⟨2,0,none⟩) D.length cc]),(2,.cells false true 5 (flat rK.fl D))]
def aKS (p b c k0 k1:Nat):Nat→Nat
 |0=>p
 |1=>b
 |2=>c
 |3=>k0
 |_=>k1
theorem aFX {h:Heap}{p nx:Nat}{D:List Dt}(hd:ZM h p D)(x y:Int):∃ n0 c0 n1 c1 F cc,In [iv x,iv y,.pointer (some ⟨0,0,none⟩)] (aGf D n0 c0 n1 c1 F cc) 5 [iv x,iv y,.pointer (some ⟨p,0,none⟩)] h nx:=by
 obtain⟨b,c,k0,k1,wr,g,sz,r0,wr1,g1,sz1,r1,wr2,g2,sz2,cs,n0,c0,n1,c1,F,cc,h1,h2,h3,h4⟩:=hd;refine⟨n0,c0,n1,c1,F,cc,tK (aKS p b c k0 k1) rfl ?_ ?_⟩
 ·refine List.forall_mem_cons.2 ⟨dE rfl,List.forall_mem_cons.2 ⟨dE rfl,List.forall_mem_cons.2 ⟨⟨by decide,rfl⟩,fun _ h=>by cases h⟩⟩⟩
 ·intro k o hk;unfold aGf at hk;rw [aD] at hk;split at hk
  ·rename_i hb;injection hk with hk;subst hk;rw [← beq_true hb]
   refine⟨by decide,false,1,_,rfl,by decide,(fun h=>by cases h),List.forall_mem_cons.2 ⟨⟨by decide,rfl⟩,fun _ h=>by cases h⟩,wr,g,sz,_,h1,rfl⟩
  rw [aD] at hk;split at hk
  ·rename_i hb;injection hk with hk;subst hk;rw [← beq_true hb]
   refine⟨by decide,false,1,_,rfl,by decide,(fun h=>by cases h),?_,wr1,g1,sz1,_,h2,rfl⟩;refine List.forall_mem_cons.2 ⟨⟨by decide,fun h=>by cases h⟩,List.forall_mem_cons.2 ⟨⟨by decide,fun h=>by cases h⟩,List.forall_mem_cons.2 ⟨cG rfl,List.forall_mem_cons.2 ⟨⟨by decide,fun h=>by cases h⟩,fun _ h=>by cases h⟩⟩⟩⟩
  rw [aD] at hk;split at hk
  ·rename_i hb;injection hk with hk;subst hk;rw [← beq_true hb]
   exact⟨by decide,true,5,_,rfl,by decide,fun _=>aF rK D,fun v hv=>cG (a9 (aF rK D) hv),wr2,g2,sz2,cs,h3,by rw [h4];exact (bL (aF rK D)).symm⟩
  ·exact bP hk
theorem aIM:cO Go.Proofs.Tryz.prog aBs.1 aBs.2:=by
 refine (gC (S:=fun args0 h0 n0 v1 h1 m=>∃ x y D n1 c1 n2 c2 F cc,S1 D x y=true∧args0=[iv x,iv y,.pointer (some ⟨0,0,none⟩)]∧h0=aGf D n1 c1 n2 c2 F cc∧n0=5∧v1=iv (W8 D x y)∧h1=[]∧m=0) (aL (xl:=[aHG]) (.cons aKx .nil)) ?_).mono ?_ ?_
 ·rintro args0 h0 n0 v1 h1 m ⟨x,y,D,n1,c1,n2,c2,F,cc,hok,rfl,rfl,rfl,rfl,rfl,rfl⟩;refine⟨rfl,fun u _ _=>u=iv (W8 D x y),?_,fun v h nx e=>by rw [e];exact kH rfl⟩;simp only [S1,Bool.and_eq_true,decide_eq_true_eq] at hok;obtain⟨⟨⟨h0,h1⟩,h2,h3⟩,hw⟩:=hok;have wx:wide (eO (cA D x.toNat))=true:=by
   rw [pC (by omega)];exact List.all_eq_true.1 hw _ (List.getElem_mem _)
  have wy:wide (eO (cA D y.toNat))=true:=by
   rw [pC (by omega)];exact List.all_eq_true.1 hw _ (List.getElem_mem _)
  ((conv=>whnf);refine bm (fun a1=>?_) (fun a1=>?_))
  ·(conv=>whnf);refine oA (T2 D (i:=x.toNat) (by omega) ?_) ?_
   ·show _+Int.toNat x*5=_;omega
   ((conv=>whnf);refine bm (fun a2=>?_) (fun a2=>?_))
   ·(conv=>whnf);refine oA (T2 D (i:=y.toNat) (by omega) ?_) ?_
    ·show _+Int.toNat y*5=_;omega
    ((conv=>whnf);refine bm (fun a3=>?_) (fun a3=>?_))
    ·(conv=>whnf);rfl
    ·exfalso;have a3:(wide (eO (cA D x.toNat))&&wide (eO (cA D y.toNat)))=false:=a3;rw [wx,wy] at a3;cases a3
   ·exfalso;simp [aA,aC] at a2;omega
  ·exfalso;simp [aA,aC] at a1;omega
 ·rintro args h nx K ⟨x,y,p,D,rfl,hd,hx⟩;obtain⟨hb,hx⟩:=aG.1 hx;obtain⟨n0,c0,n1,c1,F,cc,i⟩:=aFX (nx:=nx) hd x y;refine⟨_,_,5,_,[],0,⟨x,y,D,n0,c0,n1,c1,F,cc,hb,rfl,rfl,rfl,rfl,rfl,rfl⟩,i,?_⟩;exact hx
 ·rintro args h nx K ⟨x,y,p,D,rfl,hd,hx⟩;obtain⟨hb,hx⟩:=aG.1 hx;exact⟨_,_,_,hx,fun K' hk'=>⟨x,y,p,D,rfl,hd,aJ hb hk'⟩⟩
end Go.Aw
end
