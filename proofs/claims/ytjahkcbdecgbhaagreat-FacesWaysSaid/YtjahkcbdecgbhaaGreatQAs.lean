/-
  Parts of a proof. No condition.
-/
import Derived.Test.YtjahkcbdecgbhaaGreatQAq
import Derived.Test.YtjahkcbdecgbhaaGreatQAr
set_option linter.unusedSimpArgs false
set_option linter.unusedVariables false
noncomputable section
namespace Go.Aw
set_option maxRecDepth 100000
def gI:El Bool:=⟨fun b=>[.bool b],1,fun _=>rfl,fun _=>rfl,by decide⟩
def dD (k:List Bool)(i:Nat):Bool:=k.getD i false
theorem rX {k:List Bool}{i:Nat}(h:i<k.length):dD k i=k[i]:=by
 unfold dD;rw [List.getD_eq_getElem?_getD,List.getElem?_eq_getElem h];rfl
theorem PJ (k:List Bool){i o:Nat}(hi:i<k.length)(ho:o=i*1):nth (flat gI.fl k) o=some (.bool (dD k i)):=by
 rw [rX hi];exact oG gI k hi (k:=0) rfl Nat.one_pos (by rw [ho];rfl)
def eF (l:List Pt)(i:Int):Pt:=jG l i.toNat
def pU (l:List Pt)(m:List Ed):Bool:=l.all wide&&m.all (fun e=>decide (0≤e.a)&&decide (e.a<l.length)&&decide (0≤e.b)&&decide (e.b<l.length))&&decide (m.length≤1000)&&decide (l.length≤1000)
theorem rS {l:List Pt}{m:List Ed}(h:pU l m=true){i:Nat}(hi:i<m.length):0≤(cH m i).a∧(cH m i).a<l.length∧0≤(cH m i).b∧(cH m i).b<l.length:=by
 simp only [pU,Bool.and_eq_true] at h;have:=List.all_eq_true.1 h.1.1.2 _ (List.getElem_mem hi);rw [LS hi];simp only [Bool.and_eq_true,decide_eq_true_eq] at this;omega
theorem uJ {l:List Pt}{m:List Ed}(h:pU l m=true){d:Int}(hd:pD m d=true):0≤cG m d∧cG m d<l.length:=by
 simp only [pD,Bool.and_eq_true,decide_eq_true_eq] at hd;have:=rS h (i:=(d / 2).toNat) (by omega);unfold cG;split <;> omega
theorem FY {l:List Pt}{m:List Ed}(h:pU l m=true){d:Int}(hd:pD m d=true):0≤iH m d∧iH m d<l.length:=uJ h (aDe hd)
theorem qF {l:List Pt}{m:List Ed}(h:pU l m=true){i:Int}(h0:0≤i)(h1:i<l.length):wide (eF l i)=true:=by
 simp only [pU,Bool.and_eq_true] at h;unfold eF;rw [n9 (by omega)];exact List.all_eq_true.1 h.1.1.1 _ (List.getElem_mem _)
def gH (l:List Pt)(m:List Ed)(k:List Bool)(d:Int):Nat→Int
 |0=>-1
 |j+1=>if (dD k j=true∧cG m j=iH m d)∧(gH l m k d j<0∨qS (eF l (iH m d)) (eF l (cG m d)) (eF l (iH m j)) (eF l (iH m (gH l m k d j)))=true) then j else gH l m k d j
theorem AL (l:List Pt)(m:List Ed)(k:List Bool)(d:Int):∀ j:Nat,-1≤gH l m k d j∧gH l m k d j<j
 |0=>by unfold gH;omega
 |j+1=>by
  have:=AL l m k d j;unfold gH;split <;> omega
theorem aEv {l:List Pt}{m:List Ed}{k:List Bool}{d:Int}{j:Nat}(h:¬ ((dD k j=true∧cG m j=iH m d)∧(gH l m k d j<0∨qS (eF l (iH m d)) (eF l (cG m d)) (eF l (iH m j)) (eF l (iH m (gH l m k d j)))=true))):gH l m k d (j+1)=gH l m k d j:=by
 conv=>lhs;unfold gH
 exact if_neg h
theorem aI1 {l:List Pt}{m:List Ed}{k:List Bool}{d:Int}{j:Nat}(h:((dD k j=true∧cG m j=iH m d)∧(gH l m k d j<0∨qS (eF l (iH m d)) (eF l (cG m d)) (eF l (iH m j)) (eF l (iH m (gH l m k d j)))=true))):gH l m k d (j+1)=j:=by
 conv=>lhs;unfold gH
 exact if_pos h
def aIt (l:List Pt)(m:List Ed)(n:Int)(k:List Bool):List Value→Option (Bool × Value)
 |[.int .i64 d]=>some (pU l m&&pD m d&&decide (k.length=2*m.length),iv (gH l m k d (2*m.length)))
 |_=>none
theorem aCX {l:List Pt}{m:List Ed}{n:Int}{k:List Bool}{r:List Value}{v:Value}(h:aIt l m n k r=some (true,v)):∃ d,r=[iv d]∧pU l m=true∧pD m d=true∧k.length=2*m.length∧v=iv (gH l m k d (2*m.length)):=by
 unfold aIt at h;split at h
 ·rename_i d;injection h with h;injection h with h1 h2;simp only [Bool.and_eq_true,decide_eq_true_eq] at h1;exact⟨d,rfl,h1.1.1,h1.1.2,h1.2,h2.symm⟩
 ·cases h
def aX (a b:Nat)(c1 c2:Nat)(n:Int):a8:=.cells true false 1 [.slice (some ⟨0,0,none⟩) a c1,.slice (some ⟨1,0,none⟩) b c2,iv n]
def V3 (k:List Bool)(c3:Nat)(d at_ best j:Int):List (Nat × Value):=[(2,.slice (some ⟨2,0,none⟩) k.length c3),(3,.pointer (some ⟨3,0,none⟩)),(7,.pointer (some ⟨4,0,none⟩)),(8,iv at_),(9,.pointer (some ⟨5,0,none⟩)),(10,iv best),(11,iv j)]
def VT (l:List Pt)(m:List Ed)(k:List Bool)(c1 c2:Nat)(n:Int)(u v:Pt):Heap:=(5,.cells true false 1 [iv v.1,iv v.2])::(4,.cells true false 1 [iv u.1,iv u.2])::(3,aX l.length m.length c1 c2 n)::j4 aT aW gI l m k
def X79:Nat × XF:=(79,mLX aT aW gI aIt)
theorem x79:cT Go.Proofs.Tryz.prog X79.1 X79.2:=aCa aT aW gI (aL (xl:=[X87,aDw,aGN]) (.cons x87 (.cons aJs (.cons aMZ .nil)))) fun l m n k r v hs=>by
 obtain⟨d,rfl,hM,hd,hk,rfl⟩:=aCX hs;refine⟨rfl,rfl,fun c1 c2 c3=>?_⟩;have hf:=uJ hM hd;have ht:=FY hM hd;have hm:m.length≤1000:=(by simp only [pU,Bool.and_eq_true,decide_eq_true_eq] at hM;exact hM.1.2);(conv=>whnf);refine⟨l,m,aJ aT rfl,aJ aW rfl,?_⟩;((conv=>whnf);apply bm<;>intro h1);rotate_left
 ·exfalso;rw [show pD m d=false from h1] at hd;cases hd
 ((conv=>whnf);apply bm<;>intro h2);rotate_left
 ·exfalso;simp [aA,aC] at h2;omega
 (conv=>whnf);refine nN (jP l (i:=(cG m d).toNat) (by omega) ?_) ?_
 ·show _+Int.toNat (cG m d)*2=_;omega
 (conv=>whnf);refine⟨l,m,aJ aT rfl,aJ aW rfl,?_⟩;((conv=>whnf);apply bm<;>intro h3);rotate_left
 ·exfalso;rw [show pD m d=false from h3] at hd;cases hd
 ((conv=>whnf);apply bm<;>intro h4);rotate_left
 ·exfalso;simp [aA,aC] at h4;omega
 (conv=>whnf);refine nN (jP l (i:=(iH m d).toNat) (by omega) ?_) ?_
 ·show _+Int.toNat (iH m d)*2=_;omega
 (conv=>whnf);refine⟨fun q e h nx=>∃ (i:Nat) (j:Int),j=i∧i≤2*m.length∧q=2*m.length - i∧e=V3 k c3 d (iH m d) (gH l m k d i) j∧h=VT l m k c1 c2 n (eF l (cG m d)) (eF l (iH m d))∧nx=6,⟨2*m.length,?_⟩,?_⟩
 ·refine aO (e0:=V3 k c3 d (iH m d) (-1) 0) (h0:=VT l m k c1 c2 n (eF l (cG m d)) (eF l (iH m d))) (n0:=6) ⟨0,0,rfl,Nat.zero_le _,rfl,rfl,rfl,rfl⟩ ?_ ?_ (by decide)
  ·unfold V3;((repeat' refine iE rfl rfl ?_);exact iN)
  unfold VT aX j4;((repeat'(first|refine iF rfl rfl ?_|refine iC rfl rfl rfl ?_|refine iJ rfl rfl rfl rfl ?_));exact iN)
 rintro q e h nx ⟨i,j,hj,hi,rfl,rfl,rfl,rfl⟩;unfold V3 VT aX j4;have lo:=AL l m k d i;((conv=>whnf);apply bm<;>intro h5);rotate_left
 ·exfalso;simp [aA,aC,aF] at h5;omega
 ((conv=>whnf);apply bm<;>intro h6);rotate_left
 ·have hge:i=2*m.length:=(by simp [aA,aC] at h6;omega);(conv=>whnf);rw [hge]
 have hlt:i<2*m.length:=(by simp [aA,aC] at h6;omega);have hdj:pD m j=true:=(by simp only [pD,Bool.and_eq_true,decide_eq_true_eq];omega);have hfj:=uJ hM hdj;have htj:=FY hM hdj;((conv=>whnf);apply bm<;>intro h7);rotate_left
 ·exfalso;simp [aA,aC] at h7;omega
 (conv=>whnf);refine eC (PJ k (i:=i) (by omega) ?_) ?_
 ·show _+Int.toNat j*1=_;omega
 ((conv=>whnf);apply bm<;>intro h8);rotate_left
 ·have h8:dD k i=false:=(by simpa [aA,aC] using h8);((conv=>whnf);apply bm<;>intro h11)
  ·(conv=>whnf);refine⟨2*m.length - (i+1),by omega,?_⟩;refine aO (e0:=V3 k c3 d (iH m d) (gH l m k d i) (j+1)) (h0:=VT l m k c1 c2 n (eF l (cG m d)) (eF l (iH m d))) (n0:=6) ⟨i+1,j+1,by omega,by omega,rfl,?_,rfl,rfl⟩ ?_ ?_ (by decide)
   ·rw [aEv (fun hh=>by rw [h8] at hh;cases hh.1.1)];rfl
   ·unfold V3;((repeat' refine iE rfl rfl ?_);exact iN)
   unfold VT aX j4;((repeat'(first|refine iF rfl rfl ?_|refine iC rfl rfl rfl ?_|refine iJ rfl rfl rfl rfl ?_));exact iN)
  exfalso;simp [aA,aC,aF] at h11;omega
 (conv=>whnf);refine⟨l,m,aJ aT rfl,aJ aW rfl,?_⟩;((conv=>whnf);apply bm<;>intro h9);rotate_left
 ·exfalso;rw [show pD m j=false from h9] at hdj;cases hdj
 ((conv=>whnf);apply bm<;>intro h10)
 ·have h10:cG m j≠iH m d:=(by simpa [aA,aC] using h10);((conv=>whnf);apply bm<;>intro h11)
  ·(conv=>whnf);refine⟨2*m.length - (i+1),by omega,?_⟩;refine aO (e0:=V3 k c3 d (iH m d) (gH l m k d i) (j+1)) (h0:=VT l m k c1 c2 n (eF l (cG m d)) (eF l (iH m d))) (n0:=6) ⟨i+1,j+1,by omega,by omega,rfl,?_,rfl,rfl⟩ ?_ ?_ (by decide)
   ·rw [aEv (fun hh=>h10 (by rw [hj];exact hh.1.2))];rfl
   ·unfold V3;((repeat' refine iE rfl rfl ?_);exact iN)
   unfold VT aX j4;((repeat'(first|refine iF rfl rfl ?_|refine iC rfl rfl rfl ?_|refine iJ rfl rfl rfl rfl ?_));exact iN)
  exfalso;simp [aA,aC,aF] at h11;omega
 have h10:cG m j=iH m d:=(by simpa [aA,aC] using h10);(conv=>whnf);refine⟨l,m,aJ aT rfl,aJ aW rfl,?_⟩;((conv=>whnf);apply bm<;>intro h11);rotate_left
 ·exfalso;rw [show pD m j=false from h11] at hdj;cases hdj
 ((conv=>whnf);apply bm<;>intro h12);rotate_left
 ·exfalso;simp [aA,aC] at h12;omega
 (conv=>whnf);refine nN (jP l (i:=(iH m j).toNat) (by omega) ?_) ?_
 ·show _+Int.toNat (iH m j)*2=_;omega
 have h8:dD k i=true:=(by simpa [aA,aC] using h8);have h10':cG m i=iH m d:=(by rw [← hj];exact h10);((conv=>whnf);apply bm<;>intro h13);rotate_left
 ·have h13:gH l m k d i<0:=(by simpa [aA,aC] using h13);((conv=>whnf);apply bm<;>intro h18)
  ·(conv=>whnf);refine⟨2*m.length - (i+1),by omega,?_⟩;refine aO (e0:=V3 k c3 d (iH m d) (j) (j+1)) (h0:=VT l m k c1 c2 n (eF l (cG m d)) (eF l (iH m d))) (n0:=6) ⟨i+1,j+1,by omega,by omega,rfl,?_,rfl,rfl⟩ ?_ ?_ (by decide)
   ·rw [aI1 ⟨⟨h8,h10'⟩,.inl h13⟩,hj];rfl
   ·unfold V3;((repeat' refine iE rfl rfl ?_);exact iN)
   unfold VT aX j4;((repeat'(first|refine iF rfl rfl ?_|refine iC rfl rfl rfl ?_|refine iJ rfl rfl rfl rfl ?_));exact iN)
  exfalso;simp [aA,aC,aF] at h18;omega
 have h13:¬ gH l m k d i<0:=(by simpa [aA,aC] using h13);have hdb:pD m (gH l m k d i)=true:=(by simp only [pD,Bool.and_eq_true,decide_eq_true_eq];omega);have htb:=FY hM hdb;(conv=>whnf);refine⟨l,m,aJ aT rfl,aJ aW rfl,?_⟩;((conv=>whnf);apply bm<;>intro h14);rotate_left
 ·exfalso;rw [show pD m (gH l m k d i)=false from h14] at hdb;cases hdb
 ((conv=>whnf);apply bm<;>intro h15);rotate_left
 ·exfalso;simp [aA,aC] at h15;omega
 (conv=>whnf);refine nN (jP l (i:=(iH m (gH l m k d i)).toNat) (by omega) ?_) ?_
 ·show _+Int.toNat (iH m (gH l m k d i))*2=_;omega
 ((conv=>whnf);apply bm<;>intro h16);rotate_left
 ·exfalso;have e1:=qF hM ht.1 ht.2;have e2:=qF hM hf.1 hf.2;have e3:=qF hM htj.1 htj.2;have e4:=qF hM htb.1 htb.2;have h16:(wide (eF l (iH m d))&&wide (eF l (cG m d))&&wide (eF l (iH m j))&&wide (eF l (iH m (gH l m k d i))))=false:=h16;rw [e1,e2,e3,e4] at h16;cases h16
 ((conv=>whnf);apply bm<;>intro h17)
 ·have h17:qS (eF l (iH m d)) (eF l (cG m d)) (eF l (iH m i)) (eF l (iH m (gH l m k d i)))=true:=(by rw [← hj];exact h17);((conv=>whnf);apply bm<;>intro h18)
  ·(conv=>whnf);refine⟨2*m.length - (i+1),by omega,?_⟩;refine aO (e0:=V3 k c3 d (iH m d) (j) (j+1)) (h0:=VT l m k c1 c2 n (eF l (cG m d)) (eF l (iH m d))) (n0:=6) ⟨i+1,j+1,by omega,by omega,rfl,?_,rfl,rfl⟩ ?_ ?_ (by decide)
   ·rw [aI1 ⟨⟨h8,h10'⟩,.inr h17⟩,hj];rfl
   ·unfold V3;((repeat' refine iE rfl rfl ?_);exact iN)
   unfold VT aX j4;((repeat'(first|refine iF rfl rfl ?_|refine iC rfl rfl rfl ?_|refine iJ rfl rfl rfl rfl ?_));exact iN)
  exfalso;simp [aA,aC,aF] at h18;omega
 have h17:¬ qS (eF l (iH m d)) (eF l (cG m d)) (eF l (iH m i)) (eF l (iH m (gH l m k d i)))=true:=(by rw [← hj];exact fun hh=>Bool.false_ne_true (h17.symm.trans hh));((conv=>whnf);apply bm<;>intro h18)
 ·(conv=>whnf);refine⟨2*m.length - (i+1),by omega,?_⟩;refine aO (e0:=V3 k c3 d (iH m d) (gH l m k d i) (j+1)) (h0:=VT l m k c1 c2 n (eF l (cG m d)) (eF l (iH m d))) (n0:=6) ⟨i+1,j+1,by omega,by omega,rfl,?_,rfl,rfl⟩ ?_ ?_ (by decide)
  ·rw [aEv (fun hh=>hh.2.elim h13 h17)];rfl
  ·unfold V3;((repeat' refine iE rfl rfl ?_);exact iN)
  unfold VT aX j4;((repeat'(first|refine iF rfl rfl ?_|refine iC rfl rfl rfl ?_|refine iJ rfl rfl rfl rfl ?_));exact iN)
 exfalso;simp [aA,aC,aF] at h18;omega
def aD (k:List Int)(i:Nat):Int:=k.getD i 0
theorem dM {k:List Int}{i:Nat}(h:i<k.length):aD k i=k[i]:=by
 unfold aD;rw [List.getD_eq_getElem?_getD,List.getElem?_eq_getElem h];rfl
theorem bY (k:List Int){i o:Nat}(hi:i<k.length)(ho:o=i*1):nth (flat aP.fl k) o=some (iv (aD k i)):=by
 rw [dM hi];exact oG aP k hi (k:=0) rfl Nat.one_pos (by rw [ho];rfl)
def N4 (l:List Pt)(m:List Ed)(d:Int):Int:=(eF l (cG m d)).1*(eF l (iH m d)).2 - (eF l (iH m d)).1*(eF l (cG m d)).2
def mV (l:List Pt)(m:List Ed)(k:List Int):Nat→Int
 |0=>0
 |i+1=>mV l m k i+N4 l m (aD k i)
theorem Q7 {p:Pt}(h:wide p=true) : -1000000≤p.1∧p.1≤1000000∧-1000000≤p.2∧p.2≤1000000:=by
 simp only [wide,Bool.and_eq_true,decide_eq_true_eq] at h;omega
theorem PS {l:List Pt}{m:List Ed}(hM:pU l m=true){d:Int}(hd:pD m d=true) :
  -1000000000000≤(eF l (cG m d)).1*(eF l (iH m d)).2∧(eF l (cG m d)).1*(eF l (iH m d)).2≤1000000000000∧-1000000000000≤(eF l (iH m d)).1*(eF l (cG m d)).2∧(eF l (iH m d)).1*(eF l (cG m d)).2≤1000000000000:=by
 have hf:=uJ hM hd;have ht:=FY hM hd;have w1:=Q7 (qF hM hf.1 hf.2);have w2:=Q7 (qF hM ht.1 ht.2);have m1:=wL (a:=(eF l (cG m d)).1) (b:=(eF l (iH m d)).2) (A:=1000000) (B:=1000000) (by omega) (by omega) (by omega) (by omega);have m2:=wL (a:=(eF l (iH m d)).1) (b:=(eF l (cG m d)).2) (A:=1000000) (B:=1000000) (by omega) (by omega) (by omega) (by omega);omega
theorem N7 {l:List Pt}{m:List Ed}{k:List Int}(hM:pU l m=true)(hk:∀ i,i<k.length→pD m (aD k i)=true):∀ i,i≤k.length→-2000000000000*(i:Int)≤mV l m k i∧mV l m k i≤2000000000000*(i:Int)
 |0,_=>by unfold mV;omega
 |i+1,hi=>by
  have h1:=N7 hM hk i (by omega);have h2:=PS hM (hk i (by omega));unfold mV N4;omega
def T6 (m:List Ed)(k:List Int):Bool:=k.all (pD m)
theorem zD {m:List Ed}{k:List Int}(h:T6 m k=true){i:Nat}(hi:i<k.length):pD m (aD k i)=true:=by
 rw [dM hi];exact List.all_eq_true.1 h _ (List.getElem_mem hi)
def aHa (l:List Pt)(m:List Ed)(n:Int)(k:List Int):List Value→Option (Bool × Value)
 |[]=>some (pU l m&&T6 m k&&decide (k.length≤10000),iv (mV l m k k.length))
 |_=>none
theorem aBi {l:List Pt}{m:List Ed}{n:Int}{k:List Int}{r:List Value}{v:Value}(h:aHa l m n k r=some (true,v)):r=[]∧pU l m=true∧T6 m k=true∧k.length≤10000∧v=iv (mV l m k k.length):=by
 unfold aHa at h;split at h
 ·injection h with h;injection h with h1 h2;simp only [Bool.and_eq_true,decide_eq_true_eq] at h1;exact⟨rfl,h1.1.1,h1.1.2,h1.2,h2.symm⟩
 ·cases h
def e90 (k:List Int)(c3:Nat)(a j:Int):List (Nat × Value):=[(1,.slice (some ⟨2,0,none⟩) k.length c3),(2,.pointer (some ⟨3,0,none⟩)),(5,iv a),(6,iv j)]
def h90 (l:List Pt)(m:List Ed)(k:List Int)(c1 c2:Nat)(n:Int):Heap:=(3,aX l.length m.length c1 c2 n)::j4 aT aW aP l m k
def X90:Nat × XF:=(90,mLX aT aW aP aHa)
theorem x90:cT Go.Proofs.Tryz.prog X90.1 X90.2:=aCa aT aW aP (aL (xl:=[X87,aDw]) (.cons x87 (.cons aJs .nil))) fun l m n k r v hs=>by
 obtain⟨rfl,hM,hkk,hk,rfl⟩:=aBi hs;refine⟨rfl,rfl,fun c1 c2 c3=>?_⟩;have hm:m.length≤1000:=(by simp only [pU,Bool.and_eq_true,decide_eq_true_eq] at hM;exact hM.1.2);(conv=>whnf);refine⟨fun q e h nx=>∃ (i:Nat) (j:Int),j=i∧i≤k.length∧q=k.length - i∧e=e90 k c3 (mV l m k i) j∧h=h90 l m k c1 c2 n∧nx=4,⟨k.length,?_⟩,?_⟩
 ·refine aO (e0:=e90 k c3 0 0) (h0:=h90 l m k c1 c2 n) (n0:=4) ⟨0,0,rfl,Nat.zero_le _,rfl,rfl,rfl,rfl⟩ ?_ ?_ (by decide)
  ·unfold e90;((repeat' refine iE rfl rfl ?_);exact iN)
  unfold h90 aX j4;((repeat'(first|refine iF rfl rfl ?_|refine iC rfl rfl rfl ?_|refine iJ rfl rfl rfl rfl ?_));exact iN)
 rintro q e h nx ⟨i,j,hj,hi,rfl,rfl,rfl,rfl⟩;unfold e90 h90 aX j4;((conv=>whnf);apply bm<;>intro h6);rotate_left
 ·have hge:i=k.length:=(by simp [aA,aC] at h6;omega);(conv=>whnf);rw [hge]
 have hlt:i<k.length:=(by simp [aA,aC] at h6;omega);have hdj:=zD hkk hlt;have hf:=uJ hM hdj;have ht:=FY hM hdj;have lo:=N7 hM (fun i hi=>zD hkk hi) i hi;have pl:=PS hM hdj;((conv=>whnf);apply bm<;>intro h7);rotate_left
 ·exfalso;simp [aA,aC] at h7;omega
 (conv=>whnf);refine eC (bY k (i:=i) hlt ?_) ?_
 ·show _+Int.toNat j*1=_;omega
 (conv=>whnf);refine⟨l,m,aJ aT rfl,aJ aW rfl,?_⟩;((conv=>whnf);apply bm<;>intro h8);rotate_left
 ·exfalso;rw [show pD m (aD k i)=false from h8] at hdj;cases hdj
 ((conv=>whnf);apply bm<;>intro h9);rotate_left
 ·exfalso;simp [aA,aC] at h9;omega
 (conv=>whnf);refine nN (jP l (i:=(cG m (aD k i)).toNat) (by omega) ?_) ?_
 ·show _+Int.toNat (cG m (aD k i))*2=_;omega
 ((conv=>whnf);apply bm<;>intro h10);rotate_left
 ·exfalso;simp [aA,aC] at h10;omega
 (conv=>whnf);refine eC (bY k (i:=i) hlt ?_) ?_
 ·show _+Int.toNat j*1=_;omega
 (conv=>whnf);refine⟨l,m,aJ aT rfl,aJ aW rfl,?_⟩;((conv=>whnf);apply bm<;>intro h11);rotate_left
 ·exfalso;rw [show pD m (aD k i)=false from h11] at hdj;cases hdj
 ((conv=>whnf);apply bm<;>intro h12);rotate_left
 ·exfalso;simp [aA,aC] at h12;omega
 (conv=>whnf);refine nN (jP l (i:=(iH m (aD k i)).toNat) (by omega) ?_) ?_
 ·show _+Int.toNat (iH m (aD k i))*2=_;omega
 repeat' ((conv=>whnf);apply bm<;>intro h13)
 all_goals try (exfalso;simp [aA,aC,aF] at h13;simp only [eF] at *;omega)
 (conv=>whnf);refine⟨k.length - (i+1),by omega,?_⟩;refine aO (e0:=e90 k c3 (mV l m k i+(eF l (cG m (aD k i))).1*(eF l (iH m (aD k i))).2 - (eF l (iH m (aD k i))).1*(eF l (cG m (aD k i))).2) (j+1)) (h0:=h90 l m k c1 c2 n) (n0:=4) ⟨i+1,j+1,by omega,hlt,rfl,?_,rfl,rfl⟩ ?_ ?_ (by decide)
 ·congr 4;rw [show mV l m k (i+1)=mV l m k i+N4 l m (aD k i) from rfl];unfold N4;omega
 ·unfold e90;((repeat' refine iE rfl rfl ?_);exact iN)
 unfold h90 aX j4;((repeat'(first|refine iF rfl rfl ?_|refine iC rfl rfl rfl ?_|refine iJ rfl rfl rfl rfl ?_));exact iN)
theorem cL {α:Type}(E:El α)(o:List α)(x:α){n:Nat}(hn:n=o.length):((flat E.fl o).drop 0).take (n*E.sz)++E.fl x=flat E.fl (o++[x]):=by
 subst hn;rw [List.drop_zero,← a7 E o,List.take_length,pB];simp [flat]
theorem jA {i N s:Nat}{p:Prop}(hN:N=i*s)(hi:i+1≤1000000000)
  (h:aA.A.andB (aA.A.andB ((i+1).ble 1000000000) ((0+i*s).ble N)) (aA.A.andB ((0+i*s).beq N) (Nat.beq s s))=false):p:=by
 exfalso;have h1:(i+1).ble 1000000000=true:=Nat.ble_eq_true_of_le hi;have h2:(0+i*s).ble N=true:=Nat.ble_eq_true_of_le (by omega);have h3:(0+i*s).beq N=true:=(by rw [hN,Nat.zero_add];exact Nat.beq_refl _);rw [h1,h2,h3,Nat.beq_refl] at h;cases h
def evS (l:List Pt)(m:List Ed)(n:Int):List Value→YS Bool
 |[]=>some (decide (1≤m.length)&&decide (m.length≤1000),List.replicate (2*m.length) true,[])
 |_=>none
theorem aEF {l:List Pt}{m:List Ed}{n:Int}{r:List Value}{out:List Bool}{rest:List Value}(h:evS l m n r=some (true,out,rest)):r=[]∧1≤m.length∧m.length≤1000∧out=List.replicate (2*m.length) true∧rest=[]:=by
 unfold evS at h;split at h
 ·injection h with h;injection h with h1 h2;injection h2 with h2 h3;simp only [Bool.and_eq_true,decide_eq_true_eq] at h1;exact⟨rfl,h1.1,h1.2,h2.symm,h3.symm⟩
 ·cases h
def e80 (v:Value)(j:Int):List (Nat × Value):=[(1,.pointer (some ⟨2,0,none⟩)),(3,v),(4,iv j)]
def h80 (l:List Pt)(m:List Ed)(c1 c2:Nat)(n:Int):Heap:=(2,aX l.length m.length c1 c2 n)::aB aT aW l m
def O9 (l:List Pt)(m:List Ed)(c1 c2:Nat)(n:Int)(o:List Bool):Heap:=(3,.cells true false 1 (flat gI.fl o))::(2,aX l.length m.length c1 c2 n)::aB aT aW l m
def aHv:Nat × XF:=(80,mYX aT aW gI evS)
theorem aMw:cT Go.Proofs.Tryz.prog aHv.1 aHv.2:=aCM aT aW gI (aL (xl:=[]) .nil) fun l m n r out rest hs=>by
 obtain⟨rfl,h1m,hm,rfl,rfl⟩:=aEF hs;clear hs;refine⟨rfl,rfl,fun c1 c2=>?_⟩;(conv=>whnf)
 refine⟨fun q e h nx=>∃ (i:Nat) (j:Int),j=i∧i≤2*m.length∧q=2*m.length - i ∧
  ((i=0∧e=e80 (.slice none 0 0) j∧h=h80 l m c1 c2 n∧nx=3)∨(0<i∧e=e80 (.slice (some ⟨3,0,none⟩) i i) j∧h=O9 l m c1 c2 n (List.replicate i true)∧nx=4)),⟨2*m.length,?_⟩,?_⟩
 ·refine aO (e0:=e80 (.slice none 0 0) 0) (h0:=h80 l m c1 c2 n) (n0:=3) ⟨0,0,rfl,Nat.zero_le _,rfl,.inl ⟨rfl,rfl,rfl,rfl⟩⟩ ?_ ?_ (by decide)
  ·unfold e80;((repeat' refine iE rfl rfl ?_);exact iN)
  unfold h80 aX aB;((repeat'(first|refine iF rfl rfl ?_|refine iC rfl rfl rfl ?_|refine iJ rfl rfl rfl rfl ?_));exact iN)
 rintro q e h nx ⟨i,j,hj,hi,rfl,⟨hi0,rfl,rfl,rfl⟩|⟨hip,rfl,rfl,rfl⟩⟩
 ·subst hi0;unfold e80 h80 aX aB;((conv=>whnf);apply bm<;>intro h1);rotate_left
  ·exfalso;simp [aA,aC,aF] at h1;omega
  ((conv=>whnf);apply bm<;>intro h2)
  ·((conv=>whnf);apply bm<;>intro h3)
   ·(conv=>whnf);refine⟨2*m.length - 1,by omega,?_⟩;refine gN (e0:=e80 (.slice (some ⟨3,0,none⟩) 1 1) (j+1)) (h0:=O9 l m c1 c2 n [true]) (n0:=4) 3 4 (by decide) (by decide) ⟨1,j+1,by omega,by omega,rfl,.inr ⟨Nat.one_pos,rfl,rfl,rfl⟩⟩ ?_ ?_ ?_
    ·unfold e80;((repeat' refine iE rfl rfl ?_);exact iN)
    ·unfold O9 aX aB;((repeat'(first|refine iF rfl rfl ?_|refine iC rfl rfl rfl ?_|refine iJ rfl rfl rfl rfl ?_));exact iN)
    unfold O9;((repeat' refine iK rfl ?_);exact iN)
   exfalso;simp [aA,aC,aF] at h3;omega
  exfalso;simp [aA,aC] at h2;omega
 unfold e80 O9 aX aB;((conv=>whnf);apply bm<;>intro h1);rotate_left
 ·exfalso;simp [aA,aC,aF] at h1;omega
 ((conv=>whnf);apply bm<;>intro h2);rotate_left
 ·have hge:i=2*m.length:=(by simp [aA,aC] at h2;omega);subst hge;(conv=>whnf);refine⟨3,?_,rfl⟩;show _=Value.slice _ _ _;rw [List.length_replicate]
 have hlt:i<2*m.length:=(by simp [aA,aC] at h2;omega);have hll:(flat gI.fl (List.replicate i true)).length=i:=(by rw [a7,List.length_replicate];show i*1=i;omega);((conv=>whnf);apply bm<;>intro h3)
 ·exfalso;have:=Nat.le_of_ble_eq_true h3;omega
 ((conv=>whnf);apply bm<;>intro h4);rotate_left
 ·exfalso;exact jA (s:=1) (by omega) (by omega) h4
 ((conv=>whnf);apply bm<;>intro h5)
 ·(conv=>whnf);refine⟨2*m.length - (i+1),by omega,?_⟩
  refine gN (e0:=e80 (.slice (some ⟨3,0,none⟩) (i+1) (i+1)) (j+1)) (h0:=O9 l m c1 c2 n (List.replicate i true++[true])) (n0:=4) 3 5 (by decide) (by decide)
   ⟨i+1,j+1,by omega,by omega,rfl,.inr ⟨Nat.succ_pos _,rfl,by rw [List.replicate_succ'];rfl,rfl⟩⟩ ?_ ?_ ?_
  ·unfold e80;((repeat' refine iE rfl rfl ?_);exact iN)
  ·unfold O9 aX aB;((repeat'(first|refine iW rfl rfl (aU (aH gI _) (cL gI (List.replicate i true) true (by rw [List.length_replicate]))) ?_|refine iF rfl rfl ?_|refine iC rfl rfl rfl ?_|refine iJ rfl rfl rfl rfl ?_));exact iN)
  unfold O9;((repeat' refine iK rfl ?_);exact iN)
 exfalso;simp [aA,aC,aF] at h5;omega
def pS (f:Int→Int)(d:Int):Nat→Int
 |0=>f d
 |i+1=>f (pS f d i)
def mS (f:Int→Int)(d:Int)(N i:Nat):Bool:=(!decide (pS f d i=d))&&(decide (0≤pS f d i)&&decide (i≤N))
def tD (f:Int→Int)(d:Int)(N:Nat):Nat→Nat→Nat
 |0,i=>i
 |k+1,i=>if mS f d N i=true then tD f d N k (i+1) else i
def C7 (f:Int→Int)(d:Int)(i:Nat):List Int:=d::(List.range i).map (pS f d)
theorem n8 (f:Int→Int)(d:Int)(i:Nat):(C7 f d i).length=i+1:=by simp [C7]
theorem aIh (f:Int→Int)(d:Int)(i:Nat):C7 f d (i+1)=C7 f d i++[pS f d i]:=by
 unfold C7;rw [List.range_succ,List.map_append];rfl
def GI (l:List Pt)(m:List Ed)(k:List Bool)(d:Int):Int:=gH l m k d (2*m.length)
def kT (l:List Pt)(m:List Ed)(k:List Bool)(d:Int):List Int:=C7 (GI l m k) d (tD (GI l m k) d (2*m.length) (2*m.length+2) 0)
def rnS (l:List Pt)(m:List Ed)(n:Int)(k:List Bool):List Value→YS Int
 |[.int .i64 d]=>some (pU l m&&pD m d&&decide (k.length=2*m.length),kT l m k d,[])
 |_=>none
theorem aEk {l:List Pt}{m:List Ed}{n:Int}{k:List Bool}{r:List Value}{out:List Int}{rest:List Value}(h:rnS l m n k r=some (true,out,rest)):∃ d,r=[iv d]∧pU l m=true∧pD m d=true∧k.length=2*m.length∧out=kT l m k d∧rest=[]:=by
 unfold rnS at h;split at h
 ·rename_i d;injection h with h;injection h with h1 h2;injection h2 with h2 h3;simp only [Bool.and_eq_true,decide_eq_true_eq] at h1;exact⟨d,rfl,h1.1.1,h1.1.2,h1.2,h2.symm,h3.symm⟩
 ·cases h
def YK (k:List Bool)(c3:Nat)(d x j:Int)(z:Nat):List (Nat × Value):=[(1,iv d),(2,.slice (some ⟨2,0,none⟩) k.length c3),(3,.pointer (some ⟨3,0,none⟩)),(7,.slice (some ⟨4,0,none⟩) z z),(8,iv x),(9,iv j)]
def SF (l:List Pt)(m:List Ed)(k:List Bool)(c1 c2:Nat)(n:Int)(o:List Int):Heap:=(4,.cells true false 1 (flat aP.fl o))::(3,aX l.length m.length c1 c2 n)::j4 aT aW gI l m k
theorem FN {f:Int→Int}{d:Int}{N k i:Nat}(h:mS f d N i=false):tD f d N k i=i:=by
 cases k with
 |zero=>rfl
 |succ k=>simp [tD,h]
def aAM:Nat × XF:=(144,aJf aT aW gI aP rnS)
theorem aK0:cT Go.Proofs.Tryz.prog aAM.1 aAM.2:=aFl aT aW gI aP (aL (xl:=[X79]) (.cons x79 .nil)) fun l m n k r out rest hs=>by
 obtain⟨d,rfl,hM,hd,hk,rfl,rfl⟩:=aEk hs;clear hs;refine⟨rfl,rfl,fun c1 c2 c3=>?_⟩;have hm:m.length≤1000:=(by simp only [pU,Bool.and_eq_true,decide_eq_true_eq] at hM;exact hM.1.2);unfold kT;obtain⟨f,hf⟩:∃ f,f=GI l m k:=⟨_,rfl⟩;have hfl:∀ x,-1≤f x∧f x<2*m.length:=fun x=>(by rw [hf];have:=AL l m k x (2*m.length);unfold GI;omega);have hfx:∀ x,gH l m k x (2*m.length)=f x:=fun x=>(by rw [hf];rfl);rw [← hf];(conv=>whnf);refine⟨_,_,_,[iv d],_,l,m,k,rfl,aJ aT rfl,aJ aW rfl,aJ gI rfl,?_⟩;((conv=>whnf);apply bm<;>intro h1);rotate_left
 ·exfalso;have h1:(pU l m&&pD m d&&decide (k.length=2*m.length))=false:=h1;rw [hM,hd,decide_eq_true hk] at h1;cases h1
 (conv=>whnf);refine⟨fun q e h nx=>∃ (i:Nat) (j:Int),j=i∧i≤2*m.length+1∧q=2*m.length+1 - i∧tD f d (2*m.length) (2*m.length+2) 0=tD f d (2*m.length) (2*m.length+2 - i) i∧e=YK k c3 d (pS f d i) j (i+1)∧h=SF l m k c1 c2 n (C7 f d i)∧nx=5,⟨2*m.length+1,?_⟩,?_⟩
 ·refine aO (e0:=YK k c3 d (gH l m k d (2*m.length)) 0 1) (h0:=SF l m k c1 c2 n [d]) (n0:=5) ⟨0,0,rfl,Nat.zero_le _,rfl,rfl,by rw [hfx];rfl,rfl,rfl⟩ ?_ ?_ (by decide)
  ·unfold YK;((repeat' refine iE rfl rfl ?_);exact iN)
  unfold SF aX j4;((repeat'(first|refine iF rfl rfl ?_|refine iC rfl rfl rfl ?_|refine iJ rfl rfl rfl rfl ?_));exact iN)
 rintro q e h nx ⟨i,j,hj,hi,rfl,hb,rfl,rfl,rfl⟩;have hx : -1≤pS f d i∧pS f d i<2*m.length:=(by cases i <;> exact hfl _);unfold YK SF aX j4;have hll:(flat aP.fl (C7 f d i)).length=i+1:=(by rw [a7,n8];exact Nat.mul_one _);((conv=>whnf);apply bm<;>intro h2);rotate_left
 ·have h2:pS f d i=d:=(by simpa [aA,aC] using h2);(conv=>whnf);rw [hb,FN (show mS f d (2*m.length) i=false from ?_)]
  ·refine⟨4,?_,rfl⟩;show _=Value.slice _ _ _;rw [n8]
  simp [mS,h2]
 have h2:pS f d i≠d:=(by simpa [aA,aC] using h2);((conv=>whnf);apply bm<;>intro h3);rotate_left
 ·have h3:¬ 0≤pS f d i:=(by simpa [aA,aC] using h3);(conv=>whnf);rw [hb,FN (show mS f d (2*m.length) i=false from ?_)]
  ·refine⟨4,?_,rfl⟩;show _=Value.slice _ _ _;rw [n8]
  simp [mS,h3]
 have h3:0≤pS f d i:=(by simpa [aA,aC] using h3);((conv=>whnf);apply bm<;>intro h4);rotate_left
 ·exfalso;simp [aA,aC,aF] at h4;omega
 ((conv=>whnf);apply bm<;>intro h5);rotate_left
 ·have h5:¬ i≤2*m.length:=(by simp [aA,aC] at h5;omega);(conv=>whnf);rw [hb,FN (show mS f d (2*m.length) i=false from ?_)]
  ·refine⟨4,?_,rfl⟩;show _=Value.slice _ _ _;rw [n8]
  simp [mS,h5]
 have h5:i≤2*m.length:=(by simp [aA,aC] at h5;omega);have hgo:mS f d (2*m.length) i=true:=(by simp [mS,h2,h3,h5]);((conv=>whnf);apply bm<;>intro h6)
 ·exfalso;have:=Nat.le_of_ble_eq_true h6;omega
 ((conv=>whnf);apply bm<;>intro h7);rotate_left
 ·exact jA (i:=i+1) (s:=1) (by omega) (by omega) h7
 (conv=>whnf);have hdx:pD m (pS f d i)=true:=(by simp only [pD,Bool.and_eq_true,decide_eq_true_eq];omega);refine⟨_,_,_,[iv (pS f d i)],_,l,m,k,rfl,aJ aT rfl,aJ aW rfl,aJ gI rfl,?_⟩;((conv=>whnf);apply bm<;>intro h8);rotate_left
 ·exfalso;have h8:(pU l m&&pD m (pS f d i)&&decide (k.length=2*m.length))=false:=h8;rw [hM,hdx,decide_eq_true hk] at h8;cases h8
 ((conv=>whnf);apply bm<;>intro h9);rotate_left
 ·exfalso;simp [aA,aC,aF] at h9;omega
 (conv=>whnf);refine⟨2*m.length+1 - (i+1),by omega,?_⟩
 refine gN (e0:=YK k c3 d (gH l m k (pS f d i) (2*m.length)) (j+1) (i+1+1)) (h0:=SF l m k c1 c2 n (C7 f d i++[pS f d i])) (n0:=5) 4 6 (by decide) (by decide)
  ⟨i+1,j+1,by omega,by omega,rfl,?_,by rw [hfx];rfl,by rw [aIh];rfl,rfl⟩ ?_ ?_ ?_
 ·rw [hb,show 2*m.length+2 - i=(2*m.length+2 - (i+1))+1 by omega]
  conv=>lhs;unfold tD
  rw [if_pos hgo]
 ·unfold YK;((repeat' refine iE rfl rfl ?_);exact iN)
 ·unfold SF aX j4;((repeat'(first|refine iW rfl rfl (aU (aH aP _) (cL aP (C7 f d i) (pS f d i) (n8 f d i).symm)) ?_|refine iF rfl rfl ?_|refine iC rfl rfl rfl ?_|refine iJ rfl rfl rfl rfl ?_));exact iN)
 unfold SF;((repeat' refine iK rfl ?_);exact iN)
theorem W0 {f:Int→Int}{d:Int}{N:Nat}:∀ {k i t:Nat},i≤t→t<tD f d N k i→mS f d N t=true
 |0,i,t,h1,h2=>by simp only [tD] at h2;omega
 |k+1,i,t,h1,h2=>by
  simp only [tD] at h2;split at h2
  ·rename_i hg;by_cases ht:t=i
   ·rw [ht];exact hg
   exact W0 (k:=k) (i:=i+1) (by omega) h2
  omega
theorem QN {f:Int→Int}{d:Int}{N:Nat}:∀ {k i:Nat},tD f d N k i≤i+k
 |0,i=>by simp only [tD];omega
 |k+1,i=>by
  simp only [tD];split
  ·have:=QN (f:=f) (d:=d) (N:=N) (k:=k) (i:=i+1);omega
  omega
theorem R5 (l:List Pt)(m:List Ed)(k:List Bool)(d:Int):(kT l m k d).length≤2*m.length+3:=by
 unfold kT;rw [n8];have:=QN (f:=GI l m k) (d:=d) (N:=2*m.length) (k:=2*m.length+2) (i:=0);omega
theorem aBy (l:List Pt)(m:List Ed)(k:List Bool)(d:Int) : -1≤GI l m k d∧GI l m k d<2*m.length:=by
 have:=AL l m k d (2*m.length);unfold GI;omega
theorem YZ {l:List Pt}{m:List Ed}{k:List Bool}{d:Int}(hm:m.length≤1000)(hd:pD m d=true):T6 m (kT l m k d)=true:=by
 unfold T6 kT C7;rw [List.all_cons,hd,Bool.true_and,List.all_eq_true];intro x hx;obtain⟨t,ht,rfl⟩:=List.mem_map.1 hx;have hg:=W0 (Nat.zero_le t) (List.mem_range.1 ht);simp only [mS,Bool.and_eq_true,decide_eq_true_eq] at hg;have:pS (GI l m k) d t<2*m.length:=(by cases t <;> exact (aBy l m k _).2);simp only [pD,Bool.and_eq_true,decide_eq_true_eq];omega
theorem TN (l:List Pt)(m:List Ed)(k:List Bool)(d:Int):0<(kT l m k d).length:=by
 unfold kT;rw [n8];omega
def dW (of w:List Int)(face:Int):Nat→List Int
 |0=>of
 |i+1=>(dW of w face i).set (aD w i).toNat face
theorem fE (of w:List Int)(face:Int):∀ i,(dW of w face i).length=of.length
 |0=>rfl
 |i+1=>by unfold dW;rw [List.length_set];exact fE of w face i
structure Fst where
 of:List Int
 faces:Int
 outside:Int
 ok:Bool
def pW (l:List Pt)(m:List Ed)(s:Fst)(d:Nat):Fst :=
 if 0≤aD s.of d then s else
  let w:=kT l m (List.replicate (2*m.length) true) d;let a:=mV l m w w.length;let fc:=if 0<a then s.faces+1 else 0
  ⟨dW s.of w fc w.length,if 0<a then s.faces+1 else s.faces,if a<0 then s.outside+1 else s.outside,if a=0 then false else s.ok⟩
def j6 (l:List Pt)(m:List Ed):Nat→Fst
 |0=>⟨List.replicate (2*m.length) (-1),0,0,true⟩
 |d+1=>pW l m (j6 l m d) d
def eU (l:List Pt)(m:List Ed):Fst:=j6 l m (2*m.length)
def NK (s:Fst):Bool:=s.ok&&(decide (s.outside=1)&&decide (1≤s.faces))
theorem vY (l:List Pt)(m:List Ed):∀ d,(j6 l m d).of.length=2*m.length
 |0=>by simp [j6]
 |d+1=>by
  unfold j6 pW;split
  ·exact vY l m d
  simp only [fE];exact vY l m d
theorem JV (l:List Pt)(m:List Ed):∀ d:Nat,0≤(j6 l m d).faces∧(j6 l m d).faces≤d∧0≤(j6 l m d).outside∧(j6 l m d).outside≤d
 |0=>by simp [j6]
 |d+1=>by
  have:=JV l m d;unfold j6 pW;split
  ·omega
  simp only;split <;> split <;> omega
end Go.Aw
end
