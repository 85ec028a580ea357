/-
  Parts of a proof. No condition.
-/
import Derived.Test.YticajjhjehljpaaGreatQAi
set_option linter.unusedSimpArgs false
set_option linter.unusedVariables false
noncomputable section
namespace Go.Aw
set_option maxRecDepth 100000
def qL (f:Int→Int)(d:Int):Nat→Int
 |0=>f d
 |i+1=>f (qL f d i)
def nY (f:Int→Int)(d:Int)(N i:Nat):Bool:=(!decide (qL f d i=d))&&(decide (0≤qL f d i)&&decide (i≤N))
def vY (f:Int→Int)(d:Int)(N:Nat):Nat→Nat→Nat
 |0,i=>i
 |k+1,i=>if nY f d N i=true then vY f d N k (i+1) else i
def E7 (f:Int→Int)(d:Int)(i:Nat):List Int:=d::(List.range i).map (qL f d)
theorem pF (f:Int→Int)(d:Int)(i:Nat):(E7 f d i).length=i+1:=by simp [E7]
theorem aLX (f:Int→Int)(d:Int)(i:Nat):E7 f d (i+1)=E7 f d i++[qL f d i]:=by
 unfold E7;rw [List.range_succ,List.map_append];rfl
def IW (l:List Pt)(m:List Ed)(k:List Bool)(d:Int):Int:=gQ l m k d (2*m.length)
def kA (l:List Pt)(m:List Ed)(k:List Bool)(d:Int):List Int:=E7 (IW l m k) d (vY (IW l m k) d (2*m.length) (2*m.length+2) 0)
def rnS (l:List Pt)(m:List Ed)(n:Int)(k:List Bool):List Value→YS Int
 |[.int .i64 d]=>some (kS l m&&nB m d&&decide (k.length=2*m.length),kA l m k d,[])
 |_=>none
theorem aHz {l:List Pt}{m:List Ed}{n:Int}{k:List Bool}{r:List Value}{out:List Int}{rest:List Value}(h:rnS l m n k r=some (true,out,rest)):∃ d,r=[iv d]∧kS l m=true∧nB m d=true∧k.length=2*m.length∧out=kA l m k d∧rest=[]:=by
 unfold rnS at h;split at h
 ·rename_i d;injection h with h;injection h with h1 h2;injection h2 with h2 h3;simp only [Bool.and_eq_true,decide_eq_true_eq] at h1;exact⟨d,rfl,h1.1.1,h1.1.2,h1.2,h2.symm,h3.symm⟩
 ·cases h
def aBo (k:List Bool)(c3:Nat)(d x j:Int)(z:Nat):List (Nat × Value):=[(1,iv d),(2,.slice (some ⟨2,0,none⟩) k.length c3),(3,.pointer (some ⟨3,0,none⟩)),(7,.slice (some ⟨4,0,none⟩) z z),(8,iv x),(9,iv j)]
def VT (l:List Pt)(m:List Ed)(k:List Bool)(c1 c2:Nat)(n:Int)(o:List Int):Heap:=(4,.cells true false 1 (flat aT.fl o))::(3,cR l.length m.length c1 c2 n)::kJ bC bL gP l m k
theorem GK {f:Int→Int}{d:Int}{N k i:Nat}(h:nY f d N i=false):vY f d N k i=i:=by
 cases k with
 |zero=>rfl
 |succ k=>simp [vY,h]
def ZL:Nat × XF:=(151,aNx bC bL gP aT rnS)
theorem aIS:cO Go.Proofs.Tryz.prog ZL.1 ZL.2:=aG5 bC bL gP aT (aH (xl:=[X79]) (.cons x79 .nil)) fun l m n k r out rest hs=>by
 obtain⟨d,rfl,hM,hd,hk,rfl,rfl⟩:=aHz hs;clear hs;refine⟨rfl,rfl,fun c1 c2 c3=>?_⟩;have hm:m.length≤1000:=(by simp only [kS,Bool.and_eq_true,decide_eq_true_eq] at hM;exact hM.1.2);unfold kA;obtain⟨f,hf⟩:∃ f,f=IW l m k:=⟨_,rfl⟩;have hfl:∀ x,-1≤f x∧f x<2*m.length:=fun x=>(by rw [hf];have:=BI l m k x (2*m.length);unfold IW;omega);have hfx:∀ x,gQ l m k x (2*m.length)=f x:=fun x=>(by rw [hf];rfl);rw [← hf];(conv=>whnf);refine⟨_,_,_,[iv d],_,l,m,k,rfl,aG bC rfl,aG bL rfl,aG gP rfl,?_⟩;((conv=>whnf);apply bm<;>intro h1);rotate_left
 ·exfalso;have h1:(kS l m&&nB m d&&decide (k.length=2*m.length))=false:=h1;rw [hM,hd,decide_eq_true hk] at h1;cases h1
 (conv=>whnf);refine⟨fun q e h nx=>∃ (i:Nat) (j:Int),j=i∧i≤2*m.length+1∧q=2*m.length+1 - i∧vY f d (2*m.length) (2*m.length+2) 0=vY f d (2*m.length) (2*m.length+2 - i) i∧e=aBo k c3 d (qL f d i) j (i+1)∧h=VT l m k c1 c2 n (E7 f d i)∧nx=5,⟨2*m.length+1,?_⟩,?_⟩
 ·refine aJ (e0:=aBo k c3 d (gQ l m k d (2*m.length)) 0 1) (h0:=VT l m k c1 c2 n [d]) (n0:=5) ⟨0,0,rfl,Nat.zero_le _,rfl,rfl,by rw [hfx];rfl,rfl,rfl⟩ ?_ ?_ (by decide)
  ·unfold aBo;((repeat' refine iE rfl rfl ?_);exact iN)
  unfold VT cR kJ;((repeat'(first|refine iF rfl rfl ?_|refine iC rfl rfl rfl ?_|refine iJ rfl rfl rfl rfl ?_));exact iN)
 rintro q e h nx ⟨i,j,hj,hi,rfl,hb,rfl,rfl,rfl⟩;have hx : -1≤qL f d i∧qL f d i<2*m.length:=(by cases i <;> exact hfl _);unfold aBo VT cR kJ;have hll:(flat aT.fl (E7 f d i)).length=i+1:=(by rw [bE,pF];exact Nat.mul_one _);((conv=>whnf);apply bm<;>intro h2);rotate_left
 ·have h2:qL f d i=d:=(by simpa [aA,aC] using h2);(conv=>whnf);rw [hb,GK (show nY f d (2*m.length) i=false from ?_)]
  ·refine⟨4,?_,rfl⟩;show _=Value.slice _ _ _;rw [pF]
  simp [nY,h2]
 have h2:qL f d i≠d:=(by simpa [aA,aC] using h2);((conv=>whnf);apply bm<;>intro h3);rotate_left
 ·have h3:¬ 0≤qL f d i:=(by simpa [aA,aC] using h3);(conv=>whnf);rw [hb,GK (show nY f d (2*m.length) i=false from ?_)]
  ·refine⟨4,?_,rfl⟩;show _=Value.slice _ _ _;rw [pF]
  simp [nY,h3]
 have h3:0≤qL f d i:=(by simpa [aA,aC] using h3);((conv=>whnf);apply bm<;>intro h4);rotate_left
 ·exfalso;simp [aA,aC,aF] at h4;omega
 ((conv=>whnf);apply bm<;>intro h5);rotate_left
 ·have h5:¬ i≤2*m.length:=(by simp [aA,aC] at h5;omega);(conv=>whnf);rw [hb,GK (show nY f d (2*m.length) i=false from ?_)]
  ·refine⟨4,?_,rfl⟩;show _=Value.slice _ _ _;rw [pF]
  simp [nY,h5]
 have h5:i≤2*m.length:=(by simp [aA,aC] at h5;omega);have hgo:nY f d (2*m.length) i=true:=(by simp [nY,h2,h3,h5]);((conv=>whnf);apply bm<;>intro h6)
 ·exfalso;have:=Nat.le_of_ble_eq_true h6;omega
 ((conv=>whnf);apply bm<;>intro h7);rotate_left
 ·exact nN (i:=i+1) (s:=1) (by omega) (by omega) h7
 (conv=>whnf);have hdx:nB m (qL f d i)=true:=(by simp only [nB,Bool.and_eq_true,decide_eq_true_eq];omega);refine⟨_,_,_,[iv (qL f d i)],_,l,m,k,rfl,aG bC rfl,aG bL rfl,aG gP rfl,?_⟩;((conv=>whnf);apply bm<;>intro h8);rotate_left
 ·exfalso;have h8:(kS l m&&nB m (qL f d i)&&decide (k.length=2*m.length))=false:=h8;rw [hM,hdx,decide_eq_true hk] at h8;cases h8
 ((conv=>whnf);apply bm<;>intro h9);rotate_left
 ·exfalso;simp [aA,aC,aF] at h9;omega
 (conv=>whnf);refine⟨2*m.length+1 - (i+1),by omega,?_⟩
 refine j5 (e0:=aBo k c3 d (gQ l m k (qL f d i) (2*m.length)) (j+1) (i+1+1)) (h0:=VT l m k c1 c2 n (E7 f d i++[qL f d i])) (n0:=5) 4 6 (by decide) (by decide)
  ⟨i+1,j+1,by omega,by omega,rfl,?_,by rw [hfx];rfl,by rw [aLX];rfl,rfl⟩ ?_ ?_ ?_
 ·rw [hb,show 2*m.length+2 - i=(2*m.length+2 - (i+1))+1 by omega]
  conv=>lhs;unfold vY
  rw [if_pos hgo]
 ·unfold aBo;((repeat' refine iE rfl rfl ?_);exact iN)
 ·unfold VT cR kJ;((repeat'(first|refine iW rfl rfl (bB (aD aT _) (fU aT (E7 f d i) (qL f d i) (pF f d i).symm)) ?_|refine iF rfl rfl ?_|refine iC rfl rfl rfl ?_|refine iJ rfl rfl rfl rfl ?_));exact iN)
 unfold VT;((repeat' refine iK rfl ?_);exact iN)
theorem YU {f:Int→Int}{d:Int}{N:Nat}:∀ {k i t:Nat},i≤t→t<vY f d N k i→nY f d N t=true
 |0,i,t,h1,h2=>by simp only [vY] at h2;omega
 |k+1,i,t,h1,h2=>by
  simp only [vY] at h2;split at h2
  ·rename_i hg;by_cases ht:t=i
   ·rw [ht];exact hg
   exact YU (k:=k) (i:=i+1) (by omega) h2
  omega
theorem RJ {f:Int→Int}{d:Int}{N:Nat}:∀ {k i:Nat},vY f d N k i≤i+k
 |0,i=>by simp only [vY];omega
 |k+1,i=>by
  simp only [vY];split
  ·have:=RJ (f:=f) (d:=d) (N:=N) (k:=k) (i:=i+1);omega
  omega
theorem WS (l:List Pt)(m:List Ed)(k:List Bool)(d:Int):(kA l m k d).length≤2*m.length+3:=by
 unfold kA;rw [pF];have:=RJ (f:=IW l m k) (d:=d) (N:=2*m.length) (k:=2*m.length+2) (i:=0);omega
theorem aCW (l:List Pt)(m:List Ed)(k:List Bool)(d:Int) : -1≤IW l m k d∧IW l m k d<2*m.length:=by
 have:=BI l m k d (2*m.length);unfold IW;omega
theorem aBM {l:List Pt}{m:List Ed}{k:List Bool}{d:Int}(hm:m.length≤1000)(hd:nB m d=true):UL m (kA l m k d)=true:=by
 unfold UL kA E7;rw [List.all_cons,hd,Bool.true_and,List.all_eq_true];intro x hx;obtain⟨t,ht,rfl⟩:=List.mem_map.1 hx;have hg:=YU (Nat.zero_le t) (List.mem_range.1 ht);simp only [nY,Bool.and_eq_true,decide_eq_true_eq] at hg;have:qL (IW l m k) d t<2*m.length:=(by cases t <;> exact (aCW l m k _).2);simp only [nB,Bool.and_eq_true,decide_eq_true_eq];omega
theorem VL (l:List Pt)(m:List Ed)(k:List Bool)(d:Int):0<(kA l m k d).length:=by
 unfold kA;rw [pF];omega
def dV (of w:List Int)(face:Int):Nat→List Int
 |0=>of
 |i+1=>(dV of w face i).set (aK w i).toNat face
theorem fR (of w:List Int)(face:Int):∀ i,(dV of w face i).length=of.length
 |0=>rfl
 |i+1=>by unfold dV;rw [List.length_set];exact fR of w face i
structure Fst where
 of:List Int
 faces:Int
 outside:Int
 ok:Bool
def qS (l:List Pt)(m:List Ed)(s:Fst)(d:Nat):Fst :=
 if 0≤aK s.of d then s else
  let w:=kA l m (List.replicate (2*m.length) true) d;let a:=nZ l m w w.length;let fc:=if 0<a then s.faces+1 else 0
  ⟨dV s.of w fc w.length,if 0<a then s.faces+1 else s.faces,if a<0 then s.outside+1 else s.outside,if a=0 then false else s.ok⟩
def kG (l:List Pt)(m:List Ed):Nat→Fst
 |0=>⟨List.replicate (2*m.length) (-1),0,0,true⟩
 |d+1=>qS l m (kG l m d) d
def fD (l:List Pt)(m:List Ed):Fst:=kG l m (2*m.length)
def MT (s:Fst):Bool:=s.ok&&(decide (s.outside=1)&&decide (1≤s.faces))
theorem wZ (l:List Pt)(m:List Ed):∀ d,(kG l m d).of.length=2*m.length
 |0=>by simp [kG]
 |d+1=>by
  unfold kG qS;split
  ·exact wZ l m d
  simp only [fR];exact wZ l m d
theorem MA (l:List Pt)(m:List Ed):∀ d:Nat,0≤(kG l m d).faces∧(kG l m d).faces≤d∧0≤(kG l m d).outside∧(kG l m d).outside≤d
 |0=>by simp [kG]
 |d+1=>by
  have:=MA l m d;unfold kG qS;split
  ·omega
  simp only;split <;> split <;> omega
theorem NM (l:List Int):∀ (i:Nat) (v:Int),i<l.length→eJ (flat aT.fl l) (i*1) [iv v]=flat aT.fl (l.set i v):=by
 induction l with
 |nil=>intro i v h;cases h
 |cons a r ih =>
  intro i v h;cases i with
  |zero=>rfl
  |succ i =>
   have:=ih i v (by simpa using h);simp only [List.set_cons_succ,flat,← this];have e:(i+1)*1=i*1+1:=(by omega);rw [e];unfold eJ;show List.take (i*1+1) (iv a::flat aT.fl r)++_++List.drop (i*1+1+1) (iv a::flat aT.fl r)=_;rfl
theorem r6 {of w:List Int}{c:Int}{t o:Nat}(ho:o=(aK w t).toNat*1)(hi:(aK w t).toNat<of.length):eJ (flat aT.fl (dV of w c t)) o [iv c]=flat aT.fl (dV of w c (t+1)):=by
 rw [ho,NM _ _ _ (by rw [fR];exact hi)];rfl
def fcS (l:List Pt)(m:List Ed)(n:Int):List Value→YS Int
 |[]=>some (kS l m&&decide (1≤m.length),(fD l m).of,[iv (fD l m).faces,.bool (MT (fD l m))])
 |_=>none
theorem aHs {l:List Pt}{m:List Ed}{n:Int}{r:List Value}{out:List Int}{rest:List Value}(h:fcS l m n r=some (true,out,rest)):r=[]∧kS l m=true∧1≤m.length∧out=(fD l m).of∧rest=[iv (fD l m).faces,.bool (MT (fD l m))]:=by
 unfold fcS at h;split at h
 ·injection h with h;injection h with h1 h2;injection h2 with h2 h3;simp only [Bool.and_eq_true,decide_eq_true_eq] at h1;exact⟨rfl,h1.1,h1.2,h2.symm,h3.symm⟩
 ·cases h
def tru (m:List Ed):List Bool:=List.replicate (2*m.length) true
theorem aGS (m:List Ed):(tru m).length=2*m.length:=List.length_replicate
def gF (l:List Pt)(m:List Ed)(c1 c2:Nat)(n:Int)(s:Value)(F:Int)(K:Bool):Heap:=(5,.cells true false 1 [s,iv F,.bool K])::(4,.cells true false 1 (flat gP.fl (tru m)))::(3,.cells true false 1 [.slice none 0 0,iv 0,.bool false])::(2,cR l.length m.length c1 c2 n)::aL bC bL l m
def MR (m:List Ed)(j:Int):List (Nat × Value):=[(1,.pointer (some ⟨2,0,none⟩)),(2,.pointer (some ⟨3,0,none⟩)),(3,.slice (some ⟨4,0,none⟩) (tru m).length (tru m).length),(4,.pointer (some ⟨5,0,none⟩)),(5,iv j)]
def j7 (m:List Ed)(O j:Int):List (Nat × Value):=[(1,.pointer (some ⟨2,0,none⟩)),(2,.pointer (some ⟨3,0,none⟩)),(3,.slice (some ⟨4,0,none⟩) (tru m).length (tru m).length),(4,.pointer (some ⟨5,0,none⟩)),(6,iv O),(7,iv j)]
def mA (m:List Ed)(w:List Int)(O j c i:Int):List (Nat × Value):=(8,.slice (some ⟨7,0,none⟩) w.length w.length)::(10,iv c)::(11,iv i)::j7 m O j
def aCU:Nat × XF:=(95,mYX bC bL aT fcS)
theorem aOj:cO Go.Proofs.Tryz.prog aCU.1 aCU.2:=W5 bC bL aT (aH (xl:=[aGQ,ZL,X90]) (.cons aN5 (.cons aIS (.cons x90 .nil)))) fun l m n r out rest hs=>by
 obtain⟨rfl,hM,h1m,rfl,rfl⟩:=aHs hs;clear hs;refine⟨rfl,rfl,fun c1 c2=>?_⟩;have hm:m.length≤1000:=(by simp only [kS,Bool.and_eq_true,decide_eq_true_eq] at hM;exact hM.1.2);(conv=>whnf);refine⟨_,_,_,[],l,m,rfl,aG bC rfl,aG bL rfl,?_⟩;((conv=>whnf);apply bm<;>intro h1);rotate_left
 ·exfalso;have h1:(decide (1≤m.length)&&decide (m.length≤1000))=false:=h1;rw [decide_eq_true h1m,decide_eq_true hm] at h1;cases h1
 (conv=>whnf)
 refine⟨fun q e h nx=>∃ (i:Nat) (j:Int),j=i∧i≤2*m.length∧q=2*m.length - i∧e=MR m j ∧
  ((i=0∧h=gF l m c1 c2 n (.slice none 0 0) 0 true∧nx=6)∨(0<i∧h=(6,.cells true false 1 (flat aT.fl (List.replicate i (-1))))::gF l m c1 c2 n (.slice (some ⟨6,0,none⟩) i i) 0 true∧nx=7)),⟨2*m.length,?_⟩,?_⟩
 ·refine aJ (e0:=MR m 0) (h0:=gF l m c1 c2 n (.slice none 0 0) 0 true) (n0:=6) ⟨0,0,rfl,Nat.zero_le _,rfl,rfl,.inl ⟨rfl,rfl,rfl⟩⟩ ?_ ?_ (by decide)
  ·unfold MR;((repeat' refine iE rfl rfl ?_);exact iN)
  unfold gF cR aL;((repeat'(first|refine iF rfl rfl ?_|refine iC rfl rfl rfl ?_|refine iJ rfl rfl rfl rfl ?_));exact iN)
 rintro q e h nx ⟨i,j,hj,hi,rfl,rfl,⟨hi0,rfl,rfl⟩|⟨hip,rfl,rfl⟩⟩
 ·subst hi0;unfold MR gF cR aL;((conv=>whnf);apply bm<;>intro h2);rotate_left
  ·exfalso;simp [aA,aC,aF] at h2;omega
  ((conv=>whnf);apply bm<;>intro h3)
  ·((conv=>whnf);apply bm<;>intro h4)
   ·(conv=>whnf);refine⟨2*m.length - 1,by omega,?_⟩;refine j5 (e0:=MR m (j+1)) (h0:=(6,.cells true false 1 (flat aT.fl [-1]))::gF l m c1 c2 n (.slice (some ⟨6,0,none⟩) 1 1) 0 true) (n0:=7) 6 7 (by decide) (by decide) ⟨1,j+1,by omega,by omega,rfl,rfl,.inr ⟨Nat.one_pos,rfl,rfl⟩⟩ ?_ ?_ ?_
    ·unfold MR;((repeat' refine iE rfl rfl ?_);exact iN)
    ·unfold gF cR aL;((repeat'(first|refine iF rfl rfl ?_|refine iC rfl rfl rfl ?_|refine iJ rfl rfl rfl rfl ?_));exact iN)
    unfold gF aL;((repeat' refine iK rfl ?_);exact iN)
   exfalso;simp [aA,aC,aF] at h4;omega
  exfalso;simp [aA,aC] at h3;omega
 unfold MR gF cR aL;((conv=>whnf);apply bm<;>intro h2);rotate_left
 ·exfalso;simp [aA,aC,aF] at h2;omega
 ((conv=>whnf);apply bm<;>intro h3)
 ·have hlt:i<2*m.length:=(by simp [aA,aC] at h3;omega);have hll:(flat aT.fl (List.replicate i (-1))).length=i:=(by rw [bE,List.length_replicate];exact Nat.mul_one _);((conv=>whnf);apply bm<;>intro h4)
  ·exfalso;have:=Nat.le_of_ble_eq_true h4;omega
  ((conv=>whnf);apply bm<;>intro h5);rotate_left
  ·exact nN (s:=1) (by omega) (by omega) h5
  ((conv=>whnf);apply bm<;>intro h6)
  ·(conv=>whnf);refine⟨2*m.length - (i+1),by omega,?_⟩
   refine j5 (e0:=MR m (j+1)) (h0:=(6,.cells true false 1 (flat aT.fl (List.replicate i (-1)++[-1])))::gF l m c1 c2 n (.slice (some ⟨6,0,none⟩) (i+1) (i+1)) 0 true) (n0:=7) 6 8 (by decide) (by decide)
    ⟨i+1,j+1,by omega,by omega,rfl,rfl,.inr ⟨Nat.succ_pos _,by rw [List.replicate_succ'];rfl,rfl⟩⟩ ?_ ?_ ?_
   ·unfold MR;((repeat' refine iE rfl rfl ?_);exact iN)
   ·unfold gF cR aL;((repeat'(first|refine iW rfl rfl (bB (aD aT _) (fU aT (List.replicate i (-1)) (-1) (by rw [List.length_replicate]))) ?_|refine iF rfl rfl ?_|refine iC rfl rfl rfl ?_|refine iJ rfl rfl rfl rfl ?_));exact iN)
   unfold gF aL;((repeat' refine iK rfl ?_);exact iN)
  exfalso;simp [aA,aC,aF] at h6;omega
 have hge:i=2*m.length:=(by simp [aA,aC] at h3;omega);subst hge;(conv=>whnf)
 refine⟨fun q e h nx=>∃ (i:Nat) (j:Int),j=i∧i≤2*m.length∧q=2*m.length - i∧e=j7 m (kG l m i).outside j ∧
  h=(6,.cells true false 1 (flat aT.fl (kG l m i).of))::gF l m c1 c2 n (.slice (some ⟨6,0,none⟩) (2*m.length) (2*m.length)) (kG l m i).faces (kG l m i).ok∧nx=7,⟨2*m.length,?_⟩,?_⟩
 ·refine aJ (e0:=j7 m 0 0) (h0:=(6,.cells true false 1 (flat aT.fl (List.replicate (2*m.length) (-1))))::gF l m c1 c2 n (.slice (some ⟨6,0,none⟩) (2*m.length) (2*m.length)) 0 true) (n0:=7) ⟨0,0,rfl,Nat.zero_le _,rfl,rfl,rfl,rfl⟩ ?_ ?_ (by decide)
  ·unfold j7;((repeat' refine iE rfl rfl ?_);exact iN)
  unfold gF cR aL;((repeat'(first|refine iF rfl rfl ?_|refine iC rfl rfl rfl ?_|refine iJ rfl rfl rfl rfl ?_));exact iN)
 clear h2 h3 hj hi hip h1;rintro q e h nx ⟨i,j,hj,hi,rfl,rfl,rfl,rfl⟩;have low:=MA l m i;have len:=wZ l m i;have nxt:kG l m (i+1)=qS l m (kG l m i) i:=rfl;generalize hst:kG l m i=st at low len nxt;unfold j7 gF cR aL;((conv=>whnf);apply bm<;>intro h2);rotate_left
 ·exfalso;simp [aA,aC,aF] at h2;omega
 ((conv=>whnf);apply bm<;>intro h3);rotate_left
 ·have hge:i=2*m.length:=(by simp [aA,aC] at h3;omega);have hfin:fD l m=st:=(by rw [← hst,hge];rfl);rw [hfin]
  repeat' ((conv=>whnf);apply bm<;>intro g1)
  all_goals (conv=>whnf)
  all_goals refine⟨6,?_,rfl⟩
  all_goals (show Value.agg _=Value.agg _)
  all_goals rw [len]
  all_goals (simp [aA,aC] at *)
  all_goals simp [MT, *]
 have hlt:i<2*m.length:=(by simp [aA,aC] at h3;omega);have hdj:nB m j=true:=(by simp only [nB,Bool.and_eq_true,decide_eq_true_eq];omega);((conv=>whnf);apply bm<;>intro h4);rotate_left
 ·exfalso;simp [aA,aC] at h4;omega
 (conv=>whnf);refine iU (iA st.of (i:=i) (by omega) ?_) ?_
 ·show _+Int.toNat j*1=_;omega
 ((conv=>whnf);apply bm<;>intro h5)
 ·have h5:0≤aK st.of i:=(by simpa [aA,aC] using h5);((conv=>whnf);apply bm<;>intro h6)
  ·(conv=>whnf);refine⟨2*m.length - (i+1),by omega,?_⟩;refine aJ (e0:=j7 m st.outside (j+1)) (h0:=(6,.cells true false 1 (flat aT.fl st.of))::gF l m c1 c2 n (.slice (some ⟨6,0,none⟩) (2*m.length) (2*m.length)) st.faces st.ok) (n0:=7) ⟨i+1,j+1,by omega,by omega,rfl,?_,?_,rfl⟩ ?_ ?_ (by decide)
   ·rw [nxt];unfold qS;rw [if_pos h5];rfl
   ·rw [nxt];unfold qS;rw [if_pos h5];rfl
   ·unfold j7;((repeat' refine iE rfl rfl ?_);exact iN)
   unfold gF cR aL;((repeat'(first|refine iF rfl rfl ?_|refine iC rfl rfl rfl ?_|refine iJ rfl rfl rfl rfl ?_));exact iN)
  exfalso;simp [aA,aC,aF] at h6;omega
 have h5:¬ 0≤aK st.of i:=(by simpa [aA,aC] using h5);(conv=>whnf);refine⟨_,_,_,[iv j],_,l,m,tru m,rfl,aG bC rfl,aG bL rfl,aG gP rfl,?_⟩;((conv=>whnf);apply bm<;>intro h6);rotate_left
 ·exfalso;have h6:(kS l m&&nB m j&&decide ((tru m).length=2*m.length))=false:=h6;rw [hM,hdj,decide_eq_true (aGS m)] at h6;cases h6
 obtain⟨w,hw⟩:∃ w,w=kA l m (tru m) j:=⟨_,rfl⟩;have hwl:=WS l m (tru m) j;have hwp:=VL l m (tru m) j;have hwi:=aBM (l:=l) (k:=tru m) hm hdj;rw [← hw] at hwl hwp hwi;have hj':kA l m (List.replicate (2*m.length) true) i=w:=(by rw [hw,hj];rfl);rw [← hw];(conv=>whnf);refine⟨_,_,_,[],_,l,m,w,rfl,aG bC rfl,aG bL rfl,aG aT rfl,?_⟩;((conv=>whnf);apply bm<;>intro h7);rotate_left
 ·exfalso;have h7:(kS l m&&UL m w&&decide (w.length≤10000))=false:=h7;rw [hM,hwi,decide_eq_true (show w.length≤10000 by omega)] at h7;cases h7
 obtain⟨a,ha⟩:∃ a,a=nZ l m w w.length:=⟨_,rfl⟩;rw [← ha];have hstep:qS l m st i=⟨dV st.of w (if 0<a then st.faces+1 else 0) w.length,if 0<a then st.faces+1 else st.faces,if a<0 then st.outside+1 else st.outside,if a=0 then false else st.ok⟩:=by
  unfold qS;rw [if_neg h5];simp only [hj',← ha]
 ((conv=>whnf);apply bm<;>intro g1)
 ·have g1:0<a:=(by simpa [aA,aC] using g1);rw [if_pos g1,if_pos g1,if_neg (by omega),if_neg (by omega)] at hstep;((conv=>whnf);apply bm<;>intro g2);rotate_left
  ·exfalso;simp [aA,aC,aF] at g2;omega
  ((conv=>whnf);apply bm<;>intro g3)
  ·exfalso;have:a<0:=(by simpa [aA,aC] using g3);omega
  ((conv=>whnf);apply bm<;>intro g4)
  ·exfalso;have:a=0:=(by simpa [aA,aC] using g4);omega
  (conv=>whnf)
  refine⟨fun q e h nx=>∃ (t:Nat) (z:Int),z=t∧t≤w.length∧q=w.length - t∧e=mA m w (st.outside) j (st.faces+1) z ∧
   h=(7,.cells true false 1 (flat aT.fl w))::(6,.cells true false 1 (flat aT.fl (dV st.of w (st.faces+1) t)))::gF l m c1 c2 n (.slice (some ⟨6,0,none⟩) (2*m.length) (2*m.length)) (st.faces+1) (st.ok)∧nx=8,⟨w.length,?_⟩,?_⟩
  ·refine aJ (e0:=mA m w (st.outside) j (st.faces+1) 0) (h0:=(7,.cells true false 1 (flat aT.fl w))::(6,.cells true false 1 (flat aT.fl st.of))::gF l m c1 c2 n (.slice (some ⟨6,0,none⟩) (2*m.length) (2*m.length)) (st.faces+1) (st.ok)) (n0:=8) ⟨0,0,rfl,Nat.zero_le _,rfl,rfl,rfl,rfl⟩ ?_ ?_ (by decide)
   ·unfold mA j7;((repeat' refine iE rfl rfl ?_);exact iN)
   unfold gF cR aL;((repeat'(first|refine iF rfl rfl ?_|refine iC rfl rfl rfl ?_|refine iJ rfl rfl rfl rfl ?_));exact iN)
  rintro q e h nx ⟨t,z,hz,ht,rfl,rfl,rfl,rfl⟩;have sl:=fR st.of w (st.faces+1) t;unfold mA j7 gF cR aL;((conv=>whnf);apply bm<;>intro k1);rotate_left
  ·have hgt:t=w.length:=(by simp [aA,aC] at k1;omega);subst hgt;((conv=>whnf);apply bm<;>intro k2)
   ·(conv=>whnf);refine⟨2*m.length - (i+1),by omega,?_⟩;refine aJ (e0:=j7 m (st.outside) (j+1)) (h0:=(6,.cells true false 1 (flat aT.fl (dV st.of w (st.faces+1) w.length)))::gF l m c1 c2 n (.slice (some ⟨6,0,none⟩) (2*m.length) (2*m.length)) (st.faces+1) (st.ok)) (n0:=7) ⟨i+1,j+1,by omega,by omega,rfl,by rw [nxt,hstep];rfl,by rw [nxt,hstep];rfl,rfl⟩ ?_ ?_ (by decide)
    ·unfold j7;((repeat' refine iE rfl rfl ?_);exact iN)
    unfold gF cR aL;((repeat'(first|refine iF rfl rfl ?_|refine iC rfl rfl rfl ?_|refine iJ rfl rfl rfl rfl ?_));exact iN)
   exfalso;simp [aA,aC,aF] at k2;omega
  have htl:t<w.length:=(by simp [aA,aC] at k1;omega);have hdt:=B3 hwi htl;simp only [nB,Bool.and_eq_true,decide_eq_true_eq] at hdt;((conv=>whnf);apply bm<;>intro k2);rotate_left
  ·exfalso;simp [aA,aC] at k2;omega
  (conv=>whnf);refine iU (iA w (i:=t) htl ?_) ?_
  ·show _+Int.toNat z*1=_;omega
  ((conv=>whnf);apply bm<;>intro k3)
  ·((conv=>whnf);apply bm<;>intro k4)
   ·((conv=>whnf);apply bm<;>intro k5)
    ·(conv=>whnf);refine⟨w.length - (t+1),by omega,?_⟩;refine aJ (e0:=mA m w (st.outside) j (st.faces+1) (z+1)) (h0:=(7,.cells true false 1 (flat aT.fl w))::(6,.cells true false 1 (flat aT.fl (dV st.of w (st.faces+1) (t+1))))::gF l m c1 c2 n (.slice (some ⟨6,0,none⟩) (2*m.length) (2*m.length)) (st.faces+1) (st.ok)) (n0:=8) ⟨t+1,z+1,by omega,by omega,rfl,rfl,rfl,rfl⟩ ?_ ?_ (by decide)
     ·unfold mA j7;((repeat' refine iE rfl rfl ?_);exact iN)
     unfold gF cR aL;have bT:=r6 (of:=st.of) (w:=w) (c:=st.faces+1) (t:=t) (o:=0+(aK w t).toNat*1) (by omega) (by omega);((repeat'(first|refine iW rfl rfl (bB (aD aT _) bT) ?_|refine iF rfl rfl ?_|refine iC rfl rfl rfl ?_|refine iJ rfl rfl rfl rfl ?_));exact iN)
    exfalso;simp [aA,aC,aF] at k5;omega
   exfalso;have hfl:(flat aT.fl (dV st.of w (st.faces+1) t)).length=2*m.length:=(by rw [bE,sl,len];exact Nat.mul_one _);rw [hfl] at k4;have k4:(0+(aK w t).toNat*1+1).ble (2*m.length)=false:=k4;have:=Nat.ble_eq_true_of_le (show 0+(aK w t).toNat*1+1≤2*m.length by omega);rw [this] at k4;cases k4
  exfalso;simp [aA,aC] at k3;omega
 have g1:¬ 0<a:=(by simpa [aA,aC] using g1);rw [if_neg g1,if_neg g1] at hstep;((conv=>whnf);apply bm<;>intro g3);rotate_left
 ·have g3:¬ a<0:=(by simpa [aA,aC] using g3);rw [if_neg g3,if_pos (by omega)] at hstep;((conv=>whnf);apply bm<;>intro g4)
  ·(conv=>whnf)
   refine⟨fun q e h nx=>∃ (t:Nat) (z:Int),z=t∧t≤w.length∧q=w.length - t∧e=mA m w (st.outside) j (0) z ∧
    h=(7,.cells true false 1 (flat aT.fl w))::(6,.cells true false 1 (flat aT.fl (dV st.of w (0) t)))::gF l m c1 c2 n (.slice (some ⟨6,0,none⟩) (2*m.length) (2*m.length)) (st.faces) (false)∧nx=8,⟨w.length,?_⟩,?_⟩
   ·refine aJ (e0:=mA m w (st.outside) j (0) 0) (h0:=(7,.cells true false 1 (flat aT.fl w))::(6,.cells true false 1 (flat aT.fl st.of))::gF l m c1 c2 n (.slice (some ⟨6,0,none⟩) (2*m.length) (2*m.length)) (st.faces) (false)) (n0:=8) ⟨0,0,rfl,Nat.zero_le _,rfl,rfl,rfl,rfl⟩ ?_ ?_ (by decide)
    ·unfold mA j7;((repeat' refine iE rfl rfl ?_);exact iN)
    unfold gF cR aL;((repeat'(first|refine iF rfl rfl ?_|refine iC rfl rfl rfl ?_|refine iJ rfl rfl rfl rfl ?_));exact iN)
   rintro q e h nx ⟨t,z,hz,ht,rfl,rfl,rfl,rfl⟩;have sl:=fR st.of w (0) t;unfold mA j7 gF cR aL;((conv=>whnf);apply bm<;>intro k1)
   ·have htl:t<w.length:=(by simp [aA,aC] at k1;omega);have hdt:=B3 hwi htl;simp only [nB,Bool.and_eq_true,decide_eq_true_eq] at hdt;((conv=>whnf);apply bm<;>intro k2)
    ·(conv=>whnf);refine iU (iA w (i:=t) htl ?_) ?_
     ·show _+Int.toNat z*1=_;omega
     ((conv=>whnf);apply bm<;>intro k3)
     ·((conv=>whnf);apply bm<;>intro k4)
      ·((conv=>whnf);apply bm<;>intro k5)
       ·(conv=>whnf);refine⟨w.length - (t+1),by omega,?_⟩;refine aJ (e0:=mA m w (st.outside) j (0) (z+1)) (h0:=(7,.cells true false 1 (flat aT.fl w))::(6,.cells true false 1 (flat aT.fl (dV st.of w (0) (t+1))))::gF l m c1 c2 n (.slice (some ⟨6,0,none⟩) (2*m.length) (2*m.length)) (st.faces) (false)) (n0:=8) ⟨t+1,z+1,by omega,by omega,rfl,rfl,rfl,rfl⟩ ?_ ?_ (by decide)
        ·unfold mA j7;((repeat' refine iE rfl rfl ?_);exact iN)
        unfold gF cR aL;have bT:=r6 (of:=st.of) (w:=w) (c:=0) (t:=t) (o:=0+(aK w t).toNat*1) (by omega) (by omega);((repeat'(first|refine iW rfl rfl (bB (aD aT _) bT) ?_|refine iF rfl rfl ?_|refine iC rfl rfl rfl ?_|refine iJ rfl rfl rfl rfl ?_));exact iN)
       exfalso;simp [aA,aC,aF] at k5;omega
      exfalso;have hfl:(flat aT.fl (dV st.of w (0) t)).length=2*m.length:=(by rw [bE,sl,len];exact Nat.mul_one _);rw [hfl] at k4;have k4:(0+(aK w t).toNat*1+1).ble (2*m.length)=false:=k4;have:=Nat.ble_eq_true_of_le (show 0+(aK w t).toNat*1+1≤2*m.length by omega);rw [this] at k4;cases k4
     exfalso;simp [aA,aC] at k3;omega
    exfalso;simp [aA,aC] at k2;omega
   have hgt:t=w.length:=(by simp [aA,aC] at k1;omega);subst hgt;((conv=>whnf);apply bm<;>intro k2)
   ·(conv=>whnf);refine⟨2*m.length - (i+1),by omega,?_⟩;refine aJ (e0:=j7 m (st.outside) (j+1)) (h0:=(6,.cells true false 1 (flat aT.fl (dV st.of w (0) w.length)))::gF l m c1 c2 n (.slice (some ⟨6,0,none⟩) (2*m.length) (2*m.length)) (st.faces) (false)) (n0:=7) ⟨i+1,j+1,by omega,by omega,rfl,by rw [nxt,hstep];rfl,by rw [nxt,hstep];rfl,rfl⟩ ?_ ?_ (by decide)
    ·unfold j7;((repeat' refine iE rfl rfl ?_);exact iN)
    unfold gF cR aL;((repeat'(first|refine iF rfl rfl ?_|refine iC rfl rfl rfl ?_|refine iJ rfl rfl rfl rfl ?_));exact iN)
   exfalso;simp [aA,aC,aF] at k2;omega
  exfalso;have:¬ a=0:=(by simpa [aA,aC] using g4);omega
 have g3:a<0:=(by simpa [aA,aC] using g3);rw [if_pos g3,if_neg (by omega)] at hstep;((conv=>whnf);apply bm<;>intro g2);rotate_left
 ·exfalso;simp [aA,aC,aF] at g2;omega
 ((conv=>whnf);apply bm<;>intro g4)
 ·exfalso;have:a=0:=(by simpa [aA,aC] using g4);omega
 (conv=>whnf)
 refine⟨fun q e h nx=>∃ (t:Nat) (z:Int),z=t∧t≤w.length∧q=w.length - t∧e=mA m w (st.outside+1) j (0) z ∧
  h=(7,.cells true false 1 (flat aT.fl w))::(6,.cells true false 1 (flat aT.fl (dV st.of w (0) t)))::gF l m c1 c2 n (.slice (some ⟨6,0,none⟩) (2*m.length) (2*m.length)) (st.faces) (st.ok)∧nx=8,⟨w.length,?_⟩,?_⟩
 ·refine aJ (e0:=mA m w (st.outside+1) j (0) 0) (h0:=(7,.cells true false 1 (flat aT.fl w))::(6,.cells true false 1 (flat aT.fl st.of))::gF l m c1 c2 n (.slice (some ⟨6,0,none⟩) (2*m.length) (2*m.length)) (st.faces) (st.ok)) (n0:=8) ⟨0,0,rfl,Nat.zero_le _,rfl,rfl,rfl,rfl⟩ ?_ ?_ (by decide)
  ·unfold mA j7;((repeat' refine iE rfl rfl ?_);exact iN)
  unfold gF cR aL;((repeat'(first|refine iF rfl rfl ?_|refine iC rfl rfl rfl ?_|refine iJ rfl rfl rfl rfl ?_));exact iN)
 rintro q e h nx ⟨t,z,hz,ht,rfl,rfl,rfl,rfl⟩;have sl:=fR st.of w (0) t;unfold mA j7 gF cR aL;((conv=>whnf);apply bm<;>intro k1);rotate_left
 ·have hgt:t=w.length:=(by simp [aA,aC] at k1;omega);subst hgt;((conv=>whnf);apply bm<;>intro k2)
  ·(conv=>whnf);refine⟨2*m.length - (i+1),by omega,?_⟩;refine aJ (e0:=j7 m (st.outside+1) (j+1)) (h0:=(6,.cells true false 1 (flat aT.fl (dV st.of w (0) w.length)))::gF l m c1 c2 n (.slice (some ⟨6,0,none⟩) (2*m.length) (2*m.length)) (st.faces) (st.ok)) (n0:=7) ⟨i+1,j+1,by omega,by omega,rfl,by rw [nxt,hstep];rfl,by rw [nxt,hstep];rfl,rfl⟩ ?_ ?_ (by decide)
   ·unfold j7;((repeat' refine iE rfl rfl ?_);exact iN)
   unfold gF cR aL;((repeat'(first|refine iF rfl rfl ?_|refine iC rfl rfl rfl ?_|refine iJ rfl rfl rfl rfl ?_));exact iN)
  exfalso;simp [aA,aC,aF] at k2;omega
 have htl:t<w.length:=(by simp [aA,aC] at k1;omega);have hdt:=B3 hwi htl;simp only [nB,Bool.and_eq_true,decide_eq_true_eq] at hdt;((conv=>whnf);apply bm<;>intro k2);rotate_left
 ·exfalso;simp [aA,aC] at k2;omega
 (conv=>whnf);refine iU (iA w (i:=t) htl ?_) ?_
 ·show _+Int.toNat z*1=_;omega
 ((conv=>whnf);apply bm<;>intro k3)
 ·((conv=>whnf);apply bm<;>intro k4)
  ·((conv=>whnf);apply bm<;>intro k5)
   ·(conv=>whnf);refine⟨w.length - (t+1),by omega,?_⟩;refine aJ (e0:=mA m w (st.outside+1) j (0) (z+1)) (h0:=(7,.cells true false 1 (flat aT.fl w))::(6,.cells true false 1 (flat aT.fl (dV st.of w (0) (t+1))))::gF l m c1 c2 n (.slice (some ⟨6,0,none⟩) (2*m.length) (2*m.length)) (st.faces) (st.ok)) (n0:=8) ⟨t+1,z+1,by omega,by omega,rfl,rfl,rfl,rfl⟩ ?_ ?_ (by decide)
    ·unfold mA j7;((repeat' refine iE rfl rfl ?_);exact iN)
    unfold gF cR aL;have bT:=r6 (of:=st.of) (w:=w) (c:=0) (t:=t) (o:=0+(aK w t).toNat*1) (by omega) (by omega);((repeat'(first|refine iW rfl rfl (bB (aD aT _) bT) ?_|refine iF rfl rfl ?_|refine iC rfl rfl rfl ?_|refine iJ rfl rfl rfl rfl ?_));exact iN)
   exfalso;simp [aA,aC,aF] at k5;omega
  exfalso;have hfl:(flat aT.fl (dV st.of w (0) t)).length=2*m.length:=(by rw [bE,sl,len];exact Nat.mul_one _);rw [hfl] at k4;have k4:(0+(aK w t).toNat*1+1).ble (2*m.length)=false:=k4;have:=Nat.ble_eq_true_of_le (show 0+(aK w t).toNat*1+1≤2*m.length by omega);rw [this] at k4;cases k4
 exfalso;simp [aA,aC] at k3;omega
theorem AM (l:List Bool):∀ (i:Nat) (v:Bool),i<l.length→eJ (flat gP.fl l) (i*1) [.bool v]=flat gP.fl (l.set i v):=by
 induction l with
 |nil=>intro i v h;cases h
 |cons a r ih =>
  intro i v h;cases i with
  |zero=>rfl
  |succ i =>
   have:=ih i v (by simpa using h);simp only [List.set_cons_succ,flat,← this];have e:(i+1)*1=i*1+1:=(by omega);rw [e];unfold eJ;show List.take (i*1+1) (.bool a::flat gP.fl r)++_++List.drop (i*1+1+1) (.bool a::flat gP.fl r)=_;rfl
def nG (i:Nat):List Bool:=(List.range i).map fun (t:Nat)=>decide ((t:Int)=0)
theorem uX (i:Nat):(nG i).length=i:=by simp [nG]
theorem aKU (i:Nat):nG (i+1)=nG i++[decide ((i:Int)=0)]:=by
 unfold nG;rw [List.range_succ,List.map_append];rfl
def vD (s:List Bool)(e:Ed):List Bool:=if (cV s e.a.toNat || cV s e.b.toNat)=true then (s.set e.a.toNat true).set e.b.toNat true else s
def nF (m:List Ed)(s:List Bool):Nat→List Bool
 |0=>s
 |i+1=>vD (nF m s i) (bO m i)
def dO (l:List Pt)(m:List Ed):Nat→List Bool
 |0=>nG l.length
 |i+1=>nF m (dO l m i) m.length
def C4 (l:List Pt)(m:List Ed):Bool:=(dO l m l.length).all id
theorem aE7 (s:List Bool)(e:Ed):(vD s e).length=s.length:=by
 unfold vD;split <;> simp
theorem sF (m:List Ed)(s:List Bool):∀ i,(nF m s i).length=s.length
 |0=>rfl
 |i+1=>by unfold nF;rw [aE7];exact sF m s i
theorem sI (l:List Pt)(m:List Ed):∀ i,(dO l m i).length=l.length
 |0=>uX _
 |i+1=>by unfold dO;rw [sF];exact sI l m i
theorem WL {s:List Bool}{a b o1 o2:Nat}(h1:o1=a*1)(h2:o2=b*1)(ha:a<s.length)(hb:b<s.length):eJ (eJ (flat gP.fl s) o1 [.bool true]) o2 [.bool true]=flat gP.fl ((s.set a true).set b true):=by
 rw [h1,h2,AM _ _ _ ha,AM _ _ _ (by rw [List.length_set];exact hb)]
theorem fI {x N:Nat}{p:Prop}(h:x.ble N=false)(hx:x≤N):p:=by
 rw [Nat.ble_eq_true_of_le hx] at h;cases h
def coS (l:List Pt)(m:List Ed)(n:Int):List Value→Option (Bool × Value)
 |[]=>some (kS l m&&decide (1≤l.length),.bool (C4 l m))
 |_=>none
theorem aHE {l:List Pt}{m:List Ed}{n:Int}{r:List Value}{v:Value}(h:coS l m n r=some (true,v)):r=[]∧kS l m=true∧1≤l.length∧v=.bool (C4 l m):=by
 unfold coS at h;split at h
 ·injection h with h;injection h with h1 h2;simp only [Bool.and_eq_true,decide_eq_true_eq] at h1;exact⟨rfl,h1.1,h1.2,h2.symm⟩
 ·cases h
def cY (l:List Pt)(m:List Ed)(c1 c2:Nat)(n:Int):Heap:=(2,cR l.length m.length c1 c2 n)::aL bC bL l m
def bP (l:List Pt)(m:List Ed)(c1 c2:Nat)(n:Int)(s:List Bool):Heap:=(3,.cells true false 1 (flat gP.fl s))::cY l m c1 c2 n
def KN (s:Value)(j:Int):List (Nat × Value):=[(1,.pointer (some ⟨2,0,none⟩)),(3,s),(4,iv j)]
def tP (N:Nat)(j:Int):List (Nat × Value):=[(1,.pointer (some ⟨2,0,none⟩)),(3,.slice (some ⟨3,0,none⟩) N N),(5,iv j)]
def yJ (N:Nat)(j k:Int):List (Nat × Value):=(6,iv k)::tP N j
def MJ (N:Nat)(j:Int):List (Nat × Value):=[(3,.slice (some ⟨3,0,none⟩) N N),(8,iv j)]
def aEl:Nat × XF:=(94,mX bC bL coS)
theorem aNP:cO Go.Proofs.Tryz.prog aEl.1 aEl.2:=mV bC bL (aH (xl:=[]) .nil) fun l m n r v hs=>by
 obtain⟨rfl,hM,h1l,rfl⟩:=aHE hs;clear hs;refine⟨rfl,rfl,fun c1 c2=>?_⟩;have hm:m.length≤1000:=(by simp only [kS,Bool.and_eq_true,decide_eq_true_eq] at hM;exact hM.1.2);have hl:l.length≤1000:=(by simp only [kS,Bool.and_eq_true,decide_eq_true_eq] at hM;exact hM.2);(conv=>whnf)
 refine⟨fun q e h nx=>∃ (i:Nat) (j:Int),j=i∧i≤l.length∧q=l.length - i ∧
  ((i=0∧e=KN (.slice none 0 0) j∧h=cY l m c1 c2 n∧nx=3)∨(0<i∧e=KN (.slice (some ⟨3,0,none⟩) i i) j∧h=bP l m c1 c2 n (nG i)∧nx=4)),⟨l.length,?_⟩,?_⟩
 ·refine aJ (e0:=KN (.slice none 0 0) 0) (h0:=cY l m c1 c2 n) (n0:=3) ⟨0,0,rfl,Nat.zero_le _,rfl,.inl ⟨rfl,rfl,rfl,rfl⟩⟩ ?_ ?_ (by decide)
  ·unfold KN;((repeat' refine iE rfl rfl ?_);exact iN)
  unfold cY cR aL;((repeat'(first|refine iF rfl rfl ?_|refine iC rfl rfl rfl ?_|refine iJ rfl rfl rfl rfl ?_));exact iN)
 rintro q e h nx ⟨i,j,hj,hi,rfl,⟨hi0,rfl,rfl,rfl⟩|⟨hip,rfl,rfl,rfl⟩⟩
 ·subst hi0;unfold KN cY cR aL;((conv=>whnf);apply bm<;>intro h2)
  ·((conv=>whnf);apply bm<;>intro h3)
   ·(conv=>whnf);refine⟨l.length - 1,by omega,?_⟩;refine j5 (e0:=KN (.slice (some ⟨3,0,none⟩) 1 1) (j+1)) (h0:=bP l m c1 c2 n [decide (j=0)]) (n0:=4) 3 4 (by decide) (by decide) ⟨1,j+1,by omega,by omega,rfl,.inr ⟨Nat.one_pos,rfl,by rw [hj];rfl,rfl⟩⟩ ?_ ?_ ?_
    ·unfold KN;((repeat' refine iE rfl rfl ?_);exact iN)
    ·unfold bP cY cR aL;((repeat'(first|refine iF rfl rfl ?_|refine iC rfl rfl rfl ?_|refine iJ rfl rfl rfl rfl ?_));exact iN)
    unfold bP cY aL;((repeat' refine iK rfl ?_);exact iN)
   exfalso;simp [aA,aC,aF] at h3;omega
  exfalso;simp [aA,aC] at h2;omega
 unfold KN bP cY cR aL;((conv=>whnf);apply bm<;>intro h2)
 ·have hlt:i<l.length:=(by simp [aA,aC] at h2;omega);have hll:(flat gP.fl (nG i)).length=i:=(by rw [bE,uX];exact Nat.mul_one _);((conv=>whnf);apply bm<;>intro h3)
  ·exfalso;have:=Nat.le_of_ble_eq_true h3;omega
  ((conv=>whnf);apply bm<;>intro h4);rotate_left
  ·exact nN (s:=1) (by omega) (by omega) h4
  ((conv=>whnf);apply bm<;>intro h5)
  ·(conv=>whnf);refine⟨l.length - (i+1),by omega,?_⟩
   refine j5 (e0:=KN (.slice (some ⟨3,0,none⟩) (i+1) (i+1)) (j+1)) (h0:=bP l m c1 c2 n (nG i++[decide (j=0)])) (n0:=4) 3 5 (by decide) (by decide)
    ⟨i+1,j+1,by omega,by omega,rfl,.inr ⟨Nat.succ_pos _,rfl,by rw [aKU,hj];rfl,rfl⟩⟩ ?_ ?_ ?_
   ·unfold KN;((repeat' refine iE rfl rfl ?_);exact iN)
   ·unfold bP cY cR aL;((repeat'(first|refine iW rfl rfl (bB (aD gP _) (fU gP (nG i) (decide (j=0)) (uX i).symm)) ?_|refine iF rfl rfl ?_|refine iC rfl rfl rfl ?_|refine iJ rfl rfl rfl rfl ?_));exact iN)
   unfold bP cY aL;((repeat' refine iK rfl ?_);exact iN)
  exfalso;simp [aA,aC,aF] at h5;omega
 have hge:i=l.length:=(by simp [aA,aC] at h2;omega);subst hge;clear hj hi hip h2;(conv=>whnf);refine⟨fun q e h nx=>∃ (i:Nat) (j:Int),j=i∧i≤l.length∧q=l.length - i∧e=tP l.length j∧h=bP l m c1 c2 n (dO l m i)∧nx=4,⟨l.length,?_⟩,?_⟩
 ·refine aJ (e0:=tP l.length 0) (h0:=bP l m c1 c2 n (nG l.length)) (n0:=4) ⟨0,0,rfl,Nat.zero_le _,rfl,rfl,rfl,rfl⟩ ?_ ?_ (by decide)
  ·unfold tP;((repeat' refine iE rfl rfl ?_);exact iN)
  unfold bP cY cR aL;((repeat'(first|refine iF rfl rfl ?_|refine iC rfl rfl rfl ?_|refine iJ rfl rfl rfl rfl ?_));exact iN)
 rintro q e h nx ⟨i,j,hj,hi,rfl,rfl,rfl,rfl⟩;have cl:=sI l m i;unfold tP bP cY cR aL;((conv=>whnf);apply bm<;>intro h2);rotate_left
 ·have hge:i=l.length:=(by simp [aA,aC] at h2;omega);have hcon:C4 l m=(dO l m i).all id:=(by rw [hge];rfl);generalize dO l m i=s at cl hcon;rw [hcon];clear hcon;(conv=>whnf);refine⟨fun q e h nx=>∃ (t:Nat) (z:Int),z=t∧t≤l.length∧q=l.length - t∧s.all id=(s.drop t).all id∧e=MJ l.length z∧h=bP l m c1 c2 n s∧nx=4,⟨l.length,?_⟩,?_⟩
  ·refine aJ (e0:=MJ l.length 0) (h0:=bP l m c1 c2 n s) (n0:=4) ⟨0,0,rfl,Nat.zero_le _,rfl,rfl,rfl,rfl,rfl⟩ ?_ ?_ (by decide)
   ·unfold MJ;((repeat' refine iE rfl rfl ?_);exact iN)
   unfold bP cY cR aL;((repeat'(first|refine iF rfl rfl ?_|refine iC rfl rfl rfl ?_|refine iJ rfl rfl rfl rfl ?_));exact iN)
  rintro q e h nx ⟨t,z,hz,ht,rfl,hall,rfl,rfl,rfl⟩;unfold MJ bP cY cR aL;((conv=>whnf);apply bm<;>intro h3)
  ·have htl:t<l.length:=(by simp [aA,aC] at h3;omega);have hd:s.drop t=cV s t::s.drop (t+1):=(by rw [qZ (by omega)];exact List.drop_eq_getElem_cons (by omega));rw [hd,List.all_cons] at hall;((conv=>whnf);apply bm<;>intro h4)
   ·(conv=>whnf);refine iU (Q4 s (i:=t) (by omega) ?_) ?_
    ·show _+Int.toNat z*1=_;omega
    ((conv=>whnf);apply bm<;>intro h5)
    ·have h5:cV s t=false:=(by simpa [aA,aC] using h5);(conv=>whnf);rw [hall,h5];rfl
    have h5:cV s t=true:=(by simpa [aA,aC] using h5);((conv=>whnf);apply bm<;>intro h6)
    ·(conv=>whnf);refine⟨l.length - (t+1),by omega,?_⟩;refine aJ (e0:=MJ l.length (z+1)) (h0:=bP l m c1 c2 n s) (n0:=4) ⟨t+1,z+1,by omega,by omega,rfl,by rw [hall,h5];rfl,rfl,rfl,rfl⟩ ?_ ?_ (by decide)
     ·unfold MJ;((repeat' refine iE rfl rfl ?_);exact iN)
     unfold bP cY cR aL;((repeat'(first|refine iF rfl rfl ?_|refine iC rfl rfl rfl ?_|refine iJ rfl rfl rfl rfl ?_));exact iN)
    exfalso;simp [aA,aC,aF] at h6;omega
   exfalso;simp [aA,aC] at h4;omega
  have hgt:t=l.length:=(by simp [aA,aC] at h3;omega);(conv=>whnf);rw [hall,hgt,List.drop_eq_nil_of_le (by omega)];rfl
 have hlt:i<l.length:=(by simp [aA,aC] at h2;omega);(conv=>whnf);refine⟨fun q e h nx=>∃ (t:Nat) (z:Int),z=t∧t≤m.length∧q=m.length - t∧e=yJ l.length j z∧h=bP l m c1 c2 n (nF m (dO l m i) t)∧nx=4,⟨m.length,?_⟩,?_⟩
 ·refine aJ (e0:=yJ l.length j 0) (h0:=bP l m c1 c2 n (dO l m i)) (n0:=4) ⟨0,0,rfl,Nat.zero_le _,rfl,rfl,rfl,rfl⟩ ?_ ?_ (by decide)
  ·unfold yJ tP;((repeat' refine iE rfl rfl ?_);exact iN)
  unfold bP cY cR aL;((repeat'(first|refine iF rfl rfl ?_|refine iC rfl rfl rfl ?_|refine iJ rfl rfl rfl rfl ?_));exact iN)
 rintro q e h nx ⟨t,z,hz,ht,rfl,rfl,rfl,rfl⟩;have rl:=sF m (dO l m i) t;rw [cl] at rl;have nxt:nF m (dO l m i) (t+1)=vD (nF m (dO l m i) t) (bO m t):=rfl;generalize hs0:nF m (dO l m i) t=s at rl nxt;unfold yJ tP bP cY cR aL;((conv=>whnf);apply bm<;>intro h3);rotate_left
 ·have hge:t=m.length:=(by simp [aA,aC] at h3;omega);have hcn:dO l m (i+1)=s:=by
   show nF m (dO l m i) m.length=s;rw [← hge];exact hs0
  ((conv=>whnf);apply bm<;>intro h4)
  ·(conv=>whnf);refine⟨l.length - (i+1),by omega,?_⟩;refine aJ (e0:=tP l.length (j+1)) (h0:=bP l m c1 c2 n s) (n0:=4) ⟨i+1,j+1,by omega,by omega,rfl,rfl,by rw [hcn];rfl,rfl⟩ ?_ ?_ (by decide)
   ·unfold tP;((repeat' refine iE rfl rfl ?_);exact iN)
   unfold bP cY cR aL;((repeat'(first|refine iF rfl rfl ?_|refine iC rfl rfl rfl ?_|refine iJ rfl rfl rfl rfl ?_));exact iN)
  exfalso;simp [aA,aC,aF] at h4;omega
 have htl:t<m.length:=(by simp [aA,aC] at h3;omega);have he:=pL hM htl;have hsl:(flat gP.fl s).length=l.length:=(by rw [bE,rl];exact Nat.mul_one _);((conv=>whnf);apply bm<;>intro h4);rotate_left
 ·exfalso;simp [aA,aC] at h4;omega
 (conv=>whnf);refine n8 (C5 m (i:=t) htl ?_) ?_
 ·show _+Int.toNat z*5=_;omega
 generalize bO m t=ed at he nxt;((conv=>whnf);apply bm<;>intro h5);rotate_left
 ·exfalso;simp [aA,aC] at h5;omega
 (conv=>whnf);refine iU (Q4 s (i:=ed.a.toNat) (by omega) ?_) ?_
 ·show _+Int.toNat ed.a*1=_;omega
 have fin:∀ s',vD s ed=s'→nF m (dO l m i) (t+1)=s':=fun s' h=>(by rw [nxt,h]);((conv=>whnf);apply bm<;>intro g1);rotate_left
 ·have g1:cV s ed.a.toNat=true:=(by simpa [aA,aC] using g1);have hrel:vD s ed=(s.set ed.a.toNat true).set ed.b.toNat true:=(by unfold vD;rw [g1];rfl);((conv=>whnf);apply bm<;>intro k1)
  ·((conv=>whnf);apply bm<;>intro k2)
   ·((conv=>whnf);apply bm<;>intro k3)
    ·((conv=>whnf);apply bm<;>intro k4)
     ·((conv=>whnf);apply bm<;>intro k5)
      ·(conv=>whnf);refine⟨m.length - (t+1),by omega,?_⟩;refine aJ (e0:=yJ l.length j (z+1)) (h0:=bP l m c1 c2 n ((s.set ed.a.toNat true).set ed.b.toNat true)) (n0:=4) ⟨t+1,z+1,by omega,by omega,rfl,rfl,by rw [fin _ hrel];rfl,rfl⟩ ?_ ?_ (by decide)
       ·unfold yJ tP;((repeat' refine iE rfl rfl ?_);exact iN)
       unfold bP cY cR aL;have bT:=WL (s:=s) (a:=ed.a.toNat) (b:=ed.b.toNat) (o1:=0+ed.a.toNat*1) (o2:=0+ed.b.toNat*1) (by omega) (by omega) (by omega) (by omega);((repeat'(first|refine iW rfl rfl (bB (aD gP _) bT) ?_|refine iF rfl rfl ?_|refine iC rfl rfl rfl ?_|refine iJ rfl rfl rfl rfl ?_));exact iN)
      exfalso;simp [aA,aC,aF] at k5;omega
     have hpl:(eJ (flat gP.fl s) (0+ed.a.toNat*1) [.bool true]).length=l.length:=(by rw [dR (by rw [hsl];show 0+ed.a.toNat*1+1≤l.length;omega)];exact hsl);have k4:(0+ed.b.toNat*1+1).ble (eJ (flat gP.fl s) (0+ed.a.toNat*1) [.bool true]).length=false:=k4;rw [hpl] at k4;exact fI k4 (by omega)
    exfalso;simp [aA,aC] at k3;omega
   rw [hsl] at k2;exact fI k2 (by show 0+ed.a.toNat*1+1≤l.length;omega)
  exfalso;simp [aA,aC] at k1;omega
 have g1:cV s ed.a.toNat=false:=(by simpa [aA,aC] using g1);((conv=>whnf);apply bm<;>intro g2);rotate_left
 ·exfalso;simp [aA,aC] at g2;omega
 (conv=>whnf);refine iU (Q4 s (i:=ed.b.toNat) (by omega) ?_) ?_
 ·show _+Int.toNat ed.b*1=_;omega
 ((conv=>whnf);apply bm<;>intro g3);rotate_left
 ·have g3:cV s ed.b.toNat=false:=g3;have hrel:vD s ed=s:=(by unfold vD;rw [g1,g3];rfl);((conv=>whnf);apply bm<;>intro k5)
  ·(conv=>whnf);refine⟨m.length - (t+1),by omega,?_⟩;refine aJ (e0:=yJ l.length j (z+1)) (h0:=bP l m c1 c2 n s) (n0:=4) ⟨t+1,z+1,by omega,by omega,rfl,rfl,by rw [fin _ hrel];rfl,rfl⟩ ?_ ?_ (by decide)
   ·unfold yJ tP;((repeat' refine iE rfl rfl ?_);exact iN)
   unfold bP cY cR aL;((repeat'(first|refine iF rfl rfl ?_|refine iC rfl rfl rfl ?_|refine iJ rfl rfl rfl rfl ?_));exact iN)
  exfalso;simp [aA,aC,aF] at k5;omega
 have g3:cV s ed.b.toNat=true:=g3;have hrel:vD s ed=(s.set ed.a.toNat true).set ed.b.toNat true:=(by unfold vD;rw [g1,g3];rfl);((conv=>whnf);apply bm<;>intro k1);rotate_left
 ·exfalso;simp [aA,aC] at k1;omega
 ((conv=>whnf);apply bm<;>intro k2);rotate_left
 ·rw [hsl] at k2;exact fI k2 (by show 0+ed.a.toNat*1+1≤l.length;omega)
 ((conv=>whnf);apply bm<;>intro k3)
 ·((conv=>whnf);apply bm<;>intro k4)
  ·((conv=>whnf);apply bm<;>intro k5)
   ·(conv=>whnf);refine⟨m.length - (t+1),by omega,?_⟩;refine aJ (e0:=yJ l.length j (z+1)) (h0:=bP l m c1 c2 n ((s.set ed.a.toNat true).set ed.b.toNat true)) (n0:=4) ⟨t+1,z+1,by omega,by omega,rfl,rfl,by rw [fin _ hrel];rfl,rfl⟩ ?_ ?_ (by decide)
    ·unfold yJ tP;((repeat' refine iE rfl rfl ?_);exact iN)
    unfold bP cY cR aL;have bT:=WL (s:=s) (a:=ed.a.toNat) (b:=ed.b.toNat) (o1:=0+ed.a.toNat*1) (o2:=0+ed.b.toNat*1) (by omega) (by omega) (by omega) (by omega);((repeat'(first|refine iW rfl rfl (bB (aD gP _) bT) ?_|refine iF rfl rfl ?_|refine iC rfl rfl rfl ?_|refine iJ rfl rfl rfl rfl ?_));exact iN)
   exfalso;simp [aA,aC,aF] at k5;omega
  have hpl:(eJ (flat gP.fl s) (0+ed.a.toNat*1) [.bool true]).length=l.length:=(by rw [dR (by rw [hsl];show 0+ed.a.toNat*1+1≤l.length;omega)];exact hsl);have k4:(0+ed.b.toNat*1+1).ble (eJ (flat gP.fl s) (0+ed.a.toNat*1) [.bool true]).length=false:=k4;rw [hpl] at k4;exact fI k4 (by omega)
 exfalso;simp [aA,aC] at k3;omega
def aS (l:List Pt)(m:List Ed)(i:Nat):Sg:=(eF l (bO m i).a,eF l (bO m i).b)
def sgS:MS:=sMD fun l m _ d=>(kS l m&&(decide (0≤d)&&decide (d<m.length)),sgv (aS l m d.toNat))
def aHN:Nat × XF:=(98,mX bC bL sgS)
theorem aNS:cO Go.Proofs.Tryz.prog aHN.1 aHN.2:=mV bC bL (aH (xl:=[]) .nil) fun l m n r v hs=>by
 obtain⟨d,rfl,hd,rfl⟩:=wY hs;clear hs;simp only [Bool.and_eq_true,decide_eq_true_eq] at hd;obtain⟨hM,h0,hd⟩:=hd;have he:=pL hM (i:=d.toNat) (by omega);refine⟨rfl,rfl,fun c1 c2=>?_⟩;((conv=>whnf);apply bm<;>intro h1);rotate_left
 ·exfalso;simp [aA,aC] at h1;omega
 (conv=>whnf);refine iU (H7 m 0 (i:=d.toNat) (by omega) rfl (by decide) ?_) ?_
 ·show _+Int.toNat d*5+0=_;omega
 ((conv=>whnf);apply bm<;>intro h2);rotate_left
 ·exfalso;simp [aA,aC] at h2;omega
 (conv=>whnf);refine n8 (jA l (i:=(bO m d.toNat).a.toNat) (by omega) ?_) ?_
 ·show _+Int.toNat (bO m d.toNat).a*2=_;omega
 ((conv=>whnf);apply bm<;>intro h3)
 ·(conv=>whnf);refine iU (H7 m 1 (i:=d.toNat) (by omega) rfl (by decide) ?_) ?_
  ·show _+Int.toNat d*5+1=_;omega
  ((conv=>whnf);apply bm<;>intro h4)
  ·(conv=>whnf);refine n8 (jA l (i:=(bO m d.toNat).b.toNat) (by omega) ?_) ?_
   ·show _+Int.toNat (bO m d.toNat).b*2=_;omega
   (conv=>whnf);rfl
  exfalso;simp [aA,aC] at h4;omega
 exfalso;simp [aA,aC] at h3;omega
def OR:Nat × XF:=(80,mX bC bL sgS)
theorem aIl:cO Go.Proofs.Tryz.prog OR.1 OR.2:=mV bC bL (aH (xl:=[]) .nil) fun l m n r v hs=>by
 obtain⟨d,rfl,hd,rfl⟩:=wY hs;clear hs;simp only [Bool.and_eq_true,decide_eq_true_eq] at hd;obtain⟨hM,h0,hd⟩:=hd;have he:=pL hM (i:=d.toNat) (by omega);refine⟨rfl,rfl,fun c1 c2=>?_⟩;((conv=>whnf);apply bm<;>intro h1);rotate_left
 ·exfalso;simp [aA,aC] at h1;omega
 (conv=>whnf);refine iU (H7 m 0 (i:=d.toNat) (by omega) rfl (by decide) ?_) ?_
 ·show _+Int.toNat d*5+0=_;omega
 ((conv=>whnf);apply bm<;>intro h2);rotate_left
 ·exfalso;simp [aA,aC] at h2;omega
 (conv=>whnf);refine n8 (jA l (i:=(bO m d.toNat).a.toNat) (by omega) ?_) ?_
 ·show _+Int.toNat (bO m d.toNat).a*2=_;omega
 ((conv=>whnf);apply bm<;>intro h3)
 ·(conv=>whnf);refine iU (H7 m 1 (i:=d.toNat) (by omega) rfl (by decide) ?_) ?_
  ·show _+Int.toNat d*5+1=_;omega
  ((conv=>whnf);apply bm<;>intro h4)
  ·(conv=>whnf);refine n8 (jA l (i:=(bO m d.toNat).b.toNat) (by omega) ?_) ?_
   ·show _+Int.toNat (bO m d.toNat).b*2=_;omega
   (conv=>whnf);rfl
  exfalso;simp [aA,aC] at h4;omega
 exfalso;simp [aA,aC] at h3;omega
def nM (f:Nat→Bool)(n:Nat):Bool:=(List.range n).all f
theorem gB {f:Nat→Bool}{n i:Nat}(hi:i<n)(h:f i=false):nM f n=false:=by
 unfold nM;rw [List.all_eq_false];exact⟨i,List.mem_range.2 hi,by rw [h];exact Bool.false_ne_true⟩
theorem fO {f:Nat→Bool}{n:Nat}(h:∀ i,i<n→f i=true):nM f n=true:=by
 unfold nM;rw [List.all_eq_true];exact fun i hi=>h i (List.mem_range.1 hi)
theorem eG {f:Nat→Bool}{n i:Nat}(h:nM f n=true)(hi:i<n):f i=true:=List.all_eq_true.1 h i (List.mem_range.2 hi)
def EL (l:List Pt)(i:Nat):Bool:=aM (fA l i)&&(decide (i=0) || eO (fA l (i - 1)) (fA l i))
def bfE (d e:Ed):Bool:=decide (d.a<e.a) || (decide (d.a=e.a)&&decide (d.b<e.b))
def KJ (l:List Pt)(m:List Ed)(i:Nat):Bool :=
 decide (0≤(bO m i).a)&&decide ((bO m i).a<(bO m i).b)&&decide ((bO m i).b<l.length)&&decide (-1≤(bO m i).n)&&decide ((bO m i).n<200)&&(decide (i=0) || bfE (bO m (i - 1)) (bO m i))
def oG (m:List Ed)(s:List Bool):Nat→List Bool
 |0=>s
 |i+1=>((oG m s i).set (bO m i).a.toNat true).set (bO m i).b.toNat true
theorem BZ (m:List Ed)(s:List Bool):∀ i,(oG m s i).length=s.length
 |0=>rfl
 |i+1=>by unfold oG;rw [List.length_set,List.length_set];exact BZ m s i
def zP (l:List Pt)(m:List Ed)(i k:Nat):Bool:=decide (fF (aS l m i) (aS l m k)=0) || decide (fF (aS l m i) (aS l m k)=1)
def szB (l:List Pt)(m:List Ed)(n:Int):Bool:=decide (l.length≤400)&&decide (3≤m.length)&&decide (m.length≤400)&&decide (1≤n)&&decide (n≤100)
def cQ (l:List Pt)(m:List Ed)(n:Int):Bool:=szB l m n&&(nM (EL l) l.length&&(nM (KJ l m) m.length&&(oG m (List.replicate l.length false) m.length).all id))
def eK (l:List Pt)(m:List Ed)(n:Int):Bool:=cQ l m n&&nM (fun i=>nM (fun k=>zP l m i k) i) m.length
theorem PB {l:List Pt}{m:List Ed}(hl:l.length≤1000)(hm:m.length≤1000)(h1:∀ i,i<l.length→EL l i=true)(h2:∀ i,i<m.length→KJ l m i=true):kS l m=true:=by
 simp only [kS,Bool.and_eq_true,decide_eq_true_eq];refine⟨⟨⟨List.all_eq_true.2 fun p hp=>?_,List.all_eq_true.2 fun e he=>?_⟩,hm⟩,hl⟩
 ·obtain⟨i,hi,rfl⟩:=List.getElem_of_mem hp;have:=h1 i hi;rw [EL,nK hi,Bool.and_eq_true] at this;exact lB this.1
 obtain⟨i,hi,rfl⟩:=List.getElem_of_mem he;have:=h2 i hi;rw [KJ,O1 hi] at this;simp only [Bool.and_eq_true,decide_eq_true_eq] at this ⊢;omega
theorem aM0 {l:List Pt}{m:List Ed}{n:Int}(h:szB l m n=false):eK l m n=false:=by simp [eK,cQ,h]
theorem VK {l:List Pt}{m:List Ed}{n:Int}{i:Nat}(hi:i<l.length)(h:EL l i=false):eK l m n=false:=by simp [eK,cQ,gB hi h]
theorem qX {l:List Pt}{m:List Ed}{n:Int}{i:Nat}(hi:i<m.length)(h:KJ l m i=false):eK l m n=false:=by simp [eK,cQ,gB hi h]
theorem aL3 {l:List Pt}{m:List Ed}{n:Int}(h:(oG m (List.replicate l.length false) m.length).all id=false):eK l m n=false:=by simp [eK,cQ,h]
theorem aDJ {l:List Pt}{m:List Ed}{n:Int}{i k:Nat}(hi:i<m.length)(hk:k<i)(h:zP l m i k=false):eK l m n=false:=by
 have:nM (fun k=>zP l m i k) i=false:=gB hk h;have:nM (fun i=>nM (fun k=>zP l m i k) i) m.length=false:=gB hi this;simp [eK,this]
theorem aLx {l:List Pt}{m:List Ed}{n:Int}(h:szB l m n=false):cQ l m n=false:=by simp [cQ,h]
theorem aCG {l:List Pt}{m:List Ed}{n:Int}{i:Nat}(hi:i<l.length)(h:EL l i=false):cQ l m n=false:=by simp [cQ,gB hi h]
theorem CE {l:List Pt}{m:List Ed}{n:Int}{i:Nat}(hi:i<m.length)(h:KJ l m i=false):cQ l m n=false:=by simp [cQ,gB hi h]
theorem pA {l:List Pt}{m:List Ed}{i:Nat}{ed:Ed}(hed:bO m i=ed)(h:¬ (0≤ed.a∧ed.a<ed.b∧ed.b<l.length∧-1≤ed.n∧ed.n<200)):KJ l m i=false:=by
 cases hb:KJ l m i with
 |false=>rfl
 |true =>
  rw [KJ,hed] at hb;simp only [Bool.and_eq_true,decide_eq_true_eq] at hb;exact absurd ⟨hb.1.1.1.1.1,hb.1.1.1.1.2,hb.1.1.1.2,hb.1.1.2,hb.1.2⟩ h
theorem VN {l:List Pt}{m:List Ed}{i:Nat}{ed d:Ed}(hed:bO m i=ed)(hd:bO m (i - 1)=d)(hi:i≠0)(h:bfE d ed=false):KJ l m i=false:=by
 rw [KJ,hed,hd,h,decide_eq_false hi,Bool.or_false,Bool.and_false]
theorem BP {l:List Pt}{m:List Ed}{i:Nat}{ed:Ed}(hed:bO m i=ed)(h:0≤ed.a∧ed.a<ed.b∧ed.b<l.length∧-1≤ed.n∧ed.n<200)(ho:(decide (i=0) || bfE (bO m (i - 1)) ed)=true):KJ l m i=true:=by
 rw [KJ,hed,ho];simp only [Bool.and_eq_true,decide_eq_true_eq,and_true];omega
def plS (l:List Pt)(m:List Ed)(n:Int):List Value→Option (Bool × Value)
 |[]=>some (decide (l.length≤1000)&&decide (m.length≤1000),.bool (eK l m n))
 |_=>none
theorem aFR {l:List Pt}{m:List Ed}{n:Int}{r:List Value}{v:Value}(h:plS l m n r=some (true,v)):r=[]∧l.length≤1000∧m.length≤1000∧v=.bool (eK l m n):=by
 unfold plS at h;split at h
 ·injection h with h;injection h with h1 h2;simp only [Bool.and_eq_true,decide_eq_true_eq] at h1;exact⟨rfl,h1.1,h1.2,h2.symm⟩
 ·cases h
def KI (s:Value)(j:Int):List (Nat × Value):=[(1,.pointer (some ⟨2,0,none⟩)),(3,s),(4,iv j)]
def YI (z:Int):List (Nat × Value):=[(1,.pointer (some ⟨2,0,none⟩)),(3,.slice none 0 0),(6,iv z)]
def xY (N:Nat)(j:Int):List (Nat × Value):=[(1,.pointer (some ⟨2,0,none⟩)),(3,.slice (some ⟨3,0,none⟩) N N),(6,iv j)]
def LD (N:Nat)(j:Int):List (Nat × Value):=[(1,.pointer (some ⟨2,0,none⟩)),(3,.slice (some ⟨3,0,none⟩) N N),(9,iv j)]
def uO (j:Int):List (Nat × Value):=[(1,.pointer (some ⟨2,0,none⟩)),(10,iv j)]
def D0 (j k:Int):List (Nat × Value):=(11,iv k)::uO j
def aDW:Nat × XF:=(93,mX bC bL plS)
theorem aOm:cO Go.Proofs.Tryz.prog aDW.1 aDW.2:=mV bC bL (aH (xl:=[X18,aLi,aHN,X25]) (.cons x18 (.cons aQZ (.cons aNS (.cons x25 .nil))))) fun l m n r v hs=>by
 obtain⟨rfl,hl,hm,rfl⟩:=aFR hs;clear hs;refine⟨rfl,rfl,fun c1 c2=>?_⟩;have hszf:¬ (l.length≤400∧3≤m.length∧m.length≤400∧1≤n∧n≤100)→eK l m n=false:=fun h=>aM0 (by
  cases hz:szB l m n with
  |false=>rfl
  |true=>simp only [szB,Bool.and_eq_true,decide_eq_true_eq] at hz;exact absurd ⟨hz.1.1.1.1,hz.1.1.1.2,hz.1.1.2,hz.1.2,hz.2⟩ h)
 ((conv=>whnf);apply bm<;>intro a1);rotate_left
 ·have a1:400<l.length:=(by simp [aA,aC] at a1;omega);(conv=>whnf);rw [hszf (by omega)]
 have a1:¬ 400<l.length:=(by simp [aA,aC] at a1;omega);((conv=>whnf);apply bm<;>intro a2);rotate_left
 ·have a2:m.length<3:=(by simp [aA,aC] at a2;omega);(conv=>whnf);rw [hszf (by omega)]
 have a2:¬ m.length<3:=(by simp [aA,aC] at a2;omega);((conv=>whnf);apply bm<;>intro a3);rotate_left
 ·have a3:400<m.length:=(by simp [aA,aC] at a3;omega);(conv=>whnf);rw [hszf (by omega)]
 have a3:¬ 400<m.length:=(by simp [aA,aC] at a3;omega);((conv=>whnf);apply bm<;>intro a4);rotate_left
 ·have a4:n<1:=(by simp [aA,aC] at a4;omega);(conv=>whnf);rw [hszf (by omega)]
 have a4:¬ n<1:=(by simp [aA,aC] at a4;omega);((conv=>whnf);apply bm<;>intro a5)
 ·have a5:100<n:=(by simp [aA,aC] at a5;omega);(conv=>whnf);rw [hszf (by omega)]
 have a5:¬ 100<n:=(by simp [aA,aC] at a5;omega);have hsz:szB l m n=true:=by
  simp only [szB,Bool.and_eq_true,decide_eq_true_eq];omega
 clear hszf;(conv=>whnf)
 refine⟨fun q e h nx=>∃ (i:Nat) (j:Int),j=i∧i≤l.length∧q=l.length - i∧(∀ t,t<i→EL l t=true) ∧
  ((i=0∧e=KI (.slice none 0 0) j∧h=cY l m c1 c2 n∧nx=3)∨(0<i∧e=KI (.slice (some ⟨3,0,none⟩) i i) j∧h=bP l m c1 c2 n (List.replicate i false)∧nx=4)),⟨l.length,?_⟩,?_⟩
 ·refine aJ (e0:=KI (.slice none 0 0) 0) (h0:=cY l m c1 c2 n) (n0:=3) ⟨0,0,rfl,Nat.zero_le _,rfl,fun t ht=>absurd ht (Nat.not_lt_zero t),.inl ⟨rfl,rfl,rfl,rfl⟩⟩ ?_ ?_ (by decide)
  ·unfold KI;((repeat' refine iE rfl rfl ?_);exact iN)
  unfold cY cR aL;((repeat'(first|refine iF rfl rfl ?_|refine iC rfl rfl rfl ?_|refine iJ rfl rfl rfl rfl ?_));exact iN)
 rintro q e h nx ⟨i,j,hj,hi,rfl,hpt,⟨hi0,rfl,rfl,rfl⟩|⟨hip,rfl,rfl,rfl⟩⟩
 ·subst hi0;unfold KI cY cR aL;((conv=>whnf);apply bm<;>intro b1)
  ·have hlt:0<l.length:=(by simp [aA,aC] at b1;omega);((conv=>whnf);apply bm<;>intro b2);rotate_left
   ·exfalso;simp [aA,aC] at b2;omega
   (conv=>whnf);refine n8 (jA l (i:=0) hlt ?_) ?_
   ·show _+Int.toNat j*2=_;omega
   ((conv=>whnf);apply bm<;>intro b3);rotate_left
   ·have hr:aM (fA l 0)=false:=(by simpa [aA,aC] using b3);(conv=>whnf);rw [VK hlt (show EL l 0=false by rw [EL,hr];rfl)]
   have hr:aM (fA l 0)=true:=(by simpa [aA,aC] using b3);((conv=>whnf);apply bm<;>intro b4)
   ·exfalso;simp [aA,aC] at b4;omega
   ((conv=>whnf);apply bm<;>intro b5)
   ·(conv=>whnf);refine⟨l.length - 1,by omega,?_⟩
    refine j5 (e0:=KI (.slice (some ⟨3,0,none⟩) 1 1) (j+1)) (h0:=bP l m c1 c2 n [false]) (n0:=4) 3 4 (by decide) (by decide)
     ⟨1,j+1,by omega,by omega,rfl,fun t ht=>by rw [show t=0 by omega,EL,hr];rfl,.inr ⟨Nat.one_pos,rfl,rfl,rfl⟩⟩ ?_ ?_ ?_
    ·unfold KI;((repeat' refine iE rfl rfl ?_);exact iN)
    ·unfold bP cY cR aL;((repeat'(first|refine iF rfl rfl ?_|refine iC rfl rfl rfl ?_|refine iJ rfl rfl rfl rfl ?_));exact iN)
    unfold bP cY aL;((repeat' refine iK rfl ?_);exact iN)
   exfalso;simp [aA,aC,aF] at b5;omega
  have h0:l.length=0:=(by simp [aA,aC] at b1;omega);have hno:∀ ed,bO m 0=ed→KJ l m 0=false:=fun ed hed=>pA hed (by omega);(conv=>whnf);refine⟨fun q e h nx=>∃ z:Int,z=0∧e=YI z∧h=cY l m c1 c2 n∧nx=3,⟨0,?_⟩,?_⟩
  ·refine aJ (e0:=YI 0) (h0:=cY l m c1 c2 n) (n0:=3) ⟨0,rfl,rfl,rfl,rfl⟩ ?_ ?_ (by decide)
   ·unfold YI;((repeat' refine iE rfl rfl ?_);exact iN)
   unfold cY cR aL;((repeat'(first|refine iF rfl rfl ?_|refine iC rfl rfl rfl ?_|refine iJ rfl rfl rfl rfl ?_));exact iN)
  rintro q e h nx ⟨z,hz,rfl,rfl,rfl⟩;unfold YI cY cR aL;((conv=>whnf);apply bm<;>intro d1);rotate_left
  ·exfalso;simp [aA,aC] at d1;omega
  ((conv=>whnf);apply bm<;>intro d2);rotate_left
  ·exfalso;simp [aA,aC] at d2;omega
  (conv=>whnf);refine n8 (C5 m (i:=0) (by omega) ?_) ?_
  ·show _+Int.toNat z*5=_;omega
  generalize hed:bO m 0=ed;have hbad:=hno ed hed;((conv=>whnf);apply bm<;>intro f1)
  ·((conv=>whnf);apply bm<;>intro f2)
   ·((conv=>whnf);apply bm<;>intro f3)
    ·exfalso;simp [aA,aC] at f1 f2 f3;omega
    (conv=>whnf);rw [qX (by omega) hbad]
   (conv=>whnf);rw [qX (by omega) hbad]
  (conv=>whnf);rw [qX (by omega) hbad]
 unfold KI bP cY cR aL;((conv=>whnf);apply bm<;>intro b1)
 ·have hlt:i<l.length:=(by simp [aA,aC] at b1;omega);have hll:(flat gP.fl (List.replicate i false)).length=i:=(by rw [bE,List.length_replicate];exact Nat.mul_one _);((conv=>whnf);apply bm<;>intro b0)
  ·exfalso;have:=Nat.le_of_ble_eq_true b0;omega
  ((conv=>whnf);apply bm<;>intro b00);rotate_left
  ·exact nN (s:=1) (by omega) (by omega) b00
  ((conv=>whnf);apply bm<;>intro b2);rotate_left
  ·exfalso;simp [aA,aC] at b2;omega
  (conv=>whnf);refine n8 (jA l (i:=i) hlt ?_) ?_
  ·show _+Int.toNat j*2=_;omega
  ((conv=>whnf);apply bm<;>intro b3);rotate_left
  ·have hr:aM (fA l i)=false:=(by simpa [aA,aC] using b3);(conv=>whnf);rw [VK hlt (show EL l i=false by rw [EL,hr];rfl)]
  have hr:aM (fA l i)=true:=(by simpa [aA,aC] using b3);((conv=>whnf);apply bm<;>intro b4);rotate_left
  ·exfalso;simp [aA,aC] at b4;omega
  ((conv=>whnf);apply bm<;>intro b5);rotate_left
  ·exfalso;simp [aA,aC,aF] at b5;omega
  ((conv=>whnf);apply bm<;>intro b6);rotate_left
  ·exfalso;simp [aA,aC] at b6;omega
  (conv=>whnf);refine n8 (jA l (i:=i - 1) (by omega) ?_) ?_
  ·show _+Int.toNat (j - 1)*2=_;omega
  ((conv=>whnf);apply bm<;>intro b7);rotate_left
  ·exfalso;simp [aA,aC] at b7;omega
  (conv=>whnf);refine n8 (jA l (i:=i) hlt ?_) ?_
  ·show _+Int.toNat j*2=_;omega
  ((conv=>whnf);apply bm<;>intro b8)
  ·have b8:eO (fA l (i - 1)) (fA l i)=false:=(by simpa [aA,aC] using b8);(conv=>whnf);rw [VK hlt (show EL l i=false by rw [EL,hr,b8,decide_eq_false (show ¬ i=0 by omega)];rfl)]
  have b8:eO (fA l (i - 1)) (fA l i)=true:=(by simpa [aA,aC] using b8);((conv=>whnf);apply bm<;>intro b9);rotate_left
  ·exfalso;simp [aA,aC,aF] at b9;omega
  (conv=>whnf);refine⟨l.length - (i+1),by omega,?_⟩
  refine j5 (e0:=KI (.slice (some ⟨3,0,none⟩) (i+1) (i+1)) (j+1)) (h0:=bP l m c1 c2 n (List.replicate i false++[false])) (n0:=4) 3 5 (by decide) (by decide)
   ⟨i+1,j+1,by omega,by omega,rfl,fun t ht=>?_,.inr ⟨Nat.succ_pos _,rfl,by rw [List.replicate_succ'];rfl,rfl⟩⟩ ?_ ?_ ?_
  ·by_cases hti:t=i
   ·rw [hti,EL,hr,b8];simp
   exact hpt t (by omega)
  ·unfold KI;((repeat' refine iE rfl rfl ?_);exact iN)
  ·unfold bP cY cR aL;((repeat'(first|refine iW rfl rfl (bB (aD gP _) (fU gP (List.replicate i false) false (by rw [List.length_replicate]))) ?_|refine iF rfl rfl ?_|refine iC rfl rfl rfl ?_|refine iJ rfl rfl rfl rfl ?_));exact iN)
  unfold bP cY aL;((repeat' refine iK rfl ?_);exact iN)
 have hge:i=l.length:=(by simp [aA,aC] at b1;omega);subst hge;clear b1 hi hip hj;(conv=>whnf);refine⟨fun q e h nx=>∃ (i:Nat) (j:Int),j=i∧i≤m.length∧q=m.length - i∧(∀ t,t<i→KJ l m t=true)∧e=xY l.length j∧h=bP l m c1 c2 n (oG m (List.replicate l.length false) i)∧nx=4,⟨m.length,?_⟩,?_⟩
 ·refine aJ (e0:=xY l.length 0) (h0:=bP l m c1 c2 n (List.replicate l.length false)) (n0:=4) ⟨0,0,rfl,Nat.zero_le _,rfl,fun t ht=>absurd ht (Nat.not_lt_zero t),rfl,rfl,rfl⟩ ?_ ?_ (by decide)
  ·unfold xY;((repeat' refine iE rfl rfl ?_);exact iN)
  unfold bP cY cR aL;((repeat'(first|refine iF rfl rfl ?_|refine iC rfl rfl rfl ?_|refine iJ rfl rfl rfl rfl ?_));exact iN)
 rintro q e h nx ⟨i,j,hj,hi,rfl,hed0,rfl,rfl,rfl⟩;have rl:(oG m (List.replicate l.length false) i).length=l.length:=(by rw [BZ,List.length_replicate]);have nxt:oG m (List.replicate l.length false) (i+1)=((oG m (List.replicate l.length false) i).set (bO m i).a.toNat true).set (bO m i).b.toNat true:=rfl;generalize hs0:oG m (List.replicate l.length false) i=s at rl nxt;have hsl:(flat gP.fl s).length=l.length:=(by rw [bE,rl];exact Nat.mul_one _);unfold xY bP cY cR aL;((conv=>whnf);apply bm<;>intro d1);rotate_left
 ·have hge:i=m.length:=(by simp [aA,aC] at d1;omega);subst hge;clear d1 hi hj;have hM:kS l m=true:=PB hl hm hpt hed0;(conv=>whnf);refine⟨fun q e h nx=>∃ (t:Nat) (z:Int),z=t∧t≤l.length∧q=l.length - t∧s.all id=(s.drop t).all id∧e=LD l.length z∧h=bP l m c1 c2 n s∧nx=4,⟨l.length,?_⟩,?_⟩
  ·refine aJ (e0:=LD l.length 0) (h0:=bP l m c1 c2 n s) (n0:=4) ⟨0,0,rfl,Nat.zero_le _,rfl,rfl,rfl,rfl,rfl⟩ ?_ ?_ (by decide)
   ·unfold LD;((repeat' refine iE rfl rfl ?_);exact iN)
   unfold bP cY cR aL;((repeat'(first|refine iF rfl rfl ?_|refine iC rfl rfl rfl ?_|refine iJ rfl rfl rfl rfl ?_));exact iN)
  rintro q e h nx ⟨t,z,hz,ht,rfl,hall,rfl,rfl,rfl⟩;unfold LD bP cY cR aL;((conv=>whnf);apply bm<;>intro h3)
  ·have htl:t<l.length:=(by simp [aA,aC] at h3;omega);have hd:s.drop t=cV s t::s.drop (t+1):=(by rw [qZ (by omega)];exact List.drop_eq_getElem_cons (by omega));rw [hd,List.all_cons] at hall;((conv=>whnf);apply bm<;>intro h4)
   ·(conv=>whnf);refine iU (Q4 s (i:=t) (by omega) ?_) ?_
    ·show _+Int.toNat z*1=_;omega
    ((conv=>whnf);apply bm<;>intro h5)
    ·have h5:cV s t=false:=(by simpa [aA,aC] using h5);(conv=>whnf);rw [aL3 (by rw [hs0,hall,h5];rfl)]
    have h5:cV s t=true:=(by simpa [aA,aC] using h5);((conv=>whnf);apply bm<;>intro h6)
    ·(conv=>whnf);refine⟨l.length - (t+1),by omega,?_⟩;refine aJ (e0:=LD l.length (z+1)) (h0:=bP l m c1 c2 n s) (n0:=4) ⟨t+1,z+1,by omega,by omega,rfl,by rw [hall,h5];rfl,rfl,rfl,rfl⟩ ?_ ?_ (by decide)
     ·unfold LD;((repeat' refine iE rfl rfl ?_);exact iN)
     unfold bP cY cR aL;((repeat'(first|refine iF rfl rfl ?_|refine iC rfl rfl rfl ?_|refine iJ rfl rfl rfl rfl ?_));exact iN)
    exfalso;simp [aA,aC,aF] at h6;omega
   exfalso;simp [aA,aC] at h4;omega
  have hgt:t=l.length:=(by simp [aA,aC] at h3;omega);have hus:(oG m (List.replicate l.length false) m.length).all id=true:=by
   rw [hs0,hall,hgt,List.drop_eq_nil_of_le (by omega)];rfl
  have hlst:cQ l m n=true:=by
   rw [cQ,hsz,fO hpt,fO hed0,hus];rfl
  (conv=>whnf);refine⟨fun q e h nx=>∃ (i:Nat) (j:Int),j=i∧i≤m.length∧q=m.length - i∧(∀ t,t<i→∀ k,k<t→zP l m t k=true)∧e=uO j∧h=cY l m c1 c2 n∧nx=4,⟨m.length,?_⟩,?_⟩
  ·refine aJ (e0:=uO 0) (h0:=cY l m c1 c2 n) (n0:=4) ⟨0,0,rfl,Nat.zero_le _,rfl,fun t ht=>absurd ht (Nat.not_lt_zero t),rfl,rfl,rfl⟩ ?_ ?_ (by decide)
   ·unfold uO;((repeat' refine iE rfl rfl ?_);exact iN)
   unfold cY cR aL;((repeat'(first|refine iF rfl rfl ?_|refine iC rfl rfl rfl ?_|refine iJ rfl rfl rfl rfl ?_));exact iN)
  clear h3 hall ht hz hgt;rintro q e h nx ⟨i,j,hj,hi,rfl,hme,rfl,rfl,rfl⟩;unfold uO cY cR aL;((conv=>whnf);apply bm<;>intro h3)
  ·have hlt:i<m.length:=(by simp [aA,aC] at h3;omega);(conv=>whnf);refine⟨fun q e h nx=>∃ (k:Nat) (z:Int),z=k∧k≤i∧q=i - k∧(∀ t,t<k→zP l m i t=true)∧e=D0 j z∧h=cY l m c1 c2 n∧nx=4,⟨i,?_⟩,?_⟩
   ·refine aJ (e0:=D0 j 0) (h0:=cY l m c1 c2 n) (n0:=4) ⟨0,0,rfl,Nat.zero_le _,rfl,fun t ht=>absurd ht (Nat.not_lt_zero t),rfl,rfl,rfl⟩ ?_ ?_ (by decide)
    ·unfold D0 uO;((repeat' refine iE rfl rfl ?_);exact iN)
    unfold cY cR aL;((repeat'(first|refine iF rfl rfl ?_|refine iC rfl rfl rfl ?_|refine iJ rfl rfl rfl rfl ?_));exact iN)
   rintro q e h nx ⟨k,z,hz,hk,rfl,hmk,rfl,rfl,rfl⟩;unfold D0 uO cY cR aL;((conv=>whnf);apply bm<;>intro h4)
   ·have hkl:k<i:=(by simp [aA,aC] at h4;omega);have ej:j.toNat=i:=(by omega);have ez:z.toNat=k:=(by omega);(conv=>whnf);refine⟨l,m,aG bC rfl,aG bL rfl,?_⟩;((conv=>whnf);apply bm<;>intro h5)
    ·(conv=>whnf);refine⟨l,m,aG bC rfl,aG bL rfl,?_⟩;((conv=>whnf);apply bm<;>intro h6)
     ·(conv=>whnf);have em:fF (aS l m j.toNat) (aS l m z.toNat)=fF (aS l m i) (aS l m k):=(by rw [ej,ez]);((conv=>whnf);apply bm<;>intro h7)
      ·have h7:¬ fF (aS l m i) (aS l m k)=0:=(by rw [← em];simpa [aA,aC] using h7);((conv=>whnf);apply bm<;>intro h8)
       ·have h8:¬ fF (aS l m i) (aS l m k)=1:=(by rw [← em];simpa [aA,aC] using h8);(conv=>whnf);rw [aDJ hlt hkl (by rw [zP,decide_eq_false h7,decide_eq_false h8];rfl)]
       have h8:fF (aS l m i) (aS l m k)=1:=(by rw [← em];simpa [aA,aC] using h8);have hyes:zP l m i k=true:=(by rw [zP,decide_eq_true h8,Bool.or_true]);((conv=>whnf);apply bm<;>intro h9)
       ·(conv=>whnf);refine⟨i - (k+1),by omega,?_⟩;refine aJ (e0:=D0 j (z+1)) (h0:=cY l m c1 c2 n) (n0:=4) ⟨k+1,z+1,by omega,by omega,rfl,fun t ht=>?_,rfl,rfl,rfl⟩ ?_ ?_ (by decide)
        ·by_cases htk:t=k
         ·rw [htk];exact hyes
         exact hmk t (by omega)
        ·unfold D0 uO;((repeat' refine iE rfl rfl ?_);exact iN)
        unfold cY cR aL;((repeat'(first|refine iF rfl rfl ?_|refine iC rfl rfl rfl ?_|refine iJ rfl rfl rfl rfl ?_));exact iN)
       exfalso;simp [aA,aC,aF] at h9;omega
      have h7:fF (aS l m i) (aS l m k)=0:=(by rw [← em];simpa [aA,aC] using h7);have hyes:zP l m i k=true:=(by rw [zP,decide_eq_true h7,Bool.true_or]);((conv=>whnf);apply bm<;>intro h9)
      ·(conv=>whnf);refine⟨i - (k+1),by omega,?_⟩;refine aJ (e0:=D0 j (z+1)) (h0:=cY l m c1 c2 n) (n0:=4) ⟨k+1,z+1,by omega,by omega,rfl,fun t ht=>?_,rfl,rfl,rfl⟩ ?_ ?_ (by decide)
       ·by_cases htk:t=k
        ·rw [htk];exact hyes
        exact hmk t (by omega)
       ·unfold D0 uO;((repeat' refine iE rfl rfl ?_);exact iN)
       unfold cY cR aL;((repeat'(first|refine iF rfl rfl ?_|refine iC rfl rfl rfl ?_|refine iJ rfl rfl rfl rfl ?_));exact iN)
      exfalso;simp [aA,aC,aF] at h9;omega
     exfalso;have h6:(kS l m&&(decide (0≤z)&&decide (z<m.length)))=false:=h6;rw [hM,decide_eq_true (show 0≤z by omega),decide_eq_true (show z<m.length by omega)] at h6;cases h6
    exfalso;have h5:(kS l m&&(decide (0≤j)&&decide (j<m.length)))=false:=h5;rw [hM,decide_eq_true (show 0≤j by omega),decide_eq_true (show j<m.length by omega)] at h5;cases h5
   have hge:k=i:=(by simp [aA,aC] at h4;omega);((conv=>whnf);apply bm<;>intro h5)
   ·(conv=>whnf);refine⟨m.length - (i+1),by omega,?_⟩;refine aJ (e0:=uO (j+1)) (h0:=cY l m c1 c2 n) (n0:=4) ⟨i+1,j+1,by omega,by omega,rfl,fun t ht=>?_,rfl,rfl,rfl⟩ ?_ ?_ (by decide)
    ·by_cases hti:t=i
     ·rw [hti];exact fun k' hk'=>hmk k' (by omega)
     exact hme t (by omega)
    ·unfold uO;((repeat' refine iE rfl rfl ?_);exact iN)
    unfold cY cR aL;((repeat'(first|refine iF rfl rfl ?_|refine iC rfl rfl rfl ?_|refine iJ rfl rfl rfl rfl ?_));exact iN)
   exfalso;simp [aA,aC,aF] at h5;omega
  have hge:i=m.length:=(by simp [aA,aC] at h3;omega);(conv=>whnf);rw [eK,hlst,fO (fun i hi=>fO (hme i (by omega)))];rfl
 have hlt:i<m.length:=(by simp [aA,aC] at d1;omega);((conv=>whnf);apply bm<;>intro d2);rotate_left
 ·exfalso;simp [aA,aC] at d2;omega
 (conv=>whnf);refine n8 (C5 m (i:=i) hlt ?_) ?_
 ·show _+Int.toNat j*5=_;omega
 generalize hed:bO m i=ed at nxt;((conv=>whnf);apply bm<;>intro f1);rotate_left
 ·have f1:¬ 0≤ed.a:=(by simp [aA,aC] at f1;omega);(conv=>whnf);rw [qX hlt (pA hed (by omega))]
 have f1:0≤ed.a:=(by simp [aA,aC] at f1;omega);((conv=>whnf);apply bm<;>intro f2);rotate_left
 ·have f2:¬ ed.a<ed.b:=(by simp [aA,aC] at f2;omega);(conv=>whnf);rw [qX hlt (pA hed (by omega))]
 have f2:ed.a<ed.b:=(by simp [aA,aC] at f2;omega);((conv=>whnf);apply bm<;>intro f3);rotate_left
 ·have f3:¬ ed.b<l.length:=(by simp [aA,aC] at f3;omega);(conv=>whnf);rw [qX hlt (pA hed (by omega))]
 have f3:ed.b<l.length:=(by simp [aA,aC] at f3;omega);((conv=>whnf);apply bm<;>intro f4);rotate_left
 ·have f4:¬ -1≤ed.n:=(by simp [aA,aC] at f4;omega);(conv=>whnf);rw [qX hlt (pA hed (by omega))]
 have f4 : -1≤ed.n:=(by simp [aA,aC] at f4;omega);((conv=>whnf);apply bm<;>intro f5)
 ·have f5:200≤ed.n:=(by simp [aA,aC] at f5;omega);(conv=>whnf);rw [qX hlt (pA hed (by omega))]
 have f5:ed.n<200:=(by simp [aA,aC] at f5;omega);((conv=>whnf);apply bm<;>intro f6);rotate_left
 ·have f6:i=0:=(by simp [aA,aC] at f6;omega);have hyes:KJ l m i=true:=BP hed ⟨f1,f2,f3,f4,f5⟩ (by simp [f6]);((conv=>whnf);apply bm<;>intro k1)
  ·((conv=>whnf);apply bm<;>intro k2)
   ·((conv=>whnf);apply bm<;>intro k3)
    ·((conv=>whnf);apply bm<;>intro k4)
     ·((conv=>whnf);apply bm<;>intro k5)
      ·(conv=>whnf);refine⟨m.length - (i+1),by omega,?_⟩;refine aJ (e0:=xY l.length (j+1)) (h0:=bP l m c1 c2 n (oG m (List.replicate l.length false) (i+1))) (n0:=4) ⟨i+1,j+1,by omega,by omega,rfl,fun t ht=>?_,rfl,rfl,rfl⟩ ?_ ?_ (by decide)
       ·by_cases hti:t=i
        ·rw [hti];exact hyes
        exact hed0 t (by omega)
       ·unfold xY;((repeat' refine iE rfl rfl ?_);exact iN)
       unfold bP cY cR aL;have bT:=WL (s:=s) (a:=ed.a.toNat) (b:=ed.b.toNat) (o1:=0+ed.a.toNat*1) (o2:=0+ed.b.toNat*1) (by omega) (by omega) (by omega) (by omega);rw [nxt];((repeat'(first|refine iW rfl rfl (bB (aD gP _) bT) ?_|refine iF rfl rfl ?_|refine iC rfl rfl rfl ?_|refine iJ rfl rfl rfl rfl ?_));exact iN)
      exfalso;simp [aA,aC,aF] at k5;omega
     have hpl:(eJ (flat gP.fl s) (0+ed.a.toNat*1) [.bool true]).length=l.length:=(by rw [dR (by rw [hsl];show 0+ed.a.toNat*1+1≤l.length;omega)];exact hsl);have k4:(0+ed.b.toNat*1+1).ble (eJ (flat gP.fl s) (0+ed.a.toNat*1) [.bool true]).length=false:=k4;rw [hpl] at k4;exact fI k4 (by omega)
    exfalso;simp [aA,aC] at k3;omega
   rw [hsl] at k2;exact fI k2 (by show 0+ed.a.toNat*1+1≤l.length;omega)
  exfalso;simp [aA,aC] at k1;omega
 have f6:0<i:=(by simp [aA,aC] at f6;omega);((conv=>whnf);apply bm<;>intro f7);rotate_left
 ·exfalso;simp [aA,aC,aF] at f7;omega
 ((conv=>whnf);apply bm<;>intro f8);rotate_left
 ·exfalso;simp [aA,aC] at f8;omega
 (conv=>whnf);refine n8 (C5 m (i:=i - 1) (by omega) ?_) ?_
 ·show _+Int.toNat (j - 1)*5=_;omega
 generalize hd0:bO m (i - 1)=dd;((conv=>whnf);apply bm<;>intro f9);rotate_left
 ·have f9:ed.a<dd.a:=(by simp [aA,aC] at f9;omega);(conv=>whnf);rw [qX hlt (VN hed hd0 (by omega) (by unfold bfE;simp;omega))]
 have f9:¬ ed.a<dd.a:=(by simp [aA,aC] at f9;omega);((conv=>whnf);apply bm<;>intro f10);rotate_left
 ·have f10:¬ dd.a=ed.a:=(by simpa [aA,aC] using f10);have hyes:KJ l m i=true:=BP hed ⟨f1,f2,f3,f4,f5⟩ (by rw [hd0];unfold bfE;simp;omega);((conv=>whnf);apply bm<;>intro k1)
  ·((conv=>whnf);apply bm<;>intro k2)
   ·((conv=>whnf);apply bm<;>intro k3)
    ·((conv=>whnf);apply bm<;>intro k4)
     ·((conv=>whnf);apply bm<;>intro k5)
      ·(conv=>whnf);refine⟨m.length - (i+1),by omega,?_⟩;refine aJ (e0:=xY l.length (j+1)) (h0:=bP l m c1 c2 n (oG m (List.replicate l.length false) (i+1))) (n0:=4) ⟨i+1,j+1,by omega,by omega,rfl,fun t ht=>?_,rfl,rfl,rfl⟩ ?_ ?_ (by decide)
       ·by_cases hti:t=i
        ·rw [hti];exact hyes
        exact hed0 t (by omega)
       ·unfold xY;((repeat' refine iE rfl rfl ?_);exact iN)
       unfold bP cY cR aL;have bT:=WL (s:=s) (a:=ed.a.toNat) (b:=ed.b.toNat) (o1:=0+ed.a.toNat*1) (o2:=0+ed.b.toNat*1) (by omega) (by omega) (by omega) (by omega);rw [nxt];((repeat'(first|refine iW rfl rfl (bB (aD gP _) bT) ?_|refine iF rfl rfl ?_|refine iC rfl rfl rfl ?_|refine iJ rfl rfl rfl rfl ?_));exact iN)
      exfalso;simp [aA,aC,aF] at k5;omega
     have hpl:(eJ (flat gP.fl s) (0+ed.a.toNat*1) [.bool true]).length=l.length:=(by rw [dR (by rw [hsl];show 0+ed.a.toNat*1+1≤l.length;omega)];exact hsl);have k4:(0+ed.b.toNat*1+1).ble (eJ (flat gP.fl s) (0+ed.a.toNat*1) [.bool true]).length=false:=k4;rw [hpl] at k4;exact fI k4 (by omega)
    exfalso;simp [aA,aC] at k3;omega
   rw [hsl] at k2;exact fI k2 (by show 0+ed.a.toNat*1+1≤l.length;omega)
  exfalso;simp [aA,aC] at k1;omega
 have f10:dd.a=ed.a:=(by simpa [aA,aC] using f10);((conv=>whnf);apply bm<;>intro f11)
 ·have f11:ed.b≤dd.b:=(by simp [aA,aC] at f11;omega);(conv=>whnf);rw [qX hlt (VN hed hd0 (by omega) (by unfold bfE;simp;omega))]
 have f11:dd.b<ed.b:=(by simp [aA,aC] at f11;omega);have hyes:KJ l m i=true:=BP hed ⟨f1,f2,f3,f4,f5⟩ (by rw [hd0];unfold bfE;simp;omega);((conv=>whnf);apply bm<;>intro k1);rotate_left
 ·exfalso;simp [aA,aC] at k1;omega
 ((conv=>whnf);apply bm<;>intro k2);rotate_left
 ·rw [hsl] at k2;exact fI k2 (by show 0+ed.a.toNat*1+1≤l.length;omega)
 ((conv=>whnf);apply bm<;>intro k3);rotate_left
 ·exfalso;simp [aA,aC] at k3;omega
 ((conv=>whnf);apply bm<;>intro k4);rotate_left
 ·have hpl:(eJ (flat gP.fl s) (0+ed.a.toNat*1) [.bool true]).length=l.length:=(by rw [dR (by rw [hsl];show 0+ed.a.toNat*1+1≤l.length;omega)];exact hsl);have k4:(0+ed.b.toNat*1+1).ble (eJ (flat gP.fl s) (0+ed.a.toNat*1) [.bool true]).length=false:=k4;rw [hpl] at k4;exact fI k4 (by omega)
 ((conv=>whnf);apply bm<;>intro k5)
 ·(conv=>whnf);refine⟨m.length - (i+1),by omega,?_⟩;refine aJ (e0:=xY l.length (j+1)) (h0:=bP l m c1 c2 n (oG m (List.replicate l.length false) (i+1))) (n0:=4) ⟨i+1,j+1,by omega,by omega,rfl,fun t ht=>?_,rfl,rfl,rfl⟩ ?_ ?_ (by decide)
  ·by_cases hti:t=i
   ·rw [hti];exact hyes
   exact hed0 t (by omega)
  ·unfold xY;((repeat' refine iE rfl rfl ?_);exact iN)
  unfold bP cY cR aL;have bT:=WL (s:=s) (a:=ed.a.toNat) (b:=ed.b.toNat) (o1:=0+ed.a.toNat*1) (o2:=0+ed.b.toNat*1) (by omega) (by omega) (by omega) (by omega);rw [nxt];((repeat'(first|refine iW rfl rfl (bB (aD gP _) bT) ?_|refine iF rfl rfl ?_|refine iC rfl rfl rfl ?_|refine iJ rfl rfl rfl rfl ?_));exact iN)
 exfalso;simp [aA,aC,aF] at k5;omega
end Go.Aw
end
