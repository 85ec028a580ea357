/-
  Parts of the proof, put together. No condition.
-/
import Derived.Test.YtjahkcbdecgbhaaGreatQAv
set_option linter.unusedSimpArgs false
set_option linter.unusedVariables false
noncomputable section
namespace Go.Aw
set_option maxRecDepth 100000
theorem gV {α:Type}(E:El α)(o:List α)(x:α){n:Nat}(hn:n=o.length):((flat E.fl o).drop 0).take (n*E.sz)++E.fl x=flat E.fl (o++[x]):=by
 subst hn;rw [List.drop_zero,← bD E o,List.take_length,rU];simp [flat]
theorem sJ {i N s:Nat}{p:Prop}(hN:N=i*s)(hi:i+1≤1000000000)
  (h:aA.A.andB (aA.A.andB ((i+1).ble 1000000000) ((0+i*s).ble N)) (aA.A.andB ((0+i*s).beq N) (Nat.beq s s))=false):p:=by
 exfalso;have h1:(i+1).ble 1000000000=true:=Nat.ble_eq_true_of_le hi;have h2:(0+i*s).ble N=true:=Nat.ble_eq_true_of_le (by omega);have h3:(0+i*s).beq N=true:=(by rw [hN,Nat.zero_add];exact Nat.beq_refl _);rw [h1,h2,h3,Nat.beq_refl] at h;cases h
def evS (l:List Pt)(m:List Ed)(n:Int):List Value→YS Bool
 |[]=>some (decide (1≤m.length)&&decide (m.length≤1000),List.replicate (2*m.length) true,[])
 |_=>none
theorem aD7 {l:List Pt}{m:List Ed}{n:Int}{r:List Value}{out:List Bool}{rest:List Value}(h:evS l m n r=some (true,out,rest)):r=[]∧1≤m.length∧m.length≤1000∧out=List.replicate (2*m.length) true∧rest=[]:=by
 unfold evS at h;split at h
 ·injection h with h;injection h with h1 h2;injection h2 with h2 h3;simp only [Bool.and_eq_true,decide_eq_true_eq] at h1;exact⟨rfl,h1.1,h1.2,h2.symm,h3.symm⟩
 ·cases h
def e80 (v:Value)(j:Int):List (Nat × Value):=[(1,.pointer (some ⟨2,0,none⟩)),(3,v),(4,iv j)]
def h80 (l:List Pt)(m:List Ed)(c1 c2:Nat)(n:Int):Heap:=(2,aX l.length m.length c1 c2 n)::aB aR aU l m
def LV (l:List Pt)(m:List Ed)(c1 c2:Nat)(n:Int)(o:List Bool):Heap:=(3,.cells true false 1 (flat fO.fl o))::(2,aX l.length m.length c1 c2 n)::aB aR aU l m
def ZP:Nat × XF:=(80,mYX aR aU fO evS)
theorem aGE:cE Go.Proofs.Tryz.prog ZP.1 ZP.2:=QF aR aU fO (aK (xl:=[]) .nil) fun l m n r out rest hs=>by
 obtain⟨rfl,h1m,hm,rfl,rfl⟩:=aD7 hs;clear hs;refine⟨rfl,rfl,fun c1 c2=>?_⟩;(conv=>whnf)
 refine⟨fun q e h nx=>∃ (i:Nat) (j:Int),j=i∧i≤2*m.length∧q=2*m.length - i ∧
  ((i=0∧e=e80 (.slice none 0 0) j∧h=h80 l m c1 c2 n∧nx=3)∨(0<i∧e=e80 (.slice (some ⟨3,0,none⟩) i i) j∧h=LV l m c1 c2 n (List.replicate i true)∧nx=4)),⟨2*m.length,?_⟩,?_⟩
 ·refine aL (e0:=e80 (.slice none 0 0) 0) (h0:=h80 l m c1 c2 n) (n0:=3) ⟨0,0,rfl,Nat.zero_le _,rfl,.inl ⟨rfl,rfl,rfl,rfl⟩⟩ ?_ ?_ (by decide)
  ·unfold e80;((repeat' refine iE rfl rfl ?_);exact iN)
  ·unfold h80 aX aB;((repeat'(first|refine iF rfl rfl ?_|refine iC rfl rfl rfl ?_|refine iJ rfl rfl rfl rfl ?_));exact iN)
 ·rintro q e h nx ⟨i,j,hj,hi,rfl,⟨hi0,rfl,rfl,rfl⟩|⟨hip,rfl,rfl,rfl⟩⟩
  ·subst hi0;unfold e80 h80 aX aB;((conv=>whnf);refine bm (fun h1=>?_) (fun h1=>?_))
   ·((conv=>whnf);refine bm (fun h2=>?_) (fun h2=>?_))
    ·((conv=>whnf);refine bm (fun h3=>?_) (fun h3=>?_))
     ·(conv=>whnf);refine⟨2*m.length - 1,by omega,?_⟩;refine iU (e0:=e80 (.slice (some ⟨3,0,none⟩) 1 1) (j+1)) (h0:=LV l m c1 c2 n [true]) (n0:=4) 3 4 (by decide) (by decide) ⟨1,j+1,by omega,by omega,rfl,.inr ⟨Nat.one_pos,rfl,rfl,rfl⟩⟩ ?_ ?_ ?_
      ·unfold e80;((repeat' refine iE rfl rfl ?_);exact iN)
      ·unfold LV aX aB;((repeat'(first|refine iF rfl rfl ?_|refine iC rfl rfl rfl ?_|refine iJ rfl rfl rfl rfl ?_));exact iN)
      ·unfold LV;((repeat' refine iK rfl ?_);exact iN)
     ·exfalso;simp [aA,aC,aH] at h3;omega
    ·exfalso;simp [aA,aC] at h2;omega
   ·exfalso;simp [aA,aC,aH] at h1;omega
  ·unfold e80 LV aX aB;((conv=>whnf);refine bm (fun h1=>?_) (fun h1=>?_))
   ·((conv=>whnf);refine bm (fun h2=>?_) (fun h2=>?_))
    ·have hlt:i<2*m.length:=(by simp [aA,aC] at h2;omega);have hll:(flat fO.fl (List.replicate i true)).length=i:=(by rw [bD,List.length_replicate];show i*1=i;omega);((conv=>whnf);refine bm (fun h3=>?_) (fun h3=>?_))
     ·exfalso;have:=Nat.le_of_ble_eq_true h3;omega
     ·((conv=>whnf);refine bm (fun h4=>?_) (fun h4=>?_))
      ·((conv=>whnf);refine bm (fun h5=>?_) (fun h5=>?_))
       ·(conv=>whnf);refine⟨2*m.length - (i+1),by omega,?_⟩
        refine iU (e0:=e80 (.slice (some ⟨3,0,none⟩) (i+1) (i+1)) (j+1)) (h0:=LV l m c1 c2 n (List.replicate i true++[true])) (n0:=4) 3 5 (by decide) (by decide)
         ⟨i+1,j+1,by omega,by omega,rfl,.inr ⟨Nat.succ_pos _,rfl,by rw [List.replicate_succ'];rfl,rfl⟩⟩ ?_ ?_ ?_
        ·unfold e80;((repeat' refine iE rfl rfl ?_);exact iN)
        ·unfold LV aX aB;((repeat'(first|refine iW rfl rfl (bG (aI fO _) (gV fO (List.replicate i true) true (by rw [List.length_replicate]))) ?_|refine iF rfl rfl ?_|refine iC rfl rfl rfl ?_|refine iJ rfl rfl rfl rfl ?_));exact iN)
        ·unfold LV;((repeat' refine iK rfl ?_);exact iN)
       ·exfalso;simp [aA,aC,aH] at h5;omega
      ·exfalso;exact sJ (s:=1) (by omega) (by omega) h4
    ·have hge:i=2*m.length:=(by simp [aA,aC] at h2;omega);subst hge;(conv=>whnf);refine⟨3,?_,rfl⟩;show _=Value.slice _ _ _;rw [List.length_replicate]
   ·exfalso;simp [aA,aC,aH] at h1;omega
def oM (f:Int→Int)(d:Int):Nat→Int
 |0=>f d
 |i+1=>f (oM f d i)
def lY (f:Int→Int)(d:Int)(N i:Nat):Bool:=(!decide (oM f d i=d))&&(decide (0≤oM f d i)&&decide (i≤N))
def tF (f:Int→Int)(d:Int)(N:Nat):Nat→Nat→Nat
 |0,i=>i
 |k+1,i=>if lY f d N i=true then tF f d N k (i+1) else i
def B5 (f:Int→Int)(d:Int)(i:Nat):List Int:=d::(List.range i).map (oM f d)
theorem mS (f:Int→Int)(d:Int)(i:Nat):(B5 f d i).length=i+1:=by simp [B5]
theorem aF1 (f:Int→Int)(d:Int)(i:Nat):B5 f d (i+1)=B5 f d i++[oM f d i]:=by
 unfold B5;rw [List.range_succ,List.map_append];rfl
def FD (l:List Pt)(m:List Ed)(k:List Bool)(d:Int):Int:=fF l m k d (2*m.length)
def jI (l:List Pt)(m:List Ed)(k:List Bool)(d:Int):List Int:=B5 (FD l m k) d (tF (FD l m k) d (2*m.length) (2*m.length+2) 0)
def rnS (l:List Pt)(m:List Ed)(n:Int)(k:List Bool):List Value→YS Int
 |[.int .i64 d]=>some (mF l m&&kM m d&&decide (k.length=2*m.length),jI l m k d,[])
 |_=>none
theorem aCu {l:List Pt}{m:List Ed}{n:Int}{k:List Bool}{r:List Value}{out:List Int}{rest:List Value}(h:rnS l m n k r=some (true,out,rest)):∃ d,r=[iv d]∧mF l m=true∧kM m d=true∧k.length=2*m.length∧out=jI l m k d∧rest=[]:=by
 unfold rnS at h;split at h
 ·rename_i d;injection h with h;injection h with h1 h2;injection h2 with h2 h3;simp only [Bool.and_eq_true,decide_eq_true_eq] at h1;exact⟨d,rfl,h1.1.1,h1.1.2,h1.2,h2.symm,h3.symm⟩
 ·cases h
def WM (k:List Bool)(c3:Nat)(d x j:Int)(z:Nat):List (Nat × Value):=[(1,iv d),(2,.slice (some ⟨2,0,none⟩) k.length c3),(3,.pointer (some ⟨3,0,none⟩)),(7,.slice (some ⟨4,0,none⟩) z z),(8,iv x),(9,iv j)]
def QS (l:List Pt)(m:List Ed)(k:List Bool)(c1 c2:Nat)(n:Int)(o:List Int):Heap:=(4,.cells true false 1 (flat aP.fl o))::(3,aX l.length m.length c1 c2 n)::jL aR aU fO l m k
theorem EY {f:Int→Int}{d:Int}{N k i:Nat}(h:lY f d N i=false):tF f d N k i=i:=by
 cases k with
 |zero=>rfl
 |succ k=>simp [tF,h]
def SH:Nat × XF:=(144,aHX aR aU fO aP rnS)
theorem aDR:cE Go.Proofs.Tryz.prog SH.1 SH.2:=aCT aR aU fO aP (aK (xl:=[X79]) (.cons x79 .nil)) fun l m n k r out rest hs=>by
 obtain⟨d,rfl,hM,hd,hk,rfl,rfl⟩:=aCu hs;clear hs;refine⟨rfl,rfl,fun c1 c2 c3=>?_⟩;have hm:m.length≤1000:=(by simp only [mF,Bool.and_eq_true,decide_eq_true_eq] at hM;exact hM.1.2);unfold jI;obtain⟨f,hf⟩:∃ f,f=FD l m k:=⟨_,rfl⟩;have hfl:∀ x,-1≤f x∧f x<2*m.length:=fun x=>(by rw [hf];have:=xS l m k x (2*m.length);unfold FD;omega);have hfx:∀ x,fF l m k x (2*m.length)=f x:=fun x=>(by rw [hf];rfl);rw [← hf];(conv=>whnf);refine⟨_,_,_,[iv d],_,l,m,k,rfl,aG aR rfl,aG aU rfl,aG fO rfl,?_⟩;((conv=>whnf);refine bm (fun h1=>?_) (fun h1=>?_))
 ·(conv=>whnf);refine⟨fun q e h nx=>∃ (i:Nat) (j:Int),j=i∧i≤2*m.length+1∧q=2*m.length+1 - i∧tF f d (2*m.length) (2*m.length+2) 0=tF f d (2*m.length) (2*m.length+2 - i) i∧e=WM k c3 d (oM f d i) j (i+1)∧h=QS l m k c1 c2 n (B5 f d i)∧nx=5,⟨2*m.length+1,?_⟩,?_⟩
  ·refine aL (e0:=WM k c3 d (fF l m k d (2*m.length)) 0 1) (h0:=QS l m k c1 c2 n [d]) (n0:=5) ⟨0,0,rfl,Nat.zero_le _,rfl,rfl,by rw [hfx];rfl,rfl,rfl⟩ ?_ ?_ (by decide)
   ·unfold WM;((repeat' refine iE rfl rfl ?_);exact iN)
   ·unfold QS aX jL;((repeat'(first|refine iF rfl rfl ?_|refine iC rfl rfl rfl ?_|refine iJ rfl rfl rfl rfl ?_));exact iN)
  ·rintro q e h nx ⟨i,j,hj,hi,rfl,hb,rfl,rfl,rfl⟩;have hx : -1≤oM f d i∧oM f d i<2*m.length:=(by cases i <;> exact hfl _);unfold WM QS aX jL;have hll:(flat aP.fl (B5 f d i)).length=i+1:=(by rw [bD,mS];exact Nat.mul_one _);((conv=>whnf);refine bm (fun h2=>?_) (fun h2=>?_))
   ·have h2:oM f d i≠d:=(by simpa [aA,aC] using h2);((conv=>whnf);refine bm (fun h3=>?_) (fun h3=>?_))
    ·have h3:0≤oM f d i:=(by simpa [aA,aC] using h3);((conv=>whnf);refine bm (fun h4=>?_) (fun h4=>?_))
     ·((conv=>whnf);refine bm (fun h5=>?_) (fun h5=>?_))
      ·have h5:i≤2*m.length:=(by simp [aA,aC] at h5;omega);have hgo:lY f d (2*m.length) i=true:=(by simp [lY,h2,h3,h5]);((conv=>whnf);refine bm (fun h6=>?_) (fun h6=>?_))
       ·exfalso;have:=Nat.le_of_ble_eq_true h6;omega
       ·((conv=>whnf);refine bm (fun h7=>?_) (fun h7=>?_))
        ·(conv=>whnf);have hdx:kM m (oM f d i)=true:=(by simp only [kM,Bool.and_eq_true,decide_eq_true_eq];omega);refine⟨_,_,_,[iv (oM f d i)],_,l,m,k,rfl,aG aR rfl,aG aU rfl,aG fO rfl,?_⟩;((conv=>whnf);refine bm (fun h8=>?_) (fun h8=>?_))
         ·((conv=>whnf);refine bm (fun h9=>?_) (fun h9=>?_))
          ·(conv=>whnf);refine⟨2*m.length+1 - (i+1),by omega,?_⟩
           refine iU (e0:=WM k c3 d (fF l m k (oM f d i) (2*m.length)) (j+1) (i+1+1)) (h0:=QS l m k c1 c2 n (B5 f d i++[oM f d i])) (n0:=5) 4 6 (by decide) (by decide)
            ⟨i+1,j+1,by omega,by omega,rfl,?_,by rw [hfx];rfl,by rw [aF1];rfl,rfl⟩ ?_ ?_ ?_
           ·rw [hb,show 2*m.length+2 - i=(2*m.length+2 - (i+1))+1 by omega]
            conv=>lhs;unfold tF
            rw [if_pos hgo]
           ·unfold WM;((repeat' refine iE rfl rfl ?_);exact iN)
           ·unfold QS aX jL;((repeat'(first|refine iW rfl rfl (bG (aI aP _) (gV aP (B5 f d i) (oM f d i) (mS f d i).symm)) ?_|refine iF rfl rfl ?_|refine iC rfl rfl rfl ?_|refine iJ rfl rfl rfl rfl ?_));exact iN)
           ·unfold QS;((repeat' refine iK rfl ?_);exact iN)
          ·exfalso;simp [aA,aC,aH] at h9;omega
         ·exfalso;have h8:(mF l m&&kM m (oM f d i)&&decide (k.length=2*m.length))=false:=h8;rw [hM,hdx,decide_eq_true hk] at h8;cases h8
        ·exact sJ (i:=i+1) (s:=1) (by omega) (by omega) h7
      ·have h5:¬ i≤2*m.length:=(by simp [aA,aC] at h5;omega);(conv=>whnf);rw [hb,EY (show lY f d (2*m.length) i=false from ?_)]
       ·refine⟨4,?_,rfl⟩;show _=Value.slice _ _ _;rw [mS]
       ·simp [lY,h5]
     ·exfalso;simp [aA,aC,aH] at h4;omega
    ·have h3:¬ 0≤oM f d i:=(by simpa [aA,aC] using h3);(conv=>whnf);rw [hb,EY (show lY f d (2*m.length) i=false from ?_)]
     ·refine⟨4,?_,rfl⟩;show _=Value.slice _ _ _;rw [mS]
     ·simp [lY,h3]
   ·have h2:oM f d i=d:=(by simpa [aA,aC] using h2);(conv=>whnf);rw [hb,EY (show lY f d (2*m.length) i=false from ?_)]
    ·refine⟨4,?_,rfl⟩;show _=Value.slice _ _ _;rw [mS]
    ·simp [lY,h2]
 ·exfalso;have h1:(mF l m&&kM m d&&decide (k.length=2*m.length))=false:=h1;rw [hM,hd,decide_eq_true hk] at h1;cases h1
theorem UG {f:Int→Int}{d:Int}{N:Nat}:∀ {k i t:Nat},i≤t→t<tF f d N k i→lY f d N t=true
 |0,i,t,h1,h2=>by simp only [tF] at h2;omega
 |k+1,i,t,h1,h2=>by
  simp only [tF] at h2;split at h2
  ·rename_i hg;by_cases ht:t=i
   ·rw [ht];exact hg
   ·exact UG (k:=k) (i:=i+1) (by omega) h2
  ·omega
theorem L7 {f:Int→Int}{d:Int}{N:Nat}:∀ {k i:Nat},tF f d N k i≤i+k
 |0,i=>by simp only [tF];omega
 |k+1,i=>by
  simp only [tF];split
  ·have:=L7 (f:=f) (d:=d) (N:=N) (k:=k) (i:=i+1);omega
  ·omega
theorem O8 (l:List Pt)(m:List Ed)(k:List Bool)(d:Int):(jI l m k d).length≤2*m.length+3:=by
 unfold jI;rw [mS];have:=L7 (f:=FD l m k) (d:=d) (N:=2*m.length) (k:=2*m.length+2) (i:=0);omega
theorem aAX (l:List Pt)(m:List Ed)(k:List Bool)(d:Int) : -1≤FD l m k d∧FD l m k d<2*m.length:=by
 have:=xS l m k d (2*m.length);unfold FD;omega
theorem VT {l:List Pt}{m:List Ed}{k:List Bool}{d:Int}(hm:m.length≤1000)(hd:kM m d=true):J5 m (jI l m k d)=true:=by
 unfold J5 jI B5;rw [List.all_cons,hd,Bool.true_and,List.all_eq_true];intro x hx;obtain⟨t,ht,rfl⟩:=List.mem_map.1 hx;have hg:=UG (Nat.zero_le t) (List.mem_range.1 ht);simp only [lY,Bool.and_eq_true,decide_eq_true_eq] at hg;have:oM (FD l m k) d t<2*m.length:=(by cases t <;> exact (aAX l m k _).2);simp only [kM,Bool.and_eq_true,decide_eq_true_eq];omega
theorem PV (l:List Pt)(m:List Ed)(k:List Bool)(d:Int):0<(jI l m k d).length:=by
 unfold jI;rw [mS];omega
def dM (of w:List Int)(face:Int):Nat→List Int
 |0=>of
 |i+1=>(dM of w face i).set (aN w i).toNat face
theorem eV (of w:List Int)(face:Int):∀ i,(dM of w face i).length=of.length
 |0=>rfl
 |i+1=>by unfold dM;rw [List.length_set];exact eV of w face i
structure Fst where
 of:List Int
 faces:Int
 outside:Int
 ok:Bool
def oQ (l:List Pt)(m:List Ed)(s:Fst)(d:Nat):Fst :=
 if 0≤aN s.of d then s else
  let w:=jI l m (List.replicate (2*m.length) true) d;let a:=lK l m w w.length;let fc:=if 0<a then s.faces+1 else 0
  ⟨dM s.of w fc w.length,if 0<a then s.faces+1 else s.faces,if a<0 then s.outside+1 else s.outside,if a=0 then false else s.ok⟩
def jM (l:List Pt)(m:List Ed):Nat→Fst
 |0=>⟨List.replicate (2*m.length) (-1),0,0,true⟩
 |d+1=>oQ l m (jM l m d) d
def dZ (l:List Pt)(m:List Ed):Fst:=jM l m (2*m.length)
def KV (s:Fst):Bool:=s.ok&&(decide (s.outside=1)&&decide (1≤s.faces))
theorem uF (l:List Pt)(m:List Ed):∀ d,(jM l m d).of.length=2*m.length
 |0=>by simp [jM]
 |d+1=>by
  unfold jM oQ;split
  ·exact uF l m d
  ·simp only [eV];exact uF l m d
theorem IP (l:List Pt)(m:List Ed):∀ d:Nat,0≤(jM l m d).faces∧(jM l m d).faces≤d∧0≤(jM l m d).outside∧(jM l m d).outside≤d
 |0=>by simp [jM]
 |d+1=>by
  have:=IP l m d;unfold jM oQ;split
  ·omega
  ·simp only;split <;> split <;> omega
end Go.Aw
end
