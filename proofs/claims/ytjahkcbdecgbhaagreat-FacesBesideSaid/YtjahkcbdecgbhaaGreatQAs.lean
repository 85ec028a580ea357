/-
  Parts of a proof. No condition.
-/
import Derived.Test.YtjahkcbdecgbhaaGreatQAq
import Derived.Test.YtjahkcbdecgbhaaGreatQAr
set_option linter.unusedSimpArgs false
set_option linter.unusedVariables false
noncomputable section
namespace Go.Aw
set_option maxRecDepth 100000
def eH:El Bool:=⟨fun b=>[.bool b],1,fun _=>rfl,fun _=>rfl,by decide⟩
def cG (k:List Bool)(i:Nat):Bool:=k.getD i false
theorem qX {k:List Bool}{i:Nat}(h:i<k.length):cG k i=k[i]:=by
 unfold cG;rw [List.getD_eq_getElem?_getD,List.getElem?_eq_getElem h];rfl
theorem H8 (k:List Bool){i o:Nat}(hi:i<k.length)(ho:o=i*1):nth (flat eH.fl k) o=some (.bool (cG k i)):=by
 rw [qX hi];exact l9 eH k hi (k:=0) rfl Nat.one_pos (by rw [ho];rfl)
def dY (l:List Pt)(i:Int):Pt:=iB l i.toNat
def oG (l:List Pt)(m:List Ed):Bool:=l.all wide&&m.all (fun e=>decide (0≤e.a)&&decide (e.a<l.length)&&decide (0≤e.b)&&decide (e.b<l.length))&&decide (m.length≤1000)&&decide (l.length≤1000)
theorem pJ {l:List Pt}{m:List Ed}(h:oG l m=true){i:Nat}(hi:i<m.length):0≤(cO m i).a∧(cO m i).a<l.length∧0≤(cO m i).b∧(cO m i).b<l.length:=by
 simp only [oG,Bool.and_eq_true] at h;have:=List.all_eq_true.1 h.1.1.2 _ (List.getElem_mem hi);rw [LN hi];simp only [Bool.and_eq_true,decide_eq_true_eq] at this;omega
theorem sR {l:List Pt}{m:List Ed}(h:oG l m=true){d:Int}(hd:mE m d=true):0≤bS m d∧bS m d<l.length:=by
 simp only [mE,Bool.and_eq_true,decide_eq_true_eq] at hd;have:=pJ h (i:=(d / 2).toNat) (by omega);unfold bS;split <;> omega
theorem EL {l:List Pt}{m:List Ed}(h:oG l m=true){d:Int}(hd:mE m d=true):0≤iH m d∧iH m d<l.length:=sR h (aCD hd)
theorem qI {l:List Pt}{m:List Ed}(h:oG l m=true){i:Int}(h0:0≤i)(h1:i<l.length):wide (dY l i)=true:=by
 simp only [oG,Bool.and_eq_true] at h;unfold dY;rw [mO (by omega)];exact List.all_eq_true.1 h.1.1.1 _ (List.getElem_mem _)
def gJ (l:List Pt)(m:List Ed)(k:List Bool)(d:Int):Nat→Int
 |0=>-1
 |j+1=>if (cG k j=true∧bS m j=iH m d)∧(gJ l m k d j<0∨pX (dY l (iH m d)) (dY l (bS m d)) (dY l (iH m j)) (dY l (iH m (gJ l m k d j)))=true) then j else gJ l m k d j
theorem zT (l:List Pt)(m:List Ed)(k:List Bool)(d:Int):∀ j:Nat,-1≤gJ l m k d j∧gJ l m k d j<j
 |0=>by unfold gJ;omega
 |j+1=>by
  have:=zT l m k d j;unfold gJ;split <;> omega
theorem aDn {l:List Pt}{m:List Ed}{k:List Bool}{d:Int}{j:Nat}(h:¬ ((cG k j=true∧bS m j=iH m d)∧(gJ l m k d j<0∨pX (dY l (iH m d)) (dY l (bS m d)) (dY l (iH m j)) (dY l (iH m (gJ l m k d j)))=true))):gJ l m k d (j+1)=gJ l m k d j:=by
 conv=>lhs;unfold gJ
 exact if_neg h
theorem aIo {l:List Pt}{m:List Ed}{k:List Bool}{d:Int}{j:Nat}(h:((cG k j=true∧bS m j=iH m d)∧(gJ l m k d j<0∨pX (dY l (iH m d)) (dY l (bS m d)) (dY l (iH m j)) (dY l (iH m (gJ l m k d j)))=true))):gJ l m k d (j+1)=j:=by
 conv=>lhs;unfold gJ
 exact if_pos h
def aHN (l:List Pt)(m:List Ed)(n:Int)(k:List Bool):List Value→Option (Bool × Value)
 |[.int .i64 d]=>some (oG l m&&mE m d&&decide (k.length=2*m.length),iv (gJ l m k d (2*m.length)))
 |_=>none
theorem aAM {l:List Pt}{m:List Ed}{n:Int}{k:List Bool}{r:List Value}{v:Value}(h:aHN l m n k r=some (true,v)):∃ d,r=[iv d]∧oG l m=true∧mE m d=true∧k.length=2*m.length∧v=iv (gJ l m k d (2*m.length)):=by
 unfold aHN at h;split at h
 ·rename_i d;injection h with h;injection h with h1 h2;simp only [Bool.and_eq_true,decide_eq_true_eq] at h1;exact⟨d,rfl,h1.1.1,h1.1.2,h1.2,h2.symm⟩
 ·cases h
def aY (a b:Nat)(c1 c2:Nat)(n:Int):aX:=.cells true false 1 [.slice (some ⟨0,0,none⟩) a c1,.slice (some ⟨1,0,none⟩) b c2,iv n]
def XE (k:List Bool)(c3:Nat)(d at_ best j:Int):List (Nat × Value):=[(2,.slice (some ⟨2,0,none⟩) k.length c3),(3,.pointer (some ⟨3,0,none⟩)),(7,.pointer (some ⟨4,0,none⟩)),(8,iv at_),(9,.pointer (some ⟨5,0,none⟩)),(10,iv best),(11,iv j)]
def UZ (l:List Pt)(m:List Ed)(k:List Bool)(c1 c2:Nat)(n:Int)(u v:Pt):Heap:=(5,.cells true false 1 [iv v.1,iv v.2])::(4,.cells true false 1 [iv u.1,iv u.2])::(3,aY l.length m.length c1 c2 n)::dE aP aS eH l m k
def X79:Nat × XF:=(79,mLX aP aS eH aHN)
theorem x79:cH Go.Proofs.Tryz.prog X79.1 X79.2:=SB aP aS eH (aL (xl:=[X87,aEH,aIq]) (.cons x87 (.cons aKE (.cons aMQ .nil)))) fun l m n k r v hs=>by
 obtain⟨d,rfl,hM,hd,hk,rfl⟩:=aAM hs;refine⟨rfl,rfl,fun c1 c2 c3=>?_⟩;have hf:=sR hM hd;have ht:=EL hM hd;have hm:m.length≤1000:=(by simp only [oG,Bool.and_eq_true,decide_eq_true_eq] at hM;exact hM.1.2);(conv=>whnf);refine⟨l,m,aC aP rfl,aC aS rfl,?_⟩;((conv=>whnf);refine bm (fun h1=>?_) (fun h1=>?_))
 ·((conv=>whnf);refine bm (fun h2=>?_) (fun h2=>?_))
  ·(conv=>whnf);refine nV (jO l (i:=(bS m d).toNat) (by omega) ?_) ?_
   ·show _+Int.toNat (bS m d)*2=_;omega
   (conv=>whnf);refine⟨l,m,aC aP rfl,aC aS rfl,?_⟩;((conv=>whnf);refine bm (fun h3=>?_) (fun h3=>?_))
   ·((conv=>whnf);refine bm (fun h4=>?_) (fun h4=>?_))
    ·(conv=>whnf);refine nV (jO l (i:=(iH m d).toNat) (by omega) ?_) ?_
     ·show _+Int.toNat (iH m d)*2=_;omega
     (conv=>whnf);refine⟨fun q e h nx=>∃ (i:Nat) (j:Int),j=i∧i≤2*m.length∧q=2*m.length - i∧e=XE k c3 d (iH m d) (gJ l m k d i) j∧h=UZ l m k c1 c2 n (dY l (bS m d)) (dY l (iH m d))∧nx=6,⟨2*m.length,?_⟩,?_⟩
     ·refine aM (e0:=XE k c3 d (iH m d) (-1) 0) (h0:=UZ l m k c1 c2 n (dY l (bS m d)) (dY l (iH m d))) (n0:=6) ⟨0,0,rfl,Nat.zero_le _,rfl,rfl,rfl,rfl⟩ ?_ ?_ (by decide)
      ·unfold XE;((repeat' refine iE rfl rfl ?_);exact iN)
      ·unfold UZ aY dE;((repeat'(first|refine iF rfl rfl ?_|refine iC rfl rfl rfl ?_|refine iJ rfl rfl rfl rfl ?_));exact iN)
     ·rintro q e h nx ⟨i,j,hj,hi,rfl,rfl,rfl,rfl⟩;unfold XE UZ aY dE;have lo:=zT l m k d i;((conv=>whnf);refine bm (fun h5=>?_) (fun h5=>?_))
      ·((conv=>whnf);refine bm (fun h6=>?_) (fun h6=>?_))
       ·have hlt:i<2*m.length:=(by simp [aA,aB] at h6;omega);have hdj:mE m j=true:=(by simp only [mE,Bool.and_eq_true,decide_eq_true_eq];omega);have hfj:=sR hM hdj;have htj:=EL hM hdj;((conv=>whnf);refine bm (fun h7=>?_) (fun h7=>?_))
        ·(conv=>whnf);refine gI (H8 k (i:=i) (by omega) ?_) ?_
         ·show _+Int.toNat j*1=_;omega
         ((conv=>whnf);refine bm (fun h8=>?_) (fun h8=>?_))
         ·(conv=>whnf);refine⟨l,m,aC aP rfl,aC aS rfl,?_⟩;((conv=>whnf);refine bm (fun h9=>?_) (fun h9=>?_))
          ·((conv=>whnf);refine bm (fun h10=>?_) (fun h10=>?_))
           ·have h10:bS m j≠iH m d:=(by simpa [aA,aB] using h10);((conv=>whnf);refine bm (fun h11=>?_) (fun h11=>?_))
            ·(conv=>whnf);refine⟨2*m.length - (i+1),by omega,?_⟩;refine aM (e0:=XE k c3 d (iH m d) (gJ l m k d i) (j+1)) (h0:=UZ l m k c1 c2 n (dY l (bS m d)) (dY l (iH m d))) (n0:=6) ⟨i+1,j+1,by omega,by omega,rfl,?_,rfl,rfl⟩ ?_ ?_ (by decide)
             ·rw [aDn (fun hh=>h10 (by rw [hj];exact hh.1.2))];rfl
             ·unfold XE;((repeat' refine iE rfl rfl ?_);exact iN)
             ·unfold UZ aY dE;((repeat'(first|refine iF rfl rfl ?_|refine iC rfl rfl rfl ?_|refine iJ rfl rfl rfl rfl ?_));exact iN)
            ·exfalso;simp [aA,aB,aI] at h11;omega
           ·have h10:bS m j=iH m d:=(by simpa [aA,aB] using h10);(conv=>whnf);refine⟨l,m,aC aP rfl,aC aS rfl,?_⟩;((conv=>whnf);refine bm (fun h11=>?_) (fun h11=>?_))
            ·((conv=>whnf);refine bm (fun h12=>?_) (fun h12=>?_))
             ·(conv=>whnf);refine nV (jO l (i:=(iH m j).toNat) (by omega) ?_) ?_
              ·show _+Int.toNat (iH m j)*2=_;omega
              have h8:cG k i=true:=(by simpa [aA,aB] using h8);have h10':bS m i=iH m d:=(by rw [← hj];exact h10);((conv=>whnf);refine bm (fun h13=>?_) (fun h13=>?_))
              ·have h13:¬ gJ l m k d i<0:=(by simpa [aA,aB] using h13);have hdb:mE m (gJ l m k d i)=true:=(by simp only [mE,Bool.and_eq_true,decide_eq_true_eq];omega);have htb:=EL hM hdb;(conv=>whnf);refine⟨l,m,aC aP rfl,aC aS rfl,?_⟩;((conv=>whnf);refine bm (fun h14=>?_) (fun h14=>?_))
               ·((conv=>whnf);refine bm (fun h15=>?_) (fun h15=>?_))
                ·(conv=>whnf);refine nV (jO l (i:=(iH m (gJ l m k d i)).toNat) (by omega) ?_) ?_
                 ·show _+Int.toNat (iH m (gJ l m k d i))*2=_;omega
                 ((conv=>whnf);refine bm (fun h16=>?_) (fun h16=>?_))
                 ·((conv=>whnf);refine bm (fun h17=>?_) (fun h17=>?_))
                  ·have h17:pX (dY l (iH m d)) (dY l (bS m d)) (dY l (iH m i)) (dY l (iH m (gJ l m k d i)))=true:=(by rw [← hj];exact h17);((conv=>whnf);refine bm (fun h18=>?_) (fun h18=>?_))
                   ·(conv=>whnf);refine⟨2*m.length - (i+1),by omega,?_⟩;refine aM (e0:=XE k c3 d (iH m d) (j) (j+1)) (h0:=UZ l m k c1 c2 n (dY l (bS m d)) (dY l (iH m d))) (n0:=6) ⟨i+1,j+1,by omega,by omega,rfl,?_,rfl,rfl⟩ ?_ ?_ (by decide)
                    ·rw [aIo ⟨⟨h8,h10'⟩,.inr h17⟩,hj];rfl
                    ·unfold XE;((repeat' refine iE rfl rfl ?_);exact iN)
                    ·unfold UZ aY dE;((repeat'(first|refine iF rfl rfl ?_|refine iC rfl rfl rfl ?_|refine iJ rfl rfl rfl rfl ?_));exact iN)
                   ·exfalso;simp [aA,aB,aI] at h18;omega
                  ·have h17:¬ pX (dY l (iH m d)) (dY l (bS m d)) (dY l (iH m i)) (dY l (iH m (gJ l m k d i)))=true:=(by rw [← hj];exact fun hh=>Bool.false_ne_true (h17.symm.trans hh));((conv=>whnf);refine bm (fun h18=>?_) (fun h18=>?_))
                   ·(conv=>whnf);refine⟨2*m.length - (i+1),by omega,?_⟩;refine aM (e0:=XE k c3 d (iH m d) (gJ l m k d i) (j+1)) (h0:=UZ l m k c1 c2 n (dY l (bS m d)) (dY l (iH m d))) (n0:=6) ⟨i+1,j+1,by omega,by omega,rfl,?_,rfl,rfl⟩ ?_ ?_ (by decide)
                    ·rw [aDn (fun hh=>hh.2.elim h13 h17)];rfl
                    ·unfold XE;((repeat' refine iE rfl rfl ?_);exact iN)
                    ·unfold UZ aY dE;((repeat'(first|refine iF rfl rfl ?_|refine iC rfl rfl rfl ?_|refine iJ rfl rfl rfl rfl ?_));exact iN)
                   ·exfalso;simp [aA,aB,aI] at h18;omega
                 ·exfalso;have e1:=qI hM ht.1 ht.2;have e2:=qI hM hf.1 hf.2;have e3:=qI hM htj.1 htj.2;have e4:=qI hM htb.1 htb.2;have h16:(wide (dY l (iH m d))&&wide (dY l (bS m d))&&wide (dY l (iH m j))&&wide (dY l (iH m (gJ l m k d i))))=false:=h16;rw [e1,e2,e3,e4] at h16;cases h16
                ·exfalso;simp [aA,aB] at h15;omega
               ·exfalso;rw [show mE m (gJ l m k d i)=false from h14] at hdb;cases hdb
              ·have h13:gJ l m k d i<0:=(by simpa [aA,aB] using h13);((conv=>whnf);refine bm (fun h18=>?_) (fun h18=>?_))
               ·(conv=>whnf);refine⟨2*m.length - (i+1),by omega,?_⟩;refine aM (e0:=XE k c3 d (iH m d) (j) (j+1)) (h0:=UZ l m k c1 c2 n (dY l (bS m d)) (dY l (iH m d))) (n0:=6) ⟨i+1,j+1,by omega,by omega,rfl,?_,rfl,rfl⟩ ?_ ?_ (by decide)
                ·rw [aIo ⟨⟨h8,h10'⟩,.inl h13⟩,hj];rfl
                ·unfold XE;((repeat' refine iE rfl rfl ?_);exact iN)
                ·unfold UZ aY dE;((repeat'(first|refine iF rfl rfl ?_|refine iC rfl rfl rfl ?_|refine iJ rfl rfl rfl rfl ?_));exact iN)
               ·exfalso;simp [aA,aB,aI] at h18;omega
             ·exfalso;simp [aA,aB] at h12;omega
            ·exfalso;rw [show mE m j=false from h11] at hdj;cases hdj
          ·exfalso;rw [show mE m j=false from h9] at hdj;cases hdj
         ·have h8:cG k i=false:=(by simpa [aA,aB] using h8);((conv=>whnf);refine bm (fun h11=>?_) (fun h11=>?_))
          ·(conv=>whnf);refine⟨2*m.length - (i+1),by omega,?_⟩;refine aM (e0:=XE k c3 d (iH m d) (gJ l m k d i) (j+1)) (h0:=UZ l m k c1 c2 n (dY l (bS m d)) (dY l (iH m d))) (n0:=6) ⟨i+1,j+1,by omega,by omega,rfl,?_,rfl,rfl⟩ ?_ ?_ (by decide)
           ·rw [aDn (fun hh=>by rw [h8] at hh;cases hh.1.1)];rfl
           ·unfold XE;((repeat' refine iE rfl rfl ?_);exact iN)
           ·unfold UZ aY dE;((repeat'(first|refine iF rfl rfl ?_|refine iC rfl rfl rfl ?_|refine iJ rfl rfl rfl rfl ?_));exact iN)
          ·exfalso;simp [aA,aB,aI] at h11;omega
        ·exfalso;simp [aA,aB] at h7;omega
       ·have hge:i=2*m.length:=(by simp [aA,aB] at h6;omega);(conv=>whnf);rw [hge]
      ·exfalso;simp [aA,aB,aI] at h5;omega
    ·exfalso;simp [aA,aB] at h4;omega
   ·exfalso;rw [show mE m d=false from h3] at hd;cases hd
  ·exfalso;simp [aA,aB] at h2;omega
 ·exfalso;rw [show mE m d=false from h1] at hd;cases hd
def aK (k:List Int)(i:Nat):Int:=k.getD i 0
theorem dR {k:List Int}{i:Nat}(h:i<k.length):aK k i=k[i]:=by
 unfold aK;rw [List.getD_eq_getElem?_getD,List.getElem?_eq_getElem h];rfl
theorem eK (k:List Int){i o:Nat}(hi:i<k.length)(ho:o=i*1):nth (flat aN.fl k) o=some (iv (aK k i)):=by
 rw [dR hi];exact l9 aN k hi (k:=0) rfl Nat.one_pos (by rw [ho];rfl)
def N5 (l:List Pt)(m:List Ed)(d:Int):Int:=(dY l (bS m d)).1*(dY l (iH m d)).2 - (dY l (iH m d)).1*(dY l (bS m d)).2
def mR (l:List Pt)(m:List Ed)(k:List Int):Nat→Int
 |0=>0
 |i+1=>mR l m k i+N5 l m (aK k i)
theorem NV {p:Pt}(h:wide p=true) : -1000000≤p.1∧p.1≤1000000∧-1000000≤p.2∧p.2≤1000000:=by
 simp only [wide,Bool.and_eq_true,decide_eq_true_eq] at h;omega
theorem PT {l:List Pt}{m:List Ed}(hM:oG l m=true){d:Int}(hd:mE m d=true) :
  -1000000000000≤(dY l (bS m d)).1*(dY l (iH m d)).2∧(dY l (bS m d)).1*(dY l (iH m d)).2≤1000000000000∧-1000000000000≤(dY l (iH m d)).1*(dY l (bS m d)).2∧(dY l (iH m d)).1*(dY l (bS m d)).2≤1000000000000:=by
 have hf:=sR hM hd;have ht:=EL hM hd;have w1:=NV (qI hM hf.1 hf.2);have w2:=NV (qI hM ht.1 ht.2);have m1:=vT (a:=(dY l (bS m d)).1) (b:=(dY l (iH m d)).2) (A:=1000000) (B:=1000000) (by omega) (by omega) (by omega) (by omega);have m2:=vT (a:=(dY l (iH m d)).1) (b:=(dY l (bS m d)).2) (A:=1000000) (B:=1000000) (by omega) (by omega) (by omega) (by omega);omega
theorem NI {l:List Pt}{m:List Ed}{k:List Int}(hM:oG l m=true)(hk:∀ i,i<k.length→mE m (aK k i)=true):∀ i,i≤k.length→-2000000000000*(i:Int)≤mR l m k i∧mR l m k i≤2000000000000*(i:Int)
 |0,_=>by unfold mR;omega
 |i+1,hi=>by
  have h1:=NI hM hk i (by omega);have h2:=PT hM (hk i (by omega));unfold mR N5;omega
def SD (m:List Ed)(k:List Int):Bool:=k.all (mE m)
theorem rE {m:List Ed}{k:List Int}(h:SD m k=true){i:Nat}(hi:i<k.length):mE m (aK k i)=true:=by
 rw [dR hi];exact List.all_eq_true.1 h _ (List.getElem_mem hi)
def aHM (l:List Pt)(m:List Ed)(n:Int)(k:List Int):List Value→Option (Bool × Value)
 |[]=>some (oG l m&&SD m k&&decide (k.length≤10000),iv (mR l m k k.length))
 |_=>none
theorem aCE {l:List Pt}{m:List Ed}{n:Int}{k:List Int}{r:List Value}{v:Value}(h:aHM l m n k r=some (true,v)):r=[]∧oG l m=true∧SD m k=true∧k.length≤10000∧v=iv (mR l m k k.length):=by
 unfold aHM at h;split at h
 ·injection h with h;injection h with h1 h2;simp only [Bool.and_eq_true,decide_eq_true_eq] at h1;exact⟨rfl,h1.1.1,h1.1.2,h1.2,h2.symm⟩
 ·cases h
def e90 (k:List Int)(c3:Nat)(a j:Int):List (Nat × Value):=[(1,.slice (some ⟨2,0,none⟩) k.length c3),(2,.pointer (some ⟨3,0,none⟩)),(5,iv a),(6,iv j)]
def h90 (l:List Pt)(m:List Ed)(k:List Int)(c1 c2:Nat)(n:Int):Heap:=(3,aY l.length m.length c1 c2 n)::dE aP aS aN l m k
def X90:Nat × XF:=(90,mLX aP aS aN aHM)
theorem x90:cH Go.Proofs.Tryz.prog X90.1 X90.2:=SB aP aS aN (aL (xl:=[X87,aEH]) (.cons x87 (.cons aKE .nil))) fun l m n k r v hs=>by
 obtain⟨rfl,hM,hkk,hk,rfl⟩:=aCE hs;refine⟨rfl,rfl,fun c1 c2 c3=>?_⟩;have hm:m.length≤1000:=(by simp only [oG,Bool.and_eq_true,decide_eq_true_eq] at hM;exact hM.1.2);(conv=>whnf);refine⟨fun q e h nx=>∃ (i:Nat) (j:Int),j=i∧i≤k.length∧q=k.length - i∧e=e90 k c3 (mR l m k i) j∧h=h90 l m k c1 c2 n∧nx=4,⟨k.length,?_⟩,?_⟩
 ·refine aM (e0:=e90 k c3 0 0) (h0:=h90 l m k c1 c2 n) (n0:=4) ⟨0,0,rfl,Nat.zero_le _,rfl,rfl,rfl,rfl⟩ ?_ ?_ (by decide)
  ·unfold e90;((repeat' refine iE rfl rfl ?_);exact iN)
  ·unfold h90 aY dE;((repeat'(first|refine iF rfl rfl ?_|refine iC rfl rfl rfl ?_|refine iJ rfl rfl rfl rfl ?_));exact iN)
 ·rintro q e h nx ⟨i,j,hj,hi,rfl,rfl,rfl,rfl⟩;unfold e90 h90 aY dE;((conv=>whnf);refine bm (fun h6=>?_) (fun h6=>?_))
  ·have hlt:i<k.length:=(by simp [aA,aB] at h6;omega);have hdj:=rE hkk hlt;have hf:=sR hM hdj;have ht:=EL hM hdj;have lo:=NI hM (fun i hi=>rE hkk hi) i hi;have pl:=PT hM hdj;((conv=>whnf);refine bm (fun h7=>?_) (fun h7=>?_))
   ·(conv=>whnf);refine gI (eK k (i:=i) hlt ?_) ?_
    ·show _+Int.toNat j*1=_;omega
    (conv=>whnf);refine⟨l,m,aC aP rfl,aC aS rfl,?_⟩;((conv=>whnf);refine bm (fun h8=>?_) (fun h8=>?_))
    ·((conv=>whnf);refine bm (fun h9=>?_) (fun h9=>?_))
     ·(conv=>whnf);refine nV (jO l (i:=(bS m (aK k i)).toNat) (by omega) ?_) ?_
      ·show _+Int.toNat (bS m (aK k i))*2=_;omega
      ((conv=>whnf);refine bm (fun h10=>?_) (fun h10=>?_))
      ·(conv=>whnf);refine gI (eK k (i:=i) hlt ?_) ?_
       ·show _+Int.toNat j*1=_;omega
       (conv=>whnf);refine⟨l,m,aC aP rfl,aC aS rfl,?_⟩;((conv=>whnf);refine bm (fun h11=>?_) (fun h11=>?_))
       ·((conv=>whnf);refine bm (fun h12=>?_) (fun h12=>?_))
        ·(conv=>whnf);refine nV (jO l (i:=(iH m (aK k i)).toNat) (by omega) ?_) ?_
         ·show _+Int.toNat (iH m (aK k i))*2=_;omega
         repeat' ((conv=>whnf);refine bm (fun h13=>?_) (fun h13=>?_))
         all_goals try (exfalso;simp [aA,aB,aI] at h13;simp only [dY] at *;omega)
         (conv=>whnf);refine⟨k.length - (i+1),by omega,?_⟩;refine aM (e0:=e90 k c3 (mR l m k i+(dY l (bS m (aK k i))).1*(dY l (iH m (aK k i))).2 - (dY l (iH m (aK k i))).1*(dY l (bS m (aK k i))).2) (j+1)) (h0:=h90 l m k c1 c2 n) (n0:=4) ⟨i+1,j+1,by omega,hlt,rfl,?_,rfl,rfl⟩ ?_ ?_ (by decide)
         ·congr 4;rw [show mR l m k (i+1)=mR l m k i+N5 l m (aK k i) from rfl];unfold N5;omega
         ·unfold e90;((repeat' refine iE rfl rfl ?_);exact iN)
         ·unfold h90 aY dE;((repeat'(first|refine iF rfl rfl ?_|refine iC rfl rfl rfl ?_|refine iJ rfl rfl rfl rfl ?_));exact iN)
        ·exfalso;simp [aA,aB] at h12;omega
       ·exfalso;rw [show mE m (aK k i)=false from h11] at hdj;cases hdj
      ·exfalso;simp [aA,aB] at h10;omega
     ·exfalso;simp [aA,aB] at h9;omega
    ·exfalso;rw [show mE m (aK k i)=false from h8] at hdj;cases hdj
   ·exfalso;simp [aA,aB] at h7;omega
  ·have hge:i=k.length:=(by simp [aA,aB] at h6;omega);(conv=>whnf);rw [hge]
theorem eL {α:Type}(E:El α)(o:List α)(x:α){n:Nat}(hn:n=o.length):((flat E.fl o).drop 0).take (n*E.sz)++E.fl x=flat E.fl (o++[x]):=by
 subst hn;rw [List.drop_zero,← bD E o,List.take_length,o8];simp [flat]
theorem nW {i N s:Nat}{p:Prop}(hN:N=i*s)(hi:i+1≤1000000000)
  (h:aA.A.andB (aA.A.andB ((i+1).ble 1000000000) ((0+i*s).ble N)) (aA.A.andB ((0+i*s).beq N) (Nat.beq s s))=false):p:=by
 exfalso;have h1:(i+1).ble 1000000000=true:=Nat.ble_eq_true_of_le hi;have h2:(0+i*s).ble N=true:=Nat.ble_eq_true_of_le (by omega);have h3:(0+i*s).beq N=true:=(by rw [hN,Nat.zero_add];exact Nat.beq_refl _);rw [h1,h2,h3,Nat.beq_refl] at h;cases h
def evS (l:List Pt)(m:List Ed)(n:Int):List Value→YS Bool
 |[]=>some (decide (1≤m.length)&&decide (m.length≤1000),List.replicate (2*m.length) true,[])
 |_=>none
theorem aDR {l:List Pt}{m:List Ed}{n:Int}{r:List Value}{out:List Bool}{rest:List Value}(h:evS l m n r=some (true,out,rest)):r=[]∧1≤m.length∧m.length≤1000∧out=List.replicate (2*m.length) true∧rest=[]:=by
 unfold evS at h;split at h
 ·injection h with h;injection h with h1 h2;injection h2 with h2 h3;simp only [Bool.and_eq_true,decide_eq_true_eq] at h1;exact⟨rfl,h1.1,h1.2,h2.symm,h3.symm⟩
 ·cases h
def e80 (v:Value)(j:Int):List (Nat × Value):=[(1,.pointer (some ⟨2,0,none⟩)),(3,v),(4,iv j)]
def h80 (l:List Pt)(m:List Ed)(c1 c2:Nat)(n:Int):Heap:=(2,aY l.length m.length c1 c2 n)::aD aP aS l m
def O9 (l:List Pt)(m:List Ed)(c1 c2:Nat)(n:Int)(o:List Bool):Heap:=(3,.cells true false 1 (flat eH.fl o))::(2,aY l.length m.length c1 c2 n)::aD aP aS l m
def aDI:Nat × XF:=(80,mYX aP aS eH evS)
theorem aK0:cH Go.Proofs.Tryz.prog aDI.1 aDI.2:=SY aP aS eH (aL (xl:=[]) .nil) fun l m n r out rest hs=>by
 obtain⟨rfl,h1m,hm,rfl,rfl⟩:=aDR hs;clear hs;refine⟨rfl,rfl,fun c1 c2=>?_⟩;(conv=>whnf)
 refine⟨fun q e h nx=>∃ (i:Nat) (j:Int),j=i∧i≤2*m.length∧q=2*m.length - i ∧
  ((i=0∧e=e80 (.slice none 0 0) j∧h=h80 l m c1 c2 n∧nx=3)∨(0<i∧e=e80 (.slice (some ⟨3,0,none⟩) i i) j∧h=O9 l m c1 c2 n (List.replicate i true)∧nx=4)),⟨2*m.length,?_⟩,?_⟩
 ·refine aM (e0:=e80 (.slice none 0 0) 0) (h0:=h80 l m c1 c2 n) (n0:=3) ⟨0,0,rfl,Nat.zero_le _,rfl,.inl ⟨rfl,rfl,rfl,rfl⟩⟩ ?_ ?_ (by decide)
  ·unfold e80;((repeat' refine iE rfl rfl ?_);exact iN)
  ·unfold h80 aY aD;((repeat'(first|refine iF rfl rfl ?_|refine iC rfl rfl rfl ?_|refine iJ rfl rfl rfl rfl ?_));exact iN)
 ·rintro q e h nx ⟨i,j,hj,hi,rfl,⟨hi0,rfl,rfl,rfl⟩|⟨hip,rfl,rfl,rfl⟩⟩
  ·subst hi0;unfold e80 h80 aY aD;((conv=>whnf);refine bm (fun h1=>?_) (fun h1=>?_))
   ·((conv=>whnf);refine bm (fun h2=>?_) (fun h2=>?_))
    ·((conv=>whnf);refine bm (fun h3=>?_) (fun h3=>?_))
     ·(conv=>whnf);refine⟨2*m.length - 1,by omega,?_⟩;refine gM (e0:=e80 (.slice (some ⟨3,0,none⟩) 1 1) (j+1)) (h0:=O9 l m c1 c2 n [true]) (n0:=4) 3 4 (by decide) (by decide) ⟨1,j+1,by omega,by omega,rfl,.inr ⟨Nat.one_pos,rfl,rfl,rfl⟩⟩ ?_ ?_ ?_
      ·unfold e80;((repeat' refine iE rfl rfl ?_);exact iN)
      ·unfold O9 aY aD;((repeat'(first|refine iF rfl rfl ?_|refine iC rfl rfl rfl ?_|refine iJ rfl rfl rfl rfl ?_));exact iN)
      ·unfold O9;((repeat' refine iK rfl ?_);exact iN)
     ·exfalso;simp [aA,aB,aI] at h3;omega
    ·exfalso;simp [aA,aB] at h2;omega
   ·exfalso;simp [aA,aB,aI] at h1;omega
  ·unfold e80 O9 aY aD;((conv=>whnf);refine bm (fun h1=>?_) (fun h1=>?_))
   ·((conv=>whnf);refine bm (fun h2=>?_) (fun h2=>?_))
    ·have hlt:i<2*m.length:=(by simp [aA,aB] at h2;omega);have hll:(flat eH.fl (List.replicate i true)).length=i:=(by rw [bD,List.length_replicate];show i*1=i;omega);((conv=>whnf);refine bm (fun h3=>?_) (fun h3=>?_))
     ·exfalso;have:=Nat.le_of_ble_eq_true h3;omega
     ·((conv=>whnf);refine bm (fun h4=>?_) (fun h4=>?_))
      ·((conv=>whnf);refine bm (fun h5=>?_) (fun h5=>?_))
       ·(conv=>whnf);refine⟨2*m.length - (i+1),by omega,?_⟩
        refine gM (e0:=e80 (.slice (some ⟨3,0,none⟩) (i+1) (i+1)) (j+1)) (h0:=O9 l m c1 c2 n (List.replicate i true++[true])) (n0:=4) 3 5 (by decide) (by decide)
         ⟨i+1,j+1,by omega,by omega,rfl,.inr ⟨Nat.succ_pos _,rfl,by rw [List.replicate_succ'];rfl,rfl⟩⟩ ?_ ?_ ?_
        ·unfold e80;((repeat' refine iE rfl rfl ?_);exact iN)
        ·unfold O9 aY aD;((repeat'(first|refine iW rfl rfl (aZ (aG eH _) (eL eH (List.replicate i true) true (by rw [List.length_replicate]))) ?_|refine iF rfl rfl ?_|refine iC rfl rfl rfl ?_|refine iJ rfl rfl rfl rfl ?_));exact iN)
        ·unfold O9;((repeat' refine iK rfl ?_);exact iN)
       ·exfalso;simp [aA,aB,aI] at h5;omega
      ·exfalso;exact nW (s:=1) (by omega) (by omega) h4
    ·have hge:i=2*m.length:=(by simp [aA,aB] at h2;omega);subst hge;(conv=>whnf);refine⟨3,?_,rfl⟩;show _=Value.slice _ _ _;rw [List.length_replicate]
   ·exfalso;simp [aA,aB,aI] at h1;omega
def pO (f:Int→Int)(d:Int):Nat→Int
 |0=>f d
 |i+1=>f (pO f d i)
def mT (f:Int→Int)(d:Int)(N i:Nat):Bool:=(!decide (pO f d i=d))&&(decide (0≤pO f d i)&&decide (i≤N))
def tW (f:Int→Int)(d:Int)(N:Nat):Nat→Nat→Nat
 |0,i=>i
 |k+1,i=>if mT f d N i=true then tW f d N k (i+1) else i
def C8 (f:Int→Int)(d:Int)(i:Nat):List Int:=d::(List.range i).map (pO f d)
theorem n9 (f:Int→Int)(d:Int)(i:Nat):(C8 f d i).length=i+1:=by simp [C8]
theorem aI1 (f:Int→Int)(d:Int)(i:Nat):C8 f d (i+1)=C8 f d i++[pO f d i]:=by
 unfold C8;rw [List.range_succ,List.map_append];rfl
def EH (l:List Pt)(m:List Ed)(k:List Bool)(d:Int):Int:=gJ l m k d (2*m.length)
def jU (l:List Pt)(m:List Ed)(k:List Bool)(d:Int):List Int:=C8 (EH l m k) d (tW (EH l m k) d (2*m.length) (2*m.length+2) 0)
def rnS (l:List Pt)(m:List Ed)(n:Int)(k:List Bool):List Value→YS Int
 |[.int .i64 d]=>some (oG l m&&mE m d&&decide (k.length=2*m.length),jU l m k d,[])
 |_=>none
theorem aFA {l:List Pt}{m:List Ed}{n:Int}{k:List Bool}{r:List Value}{out:List Int}{rest:List Value}(h:rnS l m n k r=some (true,out,rest)):∃ d,r=[iv d]∧oG l m=true∧mE m d=true∧k.length=2*m.length∧out=jU l m k d∧rest=[]:=by
 unfold rnS at h;split at h
 ·rename_i d;injection h with h;injection h with h1 h2;injection h2 with h2 h3;simp only [Bool.and_eq_true,decide_eq_true_eq] at h1;exact⟨d,rfl,h1.1.1,h1.1.2,h1.2,h2.symm,h3.symm⟩
 ·cases h
def Y8 (k:List Bool)(c3:Nat)(d x j:Int)(z:Nat):List (Nat × Value):=[(1,iv d),(2,.slice (some ⟨2,0,none⟩) k.length c3),(3,.pointer (some ⟨3,0,none⟩)),(7,.slice (some ⟨4,0,none⟩) z z),(8,iv x),(9,iv j)]
def SL (l:List Pt)(m:List Ed)(k:List Bool)(c1 c2:Nat)(n:Int)(o:List Int):Heap:=(4,.cells true false 1 (flat aN.fl o))::(3,aY l.length m.length c1 c2 n)::dE aP aS eH l m k
theorem GM {f:Int→Int}{d:Int}{N k i:Nat}(h:mT f d N i=false):tW f d N k i=i:=by
 cases k with
 |zero=>rfl
 |succ k=>simp [tW,h]
def VT:Nat × XF:=(144,aKn aP aS eH aN rnS)
theorem aG6:cH Go.Proofs.Tryz.prog VT.1 VT.2:=aFE aP aS eH aN (aL (xl:=[X79]) (.cons x79 .nil)) fun l m n k r out rest hs=>by
 obtain⟨d,rfl,hM,hd,hk,rfl,rfl⟩:=aFA hs;clear hs;refine⟨rfl,rfl,fun c1 c2 c3=>?_⟩;have hm:m.length≤1000:=(by simp only [oG,Bool.and_eq_true,decide_eq_true_eq] at hM;exact hM.1.2);unfold jU;obtain⟨f,hf⟩:∃ f,f=EH l m k:=⟨_,rfl⟩;have hfl:∀ x,-1≤f x∧f x<2*m.length:=fun x=>(by rw [hf];have:=zT l m k x (2*m.length);unfold EH;omega);have hfx:∀ x,gJ l m k x (2*m.length)=f x:=fun x=>(by rw [hf];rfl);rw [← hf];(conv=>whnf);refine⟨_,_,_,[iv d],_,l,m,k,rfl,aC aP rfl,aC aS rfl,aC eH rfl,?_⟩;((conv=>whnf);refine bm (fun h1=>?_) (fun h1=>?_))
 ·(conv=>whnf);refine⟨fun q e h nx=>∃ (i:Nat) (j:Int),j=i∧i≤2*m.length+1∧q=2*m.length+1 - i∧tW f d (2*m.length) (2*m.length+2) 0=tW f d (2*m.length) (2*m.length+2 - i) i∧e=Y8 k c3 d (pO f d i) j (i+1)∧h=SL l m k c1 c2 n (C8 f d i)∧nx=5,⟨2*m.length+1,?_⟩,?_⟩
  ·refine aM (e0:=Y8 k c3 d (gJ l m k d (2*m.length)) 0 1) (h0:=SL l m k c1 c2 n [d]) (n0:=5) ⟨0,0,rfl,Nat.zero_le _,rfl,rfl,by rw [hfx];rfl,rfl,rfl⟩ ?_ ?_ (by decide)
   ·unfold Y8;((repeat' refine iE rfl rfl ?_);exact iN)
   ·unfold SL aY dE;((repeat'(first|refine iF rfl rfl ?_|refine iC rfl rfl rfl ?_|refine iJ rfl rfl rfl rfl ?_));exact iN)
  ·rintro q e h nx ⟨i,j,hj,hi,rfl,hb,rfl,rfl,rfl⟩;have hx : -1≤pO f d i∧pO f d i<2*m.length:=(by cases i <;> exact hfl _);unfold Y8 SL aY dE;have hll:(flat aN.fl (C8 f d i)).length=i+1:=(by rw [bD,n9];exact Nat.mul_one _);((conv=>whnf);refine bm (fun h2=>?_) (fun h2=>?_))
   ·have h2:pO f d i≠d:=(by simpa [aA,aB] using h2);((conv=>whnf);refine bm (fun h3=>?_) (fun h3=>?_))
    ·have h3:0≤pO f d i:=(by simpa [aA,aB] using h3);((conv=>whnf);refine bm (fun h4=>?_) (fun h4=>?_))
     ·((conv=>whnf);refine bm (fun h5=>?_) (fun h5=>?_))
      ·have h5:i≤2*m.length:=(by simp [aA,aB] at h5;omega);have hgo:mT f d (2*m.length) i=true:=(by simp [mT,h2,h3,h5]);((conv=>whnf);refine bm (fun h6=>?_) (fun h6=>?_))
       ·exfalso;have:=Nat.le_of_ble_eq_true h6;omega
       ·((conv=>whnf);refine bm (fun h7=>?_) (fun h7=>?_))
        ·(conv=>whnf);have hdx:mE m (pO f d i)=true:=(by simp only [mE,Bool.and_eq_true,decide_eq_true_eq];omega);refine⟨_,_,_,[iv (pO f d i)],_,l,m,k,rfl,aC aP rfl,aC aS rfl,aC eH rfl,?_⟩;((conv=>whnf);refine bm (fun h8=>?_) (fun h8=>?_))
         ·((conv=>whnf);refine bm (fun h9=>?_) (fun h9=>?_))
          ·(conv=>whnf);refine⟨2*m.length+1 - (i+1),by omega,?_⟩
           refine gM (e0:=Y8 k c3 d (gJ l m k (pO f d i) (2*m.length)) (j+1) (i+1+1)) (h0:=SL l m k c1 c2 n (C8 f d i++[pO f d i])) (n0:=5) 4 6 (by decide) (by decide)
            ⟨i+1,j+1,by omega,by omega,rfl,?_,by rw [hfx];rfl,by rw [aI1];rfl,rfl⟩ ?_ ?_ ?_
           ·rw [hb,show 2*m.length+2 - i=(2*m.length+2 - (i+1))+1 by omega]
            conv=>lhs;unfold tW
            rw [if_pos hgo]
           ·unfold Y8;((repeat' refine iE rfl rfl ?_);exact iN)
           ·unfold SL aY dE;((repeat'(first|refine iW rfl rfl (aZ (aG aN _) (eL aN (C8 f d i) (pO f d i) (n9 f d i).symm)) ?_|refine iF rfl rfl ?_|refine iC rfl rfl rfl ?_|refine iJ rfl rfl rfl rfl ?_));exact iN)
           ·unfold SL;((repeat' refine iK rfl ?_);exact iN)
          ·exfalso;simp [aA,aB,aI] at h9;omega
         ·exfalso;have h8:(oG l m&&mE m (pO f d i)&&decide (k.length=2*m.length))=false:=h8;rw [hM,hdx,decide_eq_true hk] at h8;cases h8
        ·exact nW (i:=i+1) (s:=1) (by omega) (by omega) h7
      ·have h5:¬ i≤2*m.length:=(by simp [aA,aB] at h5;omega);(conv=>whnf);rw [hb,GM (show mT f d (2*m.length) i=false from ?_)]
       ·refine⟨4,?_,rfl⟩;show _=Value.slice _ _ _;rw [n9]
       ·simp [mT,h5]
     ·exfalso;simp [aA,aB,aI] at h4;omega
    ·have h3:¬ 0≤pO f d i:=(by simpa [aA,aB] using h3);(conv=>whnf);rw [hb,GM (show mT f d (2*m.length) i=false from ?_)]
     ·refine⟨4,?_,rfl⟩;show _=Value.slice _ _ _;rw [n9]
     ·simp [mT,h3]
   ·have h2:pO f d i=d:=(by simpa [aA,aB] using h2);(conv=>whnf);rw [hb,GM (show mT f d (2*m.length) i=false from ?_)]
    ·refine⟨4,?_,rfl⟩;show _=Value.slice _ _ _;rw [n9]
    ·simp [mT,h2]
 ·exfalso;have h1:(oG l m&&mE m d&&decide (k.length=2*m.length))=false:=h1;rw [hM,hd,decide_eq_true hk] at h1;cases h1
theorem XC {f:Int→Int}{d:Int}{N:Nat}:∀ {k i t:Nat},i≤t→t<tW f d N k i→mT f d N t=true
 |0,i,t,h1,h2=>by simp only [tW] at h2;omega
 |k+1,i,t,h1,h2=>by
  simp only [tW] at h2;split at h2
  ·rename_i hg;by_cases ht:t=i
   ·rw [ht];exact hg
   ·exact XC (k:=k) (i:=i+1) (by omega) h2
  ·omega
theorem PG {f:Int→Int}{d:Int}{N:Nat}:∀ {k i:Nat},tW f d N k i≤i+k
 |0,i=>by simp only [tW];omega
 |k+1,i=>by
  simp only [tW];split
  ·have:=PG (f:=f) (d:=d) (N:=N) (k:=k) (i:=i+1);omega
  ·omega
theorem Q8 (l:List Pt)(m:List Ed)(k:List Bool)(d:Int):(jU l m k d).length≤2*m.length+3:=by
 unfold jU;rw [n9];have:=PG (f:=EH l m k) (d:=d) (N:=2*m.length) (k:=2*m.length+2) (i:=0);omega
theorem aBN (l:List Pt)(m:List Ed)(k:List Bool)(d:Int) : -1≤EH l m k d∧EH l m k d<2*m.length:=by
 have:=zT l m k d (2*m.length);unfold EH;omega
theorem ZO {l:List Pt}{m:List Ed}{k:List Bool}{d:Int}(hm:m.length≤1000)(hd:mE m d=true):SD m (jU l m k d)=true:=by
 unfold SD jU C8;rw [List.all_cons,hd,Bool.true_and,List.all_eq_true];intro x hx;obtain⟨t,ht,rfl⟩:=List.mem_map.1 hx;have hg:=XC (Nat.zero_le t) (List.mem_range.1 ht);simp only [mT,Bool.and_eq_true,decide_eq_true_eq] at hg;have:pO (EH l m k) d t<2*m.length:=(by cases t <;> exact (aBN l m k _).2);simp only [mE,Bool.and_eq_true,decide_eq_true_eq];omega
theorem SE (l:List Pt)(m:List Ed)(k:List Bool)(d:Int):0<(jU l m k d).length:=by
 unfold jU;rw [n9];omega
def dN (of w:List Int)(face:Int):Nat→List Int
 |0=>of
 |i+1=>(dN of w face i).set (aK w i).toNat face
theorem fE (of w:List Int)(face:Int):∀ i,(dN of w face i).length=of.length
 |0=>rfl
 |i+1=>by unfold dN;rw [List.length_set];exact fE of w face i
structure Fst where
 of:List Int
 faces:Int
 outside:Int
 ok:Bool
def pG (l:List Pt)(m:List Ed)(s:Fst)(d:Nat):Fst :=
 if 0≤aK s.of d then s else
  let w:=jU l m (List.replicate (2*m.length) true) d;let a:=mR l m w w.length;let fc:=if 0<a then s.faces+1 else 0
  ⟨dN s.of w fc w.length,if 0<a then s.faces+1 else s.faces,if a<0 then s.outside+1 else s.outside,if a=0 then false else s.ok⟩
def j6 (l:List Pt)(m:List Ed):Nat→Fst
 |0=>⟨List.replicate (2*m.length) (-1),0,0,true⟩
 |d+1=>pG l m (j6 l m d) d
def eR (l:List Pt)(m:List Ed):Fst:=j6 l m (2*m.length)
def MM (s:Fst):Bool:=s.ok&&(decide (s.outside=1)&&decide (1≤s.faces))
theorem vA (l:List Pt)(m:List Ed):∀ d,(j6 l m d).of.length=2*m.length
 |0=>by simp [j6]
 |d+1=>by
  unfold j6 pG;split
  ·exact vA l m d
  ·simp only [fE];exact vA l m d
theorem J0 (l:List Pt)(m:List Ed):∀ d:Nat,0≤(j6 l m d).faces∧(j6 l m d).faces≤d∧0≤(j6 l m d).outside∧(j6 l m d).outside≤d
 |0=>by simp [j6]
 |d+1=>by
  have:=J0 l m d;unfold j6 pG;split
  ·omega
  ·simp only;split <;> split <;> omega
end Go.Aw
end
