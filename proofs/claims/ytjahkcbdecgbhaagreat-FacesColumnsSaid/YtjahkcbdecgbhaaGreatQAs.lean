/-
  Parts of a proof. No condition.
-/
import Derived.Test.YtjahkcbdecgbhaaGreatQAq
import Derived.Test.YtjahkcbdecgbhaaGreatQAr
set_option linter.unusedSimpArgs false
set_option linter.unusedVariables false
noncomputable section
namespace Go.Aw
set_option maxRecDepth 100000
def fU:El Bool:=⟨fun b=>[.bool b],1,fun _=>rfl,fun _=>rfl,by decide⟩
def cU (k:List Bool)(i:Nat):Bool:=k.getD i false
theorem qL {k:List Bool}{i:Nat}(h:i<k.length):cU k i=k[i]:=by
 unfold cU;rw [List.getD_eq_getElem?_getD,List.getElem?_eq_getElem h];rfl
theorem M9 (k:List Bool){i o:Nat}(hi:i<k.length)(ho:o=i*1):nth (flat fU.fl k) o=some (.bool (cU k i)):=by
 rw [qL hi];exact lL fU k hi (k:=0) rfl Nat.one_pos (by rw [ho];rfl)
def dS (l:List Pt)(i:Int):Pt:=fT l i.toNat
def kK (l:List Pt)(m:List Ed):Bool:=l.all wide&&m.all (fun e=>decide (0≤e.a)&&decide (e.a<l.length)&&decide (0≤e.b)&&decide (e.b<l.length))&&decide (m.length≤1000)&&decide (l.length≤1000)
theorem nB {l:List Pt}{m:List Ed}(h:kK l m=true){i:Nat}(hi:i<m.length):0≤(cC m i).a∧(cC m i).a<l.length∧0≤(cC m i).b∧(cC m i).b<l.length:=by
 simp only [kK,Bool.and_eq_true] at h;have:=List.all_eq_true.1 h.1.1.2 _ (List.getElem_mem hi);rw [K3 hi];simp only [Bool.and_eq_true,decide_eq_true_eq] at this;omega
theorem sT {l:List Pt}{m:List Ed}(h:kK l m=true){d:Int}(hd:pF m d=true):0≤cE m d∧cE m d<l.length:=by
 simp only [pF,Bool.and_eq_true,decide_eq_true_eq] at hd;have:=nB h (i:=(d / 2).toNat) (by omega);unfold cE;split <;> omega
theorem GD {l:List Pt}{m:List Ed}(h:kK l m=true){d:Int}(hd:pF m d=true):0≤gO m d∧gO m d<l.length:=sT h (aAe hd)
theorem pJ {l:List Pt}{m:List Ed}(h:kK l m=true){i:Int}(h0:0≤i)(h1:i<l.length):wide (dS l i)=true:=by
 simp only [kK,Bool.and_eq_true] at h;unfold dS;rw [lW (by omega)];exact List.all_eq_true.1 h.1.1.1 _ (List.getElem_mem _)
def fS (l:List Pt)(m:List Ed)(k:List Bool)(d:Int):Nat→Int
 |0=>-1
 |j+1=>if (cU k j=true∧cE m j=gO m d)∧(fS l m k d j<0∨pY (dS l (gO m d)) (dS l (cE m d)) (dS l (gO m j)) (dS l (gO m (fS l m k d j)))=true) then j else fS l m k d j
theorem xQ (l:List Pt)(m:List Ed)(k:List Bool)(d:Int):∀ j:Nat,-1≤fS l m k d j∧fS l m k d j<j
 |0=>by unfold fS;omega
 |j+1=>by
  have:=xQ l m k d j;unfold fS;split <;> omega
theorem aD4 {l:List Pt}{m:List Ed}{k:List Bool}{d:Int}{j:Nat}(h:¬ ((cU k j=true∧cE m j=gO m d)∧(fS l m k d j<0∨pY (dS l (gO m d)) (dS l (cE m d)) (dS l (gO m j)) (dS l (gO m (fS l m k d j)))=true))):fS l m k d (j+1)=fS l m k d j:=by
 conv=>lhs;unfold fS
 exact if_neg h
theorem aGo {l:List Pt}{m:List Ed}{k:List Bool}{d:Int}{j:Nat}(h:((cU k j=true∧cE m j=gO m d)∧(fS l m k d j<0∨pY (dS l (gO m d)) (dS l (cE m d)) (dS l (gO m j)) (dS l (gO m (fS l m k d j)))=true))):fS l m k d (j+1)=j:=by
 conv=>lhs;unfold fS
 exact if_pos h
def aFG (l:List Pt)(m:List Ed)(n:Int)(k:List Bool):List Value→Option (Bool × Value)
 |[.int .i64 d]=>some (kK l m&&pF m d&&decide (k.length=2*m.length),iv (fS l m k d (2*m.length)))
 |_=>none
theorem YV {l:List Pt}{m:List Ed}{n:Int}{k:List Bool}{r:List Value}{v:Value}(h:aFG l m n k r=some (true,v)):∃ d,r=[iv d]∧kK l m=true∧pF m d=true∧k.length=2*m.length∧v=iv (fS l m k d (2*m.length)):=by
 unfold aFG at h;split at h
 ·rename_i d;injection h with h;injection h with h1 h2;simp only [Bool.and_eq_true,decide_eq_true_eq] at h1;exact⟨d,rfl,h1.1.1,h1.1.2,h1.2,h2.symm⟩
 ·cases h
def aX (a b:Nat)(c1 c2:Nat)(n:Int):aV:=.cells true false 1 [.slice (some ⟨0,0,none⟩) a c1,.slice (some ⟨1,0,none⟩) b c2,iv n]
def U2 (k:List Bool)(c3:Nat)(d at_ best j:Int):List (Nat × Value):=[(2,.slice (some ⟨2,0,none⟩) k.length c3),(3,.pointer (some ⟨3,0,none⟩)),(7,.pointer (some ⟨4,0,none⟩)),(8,iv at_),(9,.pointer (some ⟨5,0,none⟩)),(10,iv best),(11,iv j)]
def U0 (l:List Pt)(m:List Ed)(k:List Bool)(c1 c2:Nat)(n:Int)(u v:Pt):Heap:=(5,.cells true false 1 [iv v.1,iv v.2])::(4,.cells true false 1 [iv u.1,iv u.2])::(3,aX l.length m.length c1 c2 n)::jL aQ aU fU l m k
def X79:Nat × XF:=(79,mLX aQ aU fU aFG)
theorem x79:cO Go.Proofs.Tryz.prog X79.1 X79.2:=aBA aQ aU fU (aL (xl:=[X87,aEb,aH1]) (.cons x87 (.cons aJF (.cons aM6 .nil)))) fun l m n k r v hs=>by
 obtain⟨d,rfl,hM,hd,hk,rfl⟩:=YV hs;refine⟨rfl,rfl,fun c1 c2 c3=>?_⟩;have hf:=sT hM hd;have ht:=GD hM hd;have hm:m.length≤1000:=(by simp only [kK,Bool.and_eq_true,decide_eq_true_eq] at hM;exact hM.1.2);(conv=>whnf);refine⟨l,m,aI aQ rfl,aI aU rfl,?_⟩;((conv=>whnf);refine bm (fun h1=>?_) (fun h1=>?_))
 ·((conv=>whnf);refine bm (fun h2=>?_) (fun h2=>?_))
  ·(conv=>whnf);refine oA (jE l (i:=(cE m d).toNat) (by omega) ?_) ?_
   ·show _+Int.toNat (cE m d)*2=_;omega
   (conv=>whnf);refine⟨l,m,aI aQ rfl,aI aU rfl,?_⟩;((conv=>whnf);refine bm (fun h3=>?_) (fun h3=>?_))
   ·((conv=>whnf);refine bm (fun h4=>?_) (fun h4=>?_))
    ·(conv=>whnf);refine oA (jE l (i:=(gO m d).toNat) (by omega) ?_) ?_
     ·show _+Int.toNat (gO m d)*2=_;omega
     (conv=>whnf);refine⟨fun q e h nx=>∃ (i:Nat) (j:Int),j=i∧i≤2*m.length∧q=2*m.length - i∧e=U2 k c3 d (gO m d) (fS l m k d i) j∧h=U0 l m k c1 c2 n (dS l (cE m d)) (dS l (gO m d))∧nx=6,⟨2*m.length,?_⟩,?_⟩
     ·refine aK (e0:=U2 k c3 d (gO m d) (-1) 0) (h0:=U0 l m k c1 c2 n (dS l (cE m d)) (dS l (gO m d))) (n0:=6) ⟨0,0,rfl,Nat.zero_le _,rfl,rfl,rfl,rfl⟩ ?_ ?_ (by decide)
      ·unfold U2;((repeat' refine iE rfl rfl ?_);exact iN)
      ·unfold U0 aX jL;((repeat'(first|refine iF rfl rfl ?_|refine iC rfl rfl rfl ?_|refine iJ rfl rfl rfl rfl ?_));exact iN)
     ·rintro q e h nx ⟨i,j,hj,hi,rfl,rfl,rfl,rfl⟩;unfold U2 U0 aX jL;have lo:=xQ l m k d i;((conv=>whnf);refine bm (fun h5=>?_) (fun h5=>?_))
      ·((conv=>whnf);refine bm (fun h6=>?_) (fun h6=>?_))
       ·have hlt:i<2*m.length:=(by simp [aA,aC] at h6;omega);have hdj:pF m j=true:=(by simp only [pF,Bool.and_eq_true,decide_eq_true_eq];omega);have hfj:=sT hM hdj;have htj:=GD hM hdj;((conv=>whnf);refine bm (fun h7=>?_) (fun h7=>?_))
        ·(conv=>whnf);refine iB (M9 k (i:=i) (by omega) ?_) ?_
         ·show _+Int.toNat j*1=_;omega
         ((conv=>whnf);refine bm (fun h8=>?_) (fun h8=>?_))
         ·(conv=>whnf);refine⟨l,m,aI aQ rfl,aI aU rfl,?_⟩;((conv=>whnf);refine bm (fun h9=>?_) (fun h9=>?_))
          ·((conv=>whnf);refine bm (fun h10=>?_) (fun h10=>?_))
           ·have h10:cE m j≠gO m d:=(by simpa [aA,aC] using h10);((conv=>whnf);refine bm (fun h11=>?_) (fun h11=>?_))
            ·(conv=>whnf);refine⟨2*m.length - (i+1),by omega,?_⟩;refine aK (e0:=U2 k c3 d (gO m d) (fS l m k d i) (j+1)) (h0:=U0 l m k c1 c2 n (dS l (cE m d)) (dS l (gO m d))) (n0:=6) ⟨i+1,j+1,by omega,by omega,rfl,?_,rfl,rfl⟩ ?_ ?_ (by decide)
             ·rw [aD4 (fun hh=>h10 (by rw [hj];exact hh.1.2))];rfl
             ·unfold U2;((repeat' refine iE rfl rfl ?_);exact iN)
             ·unfold U0 aX jL;((repeat'(first|refine iF rfl rfl ?_|refine iC rfl rfl rfl ?_|refine iJ rfl rfl rfl rfl ?_));exact iN)
            ·exfalso;simp [aA,aC,aH] at h11;omega
           ·have h10:cE m j=gO m d:=(by simpa [aA,aC] using h10);(conv=>whnf);refine⟨l,m,aI aQ rfl,aI aU rfl,?_⟩;((conv=>whnf);refine bm (fun h11=>?_) (fun h11=>?_))
            ·((conv=>whnf);refine bm (fun h12=>?_) (fun h12=>?_))
             ·(conv=>whnf);refine oA (jE l (i:=(gO m j).toNat) (by omega) ?_) ?_
              ·show _+Int.toNat (gO m j)*2=_;omega
              have h8:cU k i=true:=(by simpa [aA,aC] using h8);have h10':cE m i=gO m d:=(by rw [← hj];exact h10);((conv=>whnf);refine bm (fun h13=>?_) (fun h13=>?_))
              ·have h13:¬ fS l m k d i<0:=(by simpa [aA,aC] using h13);have hdb:pF m (fS l m k d i)=true:=(by simp only [pF,Bool.and_eq_true,decide_eq_true_eq];omega);have htb:=GD hM hdb;(conv=>whnf);refine⟨l,m,aI aQ rfl,aI aU rfl,?_⟩;((conv=>whnf);refine bm (fun h14=>?_) (fun h14=>?_))
               ·((conv=>whnf);refine bm (fun h15=>?_) (fun h15=>?_))
                ·(conv=>whnf);refine oA (jE l (i:=(gO m (fS l m k d i)).toNat) (by omega) ?_) ?_
                 ·show _+Int.toNat (gO m (fS l m k d i))*2=_;omega
                 ((conv=>whnf);refine bm (fun h16=>?_) (fun h16=>?_))
                 ·((conv=>whnf);refine bm (fun h17=>?_) (fun h17=>?_))
                  ·have h17:pY (dS l (gO m d)) (dS l (cE m d)) (dS l (gO m i)) (dS l (gO m (fS l m k d i)))=true:=(by rw [← hj];exact h17);((conv=>whnf);refine bm (fun h18=>?_) (fun h18=>?_))
                   ·(conv=>whnf);refine⟨2*m.length - (i+1),by omega,?_⟩;refine aK (e0:=U2 k c3 d (gO m d) (j) (j+1)) (h0:=U0 l m k c1 c2 n (dS l (cE m d)) (dS l (gO m d))) (n0:=6) ⟨i+1,j+1,by omega,by omega,rfl,?_,rfl,rfl⟩ ?_ ?_ (by decide)
                    ·rw [aGo ⟨⟨h8,h10'⟩,.inr h17⟩,hj];rfl
                    ·unfold U2;((repeat' refine iE rfl rfl ?_);exact iN)
                    ·unfold U0 aX jL;((repeat'(first|refine iF rfl rfl ?_|refine iC rfl rfl rfl ?_|refine iJ rfl rfl rfl rfl ?_));exact iN)
                   ·exfalso;simp [aA,aC,aH] at h18;omega
                  ·have h17:¬ pY (dS l (gO m d)) (dS l (cE m d)) (dS l (gO m i)) (dS l (gO m (fS l m k d i)))=true:=(by rw [← hj];exact fun hh=>Bool.false_ne_true (h17.symm.trans hh));((conv=>whnf);refine bm (fun h18=>?_) (fun h18=>?_))
                   ·(conv=>whnf);refine⟨2*m.length - (i+1),by omega,?_⟩;refine aK (e0:=U2 k c3 d (gO m d) (fS l m k d i) (j+1)) (h0:=U0 l m k c1 c2 n (dS l (cE m d)) (dS l (gO m d))) (n0:=6) ⟨i+1,j+1,by omega,by omega,rfl,?_,rfl,rfl⟩ ?_ ?_ (by decide)
                    ·rw [aD4 (fun hh=>hh.2.elim h13 h17)];rfl
                    ·unfold U2;((repeat' refine iE rfl rfl ?_);exact iN)
                    ·unfold U0 aX jL;((repeat'(first|refine iF rfl rfl ?_|refine iC rfl rfl rfl ?_|refine iJ rfl rfl rfl rfl ?_));exact iN)
                   ·exfalso;simp [aA,aC,aH] at h18;omega
                 ·exfalso;have e1:=pJ hM ht.1 ht.2;have e2:=pJ hM hf.1 hf.2;have e3:=pJ hM htj.1 htj.2;have e4:=pJ hM htb.1 htb.2;have h16:(wide (dS l (gO m d))&&wide (dS l (cE m d))&&wide (dS l (gO m j))&&wide (dS l (gO m (fS l m k d i))))=false:=h16;rw [e1,e2,e3,e4] at h16;cases h16
                ·exfalso;simp [aA,aC] at h15;omega
               ·exfalso;rw [show pF m (fS l m k d i)=false from h14] at hdb;cases hdb
              ·have h13:fS l m k d i<0:=(by simpa [aA,aC] using h13);((conv=>whnf);refine bm (fun h18=>?_) (fun h18=>?_))
               ·(conv=>whnf);refine⟨2*m.length - (i+1),by omega,?_⟩;refine aK (e0:=U2 k c3 d (gO m d) (j) (j+1)) (h0:=U0 l m k c1 c2 n (dS l (cE m d)) (dS l (gO m d))) (n0:=6) ⟨i+1,j+1,by omega,by omega,rfl,?_,rfl,rfl⟩ ?_ ?_ (by decide)
                ·rw [aGo ⟨⟨h8,h10'⟩,.inl h13⟩,hj];rfl
                ·unfold U2;((repeat' refine iE rfl rfl ?_);exact iN)
                ·unfold U0 aX jL;((repeat'(first|refine iF rfl rfl ?_|refine iC rfl rfl rfl ?_|refine iJ rfl rfl rfl rfl ?_));exact iN)
               ·exfalso;simp [aA,aC,aH] at h18;omega
             ·exfalso;simp [aA,aC] at h12;omega
            ·exfalso;rw [show pF m j=false from h11] at hdj;cases hdj
          ·exfalso;rw [show pF m j=false from h9] at hdj;cases hdj
         ·have h8:cU k i=false:=(by simpa [aA,aC] using h8);((conv=>whnf);refine bm (fun h11=>?_) (fun h11=>?_))
          ·(conv=>whnf);refine⟨2*m.length - (i+1),by omega,?_⟩;refine aK (e0:=U2 k c3 d (gO m d) (fS l m k d i) (j+1)) (h0:=U0 l m k c1 c2 n (dS l (cE m d)) (dS l (gO m d))) (n0:=6) ⟨i+1,j+1,by omega,by omega,rfl,?_,rfl,rfl⟩ ?_ ?_ (by decide)
           ·rw [aD4 (fun hh=>by rw [h8] at hh;cases hh.1.1)];rfl
           ·unfold U2;((repeat' refine iE rfl rfl ?_);exact iN)
           ·unfold U0 aX jL;((repeat'(first|refine iF rfl rfl ?_|refine iC rfl rfl rfl ?_|refine iJ rfl rfl rfl rfl ?_));exact iN)
          ·exfalso;simp [aA,aC,aH] at h11;omega
        ·exfalso;simp [aA,aC] at h7;omega
       ·have hge:i=2*m.length:=(by simp [aA,aC] at h6;omega);(conv=>whnf);rw [hge]
      ·exfalso;simp [aA,aC,aH] at h5;omega
    ·exfalso;simp [aA,aC] at h4;omega
   ·exfalso;rw [show pF m d=false from h3] at hd;cases hd
  ·exfalso;simp [aA,aC] at h2;omega
 ·exfalso;rw [show pF m d=false from h1] at hd;cases hd
def aM (k:List Int)(i:Nat):Int:=k.getD i 0
theorem dD {k:List Int}{i:Nat}(h:i<k.length):aM k i=k[i]:=by
 unfold aM;rw [List.getD_eq_getElem?_getD,List.getElem?_eq_getElem h];rfl
theorem fN (k:List Int){i o:Nat}(hi:i<k.length)(ho:o=i*1):nth (flat aO.fl k) o=some (iv (aM k i)):=by
 rw [dD hi];exact lL aO k hi (k:=0) rfl Nat.one_pos (by rw [ho];rfl)
def MV (l:List Pt)(m:List Ed)(d:Int):Int:=(dS l (cE m d)).1*(dS l (gO m d)).2 - (dS l (gO m d)).1*(dS l (cE m d)).2
def mE (l:List Pt)(m:List Ed)(k:List Int):Nat→Int
 |0=>0
 |i+1=>mE l m k i+MV l m (aM k i)
theorem OB {p:Pt}(h:wide p=true) : -1000000≤p.1∧p.1≤1000000∧-1000000≤p.2∧p.2≤1000000:=by
 simp only [wide,Bool.and_eq_true,decide_eq_true_eq] at h;omega
theorem MG {l:List Pt}{m:List Ed}(hM:kK l m=true){d:Int}(hd:pF m d=true) :
  -1000000000000≤(dS l (cE m d)).1*(dS l (gO m d)).2∧(dS l (cE m d)).1*(dS l (gO m d)).2≤1000000000000∧-1000000000000≤(dS l (gO m d)).1*(dS l (cE m d)).2∧(dS l (gO m d)).1*(dS l (cE m d)).2≤1000000000000:=by
 have hf:=sT hM hd;have ht:=GD hM hd;have w1:=OB (pJ hM hf.1 hf.2);have w2:=OB (pJ hM ht.1 ht.2);have m1:=qE (a:=(dS l (cE m d)).1) (b:=(dS l (gO m d)).2) (A:=1000000) (B:=1000000) (by omega) (by omega) (by omega) (by omega);have m2:=qE (a:=(dS l (gO m d)).1) (b:=(dS l (cE m d)).2) (A:=1000000) (B:=1000000) (by omega) (by omega) (by omega) (by omega);omega
theorem NA {l:List Pt}{m:List Ed}{k:List Int}(hM:kK l m=true)(hk:∀ i,i<k.length→pF m (aM k i)=true):∀ i,i≤k.length→-2000000000000*(i:Int)≤mE l m k i∧mE l m k i≤2000000000000*(i:Int)
 |0,_=>by unfold mE;omega
 |i+1,hi=>by
  have h1:=NA hM hk i (by omega);have h2:=MG hM (hk i (by omega));unfold mE MV;omega
def QY (m:List Ed)(k:List Int):Bool:=k.all (pF m)
theorem yD {m:List Ed}{k:List Int}(h:QY m k=true){i:Nat}(hi:i<k.length):pF m (aM k i)=true:=by
 rw [dD hi];exact List.all_eq_true.1 h _ (List.getElem_mem hi)
def aFO (l:List Pt)(m:List Ed)(n:Int)(k:List Int):List Value→Option (Bool × Value)
 |[]=>some (kK l m&&QY m k&&decide (k.length≤10000),iv (mE l m k k.length))
 |_=>none
theorem aB3 {l:List Pt}{m:List Ed}{n:Int}{k:List Int}{r:List Value}{v:Value}(h:aFO l m n k r=some (true,v)):r=[]∧kK l m=true∧QY m k=true∧k.length≤10000∧v=iv (mE l m k k.length):=by
 unfold aFO at h;split at h
 ·injection h with h;injection h with h1 h2;simp only [Bool.and_eq_true,decide_eq_true_eq] at h1;exact⟨rfl,h1.1.1,h1.1.2,h1.2,h2.symm⟩
 ·cases h
def e90 (k:List Int)(c3:Nat)(a j:Int):List (Nat × Value):=[(1,.slice (some ⟨2,0,none⟩) k.length c3),(2,.pointer (some ⟨3,0,none⟩)),(5,iv a),(6,iv j)]
def h90 (l:List Pt)(m:List Ed)(k:List Int)(c1 c2:Nat)(n:Int):Heap:=(3,aX l.length m.length c1 c2 n)::jL aQ aU aO l m k
def X90:Nat × XF:=(90,mLX aQ aU aO aFO)
theorem x90:cO Go.Proofs.Tryz.prog X90.1 X90.2:=aBA aQ aU aO (aL (xl:=[X87,aEb]) (.cons x87 (.cons aJF .nil))) fun l m n k r v hs=>by
 obtain⟨rfl,hM,hkk,hk,rfl⟩:=aB3 hs;refine⟨rfl,rfl,fun c1 c2 c3=>?_⟩;have hm:m.length≤1000:=(by simp only [kK,Bool.and_eq_true,decide_eq_true_eq] at hM;exact hM.1.2);(conv=>whnf);refine⟨fun q e h nx=>∃ (i:Nat) (j:Int),j=i∧i≤k.length∧q=k.length - i∧e=e90 k c3 (mE l m k i) j∧h=h90 l m k c1 c2 n∧nx=4,⟨k.length,?_⟩,?_⟩
 ·refine aK (e0:=e90 k c3 0 0) (h0:=h90 l m k c1 c2 n) (n0:=4) ⟨0,0,rfl,Nat.zero_le _,rfl,rfl,rfl,rfl⟩ ?_ ?_ (by decide)
  ·unfold e90;((repeat' refine iE rfl rfl ?_);exact iN)
  ·unfold h90 aX jL;((repeat'(first|refine iF rfl rfl ?_|refine iC rfl rfl rfl ?_|refine iJ rfl rfl rfl rfl ?_));exact iN)
 ·rintro q e h nx ⟨i,j,hj,hi,rfl,rfl,rfl,rfl⟩;unfold e90 h90 aX jL;((conv=>whnf);refine bm (fun h6=>?_) (fun h6=>?_))
  ·have hlt:i<k.length:=(by simp [aA,aC] at h6;omega);have hdj:=yD hkk hlt;have hf:=sT hM hdj;have ht:=GD hM hdj;have lo:=NA hM (fun i hi=>yD hkk hi) i hi;have pl:=MG hM hdj;((conv=>whnf);refine bm (fun h7=>?_) (fun h7=>?_))
   ·(conv=>whnf);refine iB (fN k (i:=i) hlt ?_) ?_
    ·show _+Int.toNat j*1=_;omega
    (conv=>whnf);refine⟨l,m,aI aQ rfl,aI aU rfl,?_⟩;((conv=>whnf);refine bm (fun h8=>?_) (fun h8=>?_))
    ·((conv=>whnf);refine bm (fun h9=>?_) (fun h9=>?_))
     ·(conv=>whnf);refine oA (jE l (i:=(cE m (aM k i)).toNat) (by omega) ?_) ?_
      ·show _+Int.toNat (cE m (aM k i))*2=_;omega
      ((conv=>whnf);refine bm (fun h10=>?_) (fun h10=>?_))
      ·(conv=>whnf);refine iB (fN k (i:=i) hlt ?_) ?_
       ·show _+Int.toNat j*1=_;omega
       (conv=>whnf);refine⟨l,m,aI aQ rfl,aI aU rfl,?_⟩;((conv=>whnf);refine bm (fun h11=>?_) (fun h11=>?_))
       ·((conv=>whnf);refine bm (fun h12=>?_) (fun h12=>?_))
        ·(conv=>whnf);refine oA (jE l (i:=(gO m (aM k i)).toNat) (by omega) ?_) ?_
         ·show _+Int.toNat (gO m (aM k i))*2=_;omega
         repeat' ((conv=>whnf);refine bm (fun h13=>?_) (fun h13=>?_))
         all_goals try (exfalso;simp [aA,aC,aH] at h13;simp only [dS] at *;omega)
         (conv=>whnf);refine⟨k.length - (i+1),by omega,?_⟩;refine aK (e0:=e90 k c3 (mE l m k i+(dS l (cE m (aM k i))).1*(dS l (gO m (aM k i))).2 - (dS l (gO m (aM k i))).1*(dS l (cE m (aM k i))).2) (j+1)) (h0:=h90 l m k c1 c2 n) (n0:=4) ⟨i+1,j+1,by omega,hlt,rfl,?_,rfl,rfl⟩ ?_ ?_ (by decide)
         ·congr 4;rw [show mE l m k (i+1)=mE l m k i+MV l m (aM k i) from rfl];unfold MV;omega
         ·unfold e90;((repeat' refine iE rfl rfl ?_);exact iN)
         ·unfold h90 aX jL;((repeat'(first|refine iF rfl rfl ?_|refine iC rfl rfl rfl ?_|refine iJ rfl rfl rfl rfl ?_));exact iN)
        ·exfalso;simp [aA,aC] at h12;omega
       ·exfalso;rw [show pF m (aM k i)=false from h11] at hdj;cases hdj
      ·exfalso;simp [aA,aC] at h10;omega
     ·exfalso;simp [aA,aC] at h9;omega
    ·exfalso;rw [show pF m (aM k i)=false from h8] at hdj;cases hdj
   ·exfalso;simp [aA,aC] at h7;omega
  ·have hge:i=k.length:=(by simp [aA,aC] at h6;omega);(conv=>whnf);rw [hge]
theorem c9 {α:Type}(E:El α)(o:List α)(x:α){n:Nat}(hn:n=o.length):((flat E.fl o).drop 0).take (n*E.sz)++E.fl x=flat E.fl (o++[x]):=by
 subst hn;rw [List.drop_zero,← bE E o,List.take_length,s8];simp [flat]
theorem m7 {i N s:Nat}{p:Prop}(hN:N=i*s)(hi:i+1≤1000000000)
  (h:aA.A.andB (aA.A.andB ((i+1).ble 1000000000) ((0+i*s).ble N)) (aA.A.andB ((0+i*s).beq N) (Nat.beq s s))=false):p:=by
 exfalso;have h1:(i+1).ble 1000000000=true:=Nat.ble_eq_true_of_le hi;have h2:(0+i*s).ble N=true:=Nat.ble_eq_true_of_le (by omega);have h3:(0+i*s).beq N=true:=(by rw [hN,Nat.zero_add];exact Nat.beq_refl _);rw [h1,h2,h3,Nat.beq_refl] at h;cases h
def evS (l:List Pt)(m:List Ed)(n:Int):List Value→YS Bool
 |[]=>some (decide (1≤m.length)&&decide (m.length≤1000),List.replicate (2*m.length) true,[])
 |_=>none
theorem aDD {l:List Pt}{m:List Ed}{n:Int}{r:List Value}{out:List Bool}{rest:List Value}(h:evS l m n r=some (true,out,rest)):r=[]∧1≤m.length∧m.length≤1000∧out=List.replicate (2*m.length) true∧rest=[]:=by
 unfold evS at h;split at h
 ·injection h with h;injection h with h1 h2;injection h2 with h2 h3;simp only [Bool.and_eq_true,decide_eq_true_eq] at h1;exact⟨rfl,h1.1,h1.2,h2.symm,h3.symm⟩
 ·cases h
def e80 (v:Value)(j:Int):List (Nat × Value):=[(1,.pointer (some ⟨2,0,none⟩)),(3,v),(4,iv j)]
def h80 (l:List Pt)(m:List Ed)(c1 c2:Nat)(n:Int):Heap:=(2,aX l.length m.length c1 c2 n)::aB aQ aU l m
def MQ (l:List Pt)(m:List Ed)(c1 c2:Nat)(n:Int)(o:List Bool):Heap:=(3,.cells true false 1 (flat fU.fl o))::(2,aX l.length m.length c1 c2 n)::aB aQ aU l m
def aFF:Nat × XF:=(80,mYX aQ aU fU evS)
theorem aKo:cO Go.Proofs.Tryz.prog aFF.1 aFF.2:=aAj aQ aU fU (aL (xl:=[]) .nil) fun l m n r out rest hs=>by
 obtain⟨rfl,h1m,hm,rfl,rfl⟩:=aDD hs;clear hs;refine⟨rfl,rfl,fun c1 c2=>?_⟩;(conv=>whnf)
 refine⟨fun q e h nx=>∃ (i:Nat) (j:Int),j=i∧i≤2*m.length∧q=2*m.length - i ∧
  ((i=0∧e=e80 (.slice none 0 0) j∧h=h80 l m c1 c2 n∧nx=3)∨(0<i∧e=e80 (.slice (some ⟨3,0,none⟩) i i) j∧h=MQ l m c1 c2 n (List.replicate i true)∧nx=4)),⟨2*m.length,?_⟩,?_⟩
 ·refine aK (e0:=e80 (.slice none 0 0) 0) (h0:=h80 l m c1 c2 n) (n0:=3) ⟨0,0,rfl,Nat.zero_le _,rfl,.inl ⟨rfl,rfl,rfl,rfl⟩⟩ ?_ ?_ (by decide)
  ·unfold e80;((repeat' refine iE rfl rfl ?_);exact iN)
  ·unfold h80 aX aB;((repeat'(first|refine iF rfl rfl ?_|refine iC rfl rfl rfl ?_|refine iJ rfl rfl rfl rfl ?_));exact iN)
 ·rintro q e h nx ⟨i,j,hj,hi,rfl,⟨hi0,rfl,rfl,rfl⟩|⟨hip,rfl,rfl,rfl⟩⟩
  ·subst hi0;unfold e80 h80 aX aB;((conv=>whnf);refine bm (fun h1=>?_) (fun h1=>?_))
   ·((conv=>whnf);refine bm (fun h2=>?_) (fun h2=>?_))
    ·((conv=>whnf);refine bm (fun h3=>?_) (fun h3=>?_))
     ·(conv=>whnf);refine⟨2*m.length - 1,by omega,?_⟩;refine iY (e0:=e80 (.slice (some ⟨3,0,none⟩) 1 1) (j+1)) (h0:=MQ l m c1 c2 n [true]) (n0:=4) 3 4 (by decide) (by decide) ⟨1,j+1,by omega,by omega,rfl,.inr ⟨Nat.one_pos,rfl,rfl,rfl⟩⟩ ?_ ?_ ?_
      ·unfold e80;((repeat' refine iE rfl rfl ?_);exact iN)
      ·unfold MQ aX aB;((repeat'(first|refine iF rfl rfl ?_|refine iC rfl rfl rfl ?_|refine iJ rfl rfl rfl rfl ?_));exact iN)
      ·unfold MQ;((repeat' refine iK rfl ?_);exact iN)
     ·exfalso;simp [aA,aC,aH] at h3;omega
    ·exfalso;simp [aA,aC] at h2;omega
   ·exfalso;simp [aA,aC,aH] at h1;omega
  ·unfold e80 MQ aX aB;((conv=>whnf);refine bm (fun h1=>?_) (fun h1=>?_))
   ·((conv=>whnf);refine bm (fun h2=>?_) (fun h2=>?_))
    ·have hlt:i<2*m.length:=(by simp [aA,aC] at h2;omega);have hll:(flat fU.fl (List.replicate i true)).length=i:=(by rw [bE,List.length_replicate];show i*1=i;omega);((conv=>whnf);refine bm (fun h3=>?_) (fun h3=>?_))
     ·exfalso;have:=Nat.le_of_ble_eq_true h3;omega
     ·((conv=>whnf);refine bm (fun h4=>?_) (fun h4=>?_))
      ·((conv=>whnf);refine bm (fun h5=>?_) (fun h5=>?_))
       ·(conv=>whnf);refine⟨2*m.length - (i+1),by omega,?_⟩
        refine iY (e0:=e80 (.slice (some ⟨3,0,none⟩) (i+1) (i+1)) (j+1)) (h0:=MQ l m c1 c2 n (List.replicate i true++[true])) (n0:=4) 3 5 (by decide) (by decide)
         ⟨i+1,j+1,by omega,by omega,rfl,.inr ⟨Nat.succ_pos _,rfl,by rw [List.replicate_succ'];rfl,rfl⟩⟩ ?_ ?_ ?_
        ·unfold e80;((repeat' refine iE rfl rfl ?_);exact iN)
        ·unfold MQ aX aB;((repeat'(first|refine iW rfl rfl (aW (aF fU _) (c9 fU (List.replicate i true) true (by rw [List.length_replicate]))) ?_|refine iF rfl rfl ?_|refine iC rfl rfl rfl ?_|refine iJ rfl rfl rfl rfl ?_));exact iN)
        ·unfold MQ;((repeat' refine iK rfl ?_);exact iN)
       ·exfalso;simp [aA,aC,aH] at h5;omega
      ·exfalso;exact m7 (s:=1) (by omega) (by omega) h4
    ·have hge:i=2*m.length:=(by simp [aA,aC] at h2;omega);subst hge;(conv=>whnf);refine⟨3,?_,rfl⟩;show _=Value.slice _ _ _;rw [List.length_replicate]
   ·exfalso;simp [aA,aC,aH] at h1;omega
def o8 (f:Int→Int)(d:Int):Nat→Int
 |0=>f d
 |i+1=>f (o8 f d i)
def mF (f:Int→Int)(d:Int)(N i:Nat):Bool:=(!decide (o8 f d i=d))&&(decide (0≤o8 f d i)&&decide (i≤N))
def sJ (f:Int→Int)(d:Int)(N:Nat):Nat→Nat→Nat
 |0,i=>i
 |k+1,i=>if mF f d N i=true then sJ f d N k (i+1) else i
def B9 (f:Int→Int)(d:Int)(i:Nat):List Int:=d::(List.range i).map (o8 f d)
theorem nX (f:Int→Int)(d:Int)(i:Nat):(B9 f d i).length=i+1:=by simp [B9]
theorem aGl (f:Int→Int)(d:Int)(i:Nat):B9 f d (i+1)=B9 f d i++[o8 f d i]:=by
 unfold B9;rw [List.range_succ,List.map_append];rfl
def E3 (l:List Pt)(m:List Ed)(k:List Bool)(d:Int):Int:=fS l m k d (2*m.length)
def kG (l:List Pt)(m:List Ed)(k:List Bool)(d:Int):List Int:=B9 (E3 l m k) d (sJ (E3 l m k) d (2*m.length) (2*m.length+2) 0)
def rnS (l:List Pt)(m:List Ed)(n:Int)(k:List Bool):List Value→YS Int
 |[.int .i64 d]=>some (kK l m&&pF m d&&decide (k.length=2*m.length),kG l m k d,[])
 |_=>none
theorem aCZ {l:List Pt}{m:List Ed}{n:Int}{k:List Bool}{r:List Value}{out:List Int}{rest:List Value}(h:rnS l m n k r=some (true,out,rest)):∃ d,r=[iv d]∧kK l m=true∧pF m d=true∧k.length=2*m.length∧out=kG l m k d∧rest=[]:=by
 unfold rnS at h;split at h
 ·rename_i d;injection h with h;injection h with h1 h2;injection h2 with h2 h3;simp only [Bool.and_eq_true,decide_eq_true_eq] at h1;exact⟨d,rfl,h1.1.1,h1.1.2,h1.2,h2.symm,h3.symm⟩
 ·cases h
def V6 (k:List Bool)(c3:Nat)(d x j:Int)(z:Nat):List (Nat × Value):=[(1,iv d),(2,.slice (some ⟨2,0,none⟩) k.length c3),(3,.pointer (some ⟨3,0,none⟩)),(7,.slice (some ⟨4,0,none⟩) z z),(8,iv x),(9,iv j)]
def QU (l:List Pt)(m:List Ed)(k:List Bool)(c1 c2:Nat)(n:Int)(o:List Int):Heap:=(4,.cells true false 1 (flat aO.fl o))::(3,aX l.length m.length c1 c2 n)::jL aQ aU fU l m k
theorem FH {f:Int→Int}{d:Int}{N k i:Nat}(h:mF f d N i=false):sJ f d N k i=i:=by
 cases k with
 |zero=>rfl
 |succ k=>simp [sJ,h]
def aAm:Nat × XF:=(144,aIv aQ aU fU aO rnS)
theorem aIS:cO Go.Proofs.Tryz.prog aAm.1 aAm.2:=aDi aQ aU fU aO (aL (xl:=[X79]) (.cons x79 .nil)) fun l m n k r out rest hs=>by
 obtain⟨d,rfl,hM,hd,hk,rfl,rfl⟩:=aCZ hs;clear hs;refine⟨rfl,rfl,fun c1 c2 c3=>?_⟩;have hm:m.length≤1000:=(by simp only [kK,Bool.and_eq_true,decide_eq_true_eq] at hM;exact hM.1.2);unfold kG;obtain⟨f,hf⟩:∃ f,f=E3 l m k:=⟨_,rfl⟩;have hfl:∀ x,-1≤f x∧f x<2*m.length:=fun x=>(by rw [hf];have:=xQ l m k x (2*m.length);unfold E3;omega);have hfx:∀ x,fS l m k x (2*m.length)=f x:=fun x=>(by rw [hf];rfl);rw [← hf];(conv=>whnf);refine⟨_,_,_,[iv d],_,l,m,k,rfl,aI aQ rfl,aI aU rfl,aI fU rfl,?_⟩;((conv=>whnf);refine bm (fun h1=>?_) (fun h1=>?_))
 ·(conv=>whnf);refine⟨fun q e h nx=>∃ (i:Nat) (j:Int),j=i∧i≤2*m.length+1∧q=2*m.length+1 - i∧sJ f d (2*m.length) (2*m.length+2) 0=sJ f d (2*m.length) (2*m.length+2 - i) i∧e=V6 k c3 d (o8 f d i) j (i+1)∧h=QU l m k c1 c2 n (B9 f d i)∧nx=5,⟨2*m.length+1,?_⟩,?_⟩
  ·refine aK (e0:=V6 k c3 d (fS l m k d (2*m.length)) 0 1) (h0:=QU l m k c1 c2 n [d]) (n0:=5) ⟨0,0,rfl,Nat.zero_le _,rfl,rfl,by rw [hfx];rfl,rfl,rfl⟩ ?_ ?_ (by decide)
   ·unfold V6;((repeat' refine iE rfl rfl ?_);exact iN)
   ·unfold QU aX jL;((repeat'(first|refine iF rfl rfl ?_|refine iC rfl rfl rfl ?_|refine iJ rfl rfl rfl rfl ?_));exact iN)
  ·rintro q e h nx ⟨i,j,hj,hi,rfl,hb,rfl,rfl,rfl⟩;have hx : -1≤o8 f d i∧o8 f d i<2*m.length:=(by cases i <;> exact hfl _);unfold V6 QU aX jL;have hll:(flat aO.fl (B9 f d i)).length=i+1:=(by rw [bE,nX];exact Nat.mul_one _);((conv=>whnf);refine bm (fun h2=>?_) (fun h2=>?_))
   ·have h2:o8 f d i≠d:=(by simpa [aA,aC] using h2);((conv=>whnf);refine bm (fun h3=>?_) (fun h3=>?_))
    ·have h3:0≤o8 f d i:=(by simpa [aA,aC] using h3);((conv=>whnf);refine bm (fun h4=>?_) (fun h4=>?_))
     ·((conv=>whnf);refine bm (fun h5=>?_) (fun h5=>?_))
      ·have h5:i≤2*m.length:=(by simp [aA,aC] at h5;omega);have hgo:mF f d (2*m.length) i=true:=(by simp [mF,h2,h3,h5]);((conv=>whnf);refine bm (fun h6=>?_) (fun h6=>?_))
       ·exfalso;have:=Nat.le_of_ble_eq_true h6;omega
       ·((conv=>whnf);refine bm (fun h7=>?_) (fun h7=>?_))
        ·(conv=>whnf);have hdx:pF m (o8 f d i)=true:=(by simp only [pF,Bool.and_eq_true,decide_eq_true_eq];omega);refine⟨_,_,_,[iv (o8 f d i)],_,l,m,k,rfl,aI aQ rfl,aI aU rfl,aI fU rfl,?_⟩;((conv=>whnf);refine bm (fun h8=>?_) (fun h8=>?_))
         ·((conv=>whnf);refine bm (fun h9=>?_) (fun h9=>?_))
          ·(conv=>whnf);refine⟨2*m.length+1 - (i+1),by omega,?_⟩
           refine iY (e0:=V6 k c3 d (fS l m k (o8 f d i) (2*m.length)) (j+1) (i+1+1)) (h0:=QU l m k c1 c2 n (B9 f d i++[o8 f d i])) (n0:=5) 4 6 (by decide) (by decide)
            ⟨i+1,j+1,by omega,by omega,rfl,?_,by rw [hfx];rfl,by rw [aGl];rfl,rfl⟩ ?_ ?_ ?_
           ·rw [hb,show 2*m.length+2 - i=(2*m.length+2 - (i+1))+1 by omega]
            conv=>lhs;unfold sJ
            rw [if_pos hgo]
           ·unfold V6;((repeat' refine iE rfl rfl ?_);exact iN)
           ·unfold QU aX jL;((repeat'(first|refine iW rfl rfl (aW (aF aO _) (c9 aO (B9 f d i) (o8 f d i) (nX f d i).symm)) ?_|refine iF rfl rfl ?_|refine iC rfl rfl rfl ?_|refine iJ rfl rfl rfl rfl ?_));exact iN)
           ·unfold QU;((repeat' refine iK rfl ?_);exact iN)
          ·exfalso;simp [aA,aC,aH] at h9;omega
         ·exfalso;have h8:(kK l m&&pF m (o8 f d i)&&decide (k.length=2*m.length))=false:=h8;rw [hM,hdx,decide_eq_true hk] at h8;cases h8
        ·exact m7 (i:=i+1) (s:=1) (by omega) (by omega) h7
      ·have h5:¬ i≤2*m.length:=(by simp [aA,aC] at h5;omega);(conv=>whnf);rw [hb,FH (show mF f d (2*m.length) i=false from ?_)]
       ·refine⟨4,?_,rfl⟩;show _=Value.slice _ _ _;rw [nX]
       ·simp [mF,h5]
     ·exfalso;simp [aA,aC,aH] at h4;omega
    ·have h3:¬ 0≤o8 f d i:=(by simpa [aA,aC] using h3);(conv=>whnf);rw [hb,FH (show mF f d (2*m.length) i=false from ?_)]
     ·refine⟨4,?_,rfl⟩;show _=Value.slice _ _ _;rw [nX]
     ·simp [mF,h3]
   ·have h2:o8 f d i=d:=(by simpa [aA,aC] using h2);(conv=>whnf);rw [hb,FH (show mF f d (2*m.length) i=false from ?_)]
    ·refine⟨4,?_,rfl⟩;show _=Value.slice _ _ _;rw [nX]
    ·simp [mF,h2]
 ·exfalso;have h1:(kK l m&&pF m d&&decide (k.length=2*m.length))=false:=h1;rw [hM,hd,decide_eq_true hk] at h1;cases h1
theorem TJ {f:Int→Int}{d:Int}{N:Nat}:∀ {k i t:Nat},i≤t→t<sJ f d N k i→mF f d N t=true
 |0,i,t,h1,h2=>by simp only [sJ] at h2;omega
 |k+1,i,t,h1,h2=>by
  simp only [sJ] at h2;split at h2
  ·rename_i hg;by_cases ht:t=i
   ·rw [ht];exact hg
   ·exact TJ (k:=k) (i:=i+1) (by omega) h2
  ·omega
theorem OG {f:Int→Int}{d:Int}{N:Nat}:∀ {k i:Nat},sJ f d N k i≤i+k
 |0,i=>by simp only [sJ];omega
 |k+1,i=>by
  simp only [sJ];split
  ·have:=OG (f:=f) (d:=d) (N:=N) (k:=k) (i:=i+1);omega
  ·omega
theorem QI (l:List Pt)(m:List Ed)(k:List Bool)(d:Int):(kG l m k d).length≤2*m.length+3:=by
 unfold kG;rw [nX];have:=OG (f:=E3 l m k) (d:=d) (N:=2*m.length) (k:=2*m.length+2) (i:=0);omega
theorem aA0 (l:List Pt)(m:List Ed)(k:List Bool)(d:Int) : -1≤E3 l m k d∧E3 l m k d<2*m.length:=by
 have:=xQ l m k d (2*m.length);unfold E3;omega
theorem WZ {l:List Pt}{m:List Ed}{k:List Bool}{d:Int}(hm:m.length≤1000)(hd:pF m d=true):QY m (kG l m k d)=true:=by
 unfold QY kG B9;rw [List.all_cons,hd,Bool.true_and,List.all_eq_true];intro x hx;obtain⟨t,ht,rfl⟩:=List.mem_map.1 hx;have hg:=TJ (Nat.zero_le t) (List.mem_range.1 ht);simp only [mF,Bool.and_eq_true,decide_eq_true_eq] at hg;have:o8 (E3 l m k) d t<2*m.length:=(by cases t <;> exact (aA0 l m k _).2);simp only [pF,Bool.and_eq_true,decide_eq_true_eq];omega
theorem RY (l:List Pt)(m:List Ed)(k:List Bool)(d:Int):0<(kG l m k d).length:=by
 unfold kG;rw [nX];omega
def dQ (of w:List Int)(face:Int):Nat→List Int
 |0=>of
 |i+1=>(dQ of w face i).set (aM w i).toNat face
theorem eX (of w:List Int)(face:Int):∀ i,(dQ of w face i).length=of.length
 |0=>rfl
 |i+1=>by unfold dQ;rw [List.length_set];exact eX of w face i
structure Fst where
 of:List Int
 faces:Int
 outside:Int
 ok:Bool
def oW (l:List Pt)(m:List Ed)(s:Fst)(d:Nat):Fst :=
 if 0≤aM s.of d then s else
  let w:=kG l m (List.replicate (2*m.length) true) d;let a:=mE l m w w.length;let fc:=if 0<a then s.faces+1 else 0
  ⟨dQ s.of w fc w.length,if 0<a then s.faces+1 else s.faces,if a<0 then s.outside+1 else s.outside,if a=0 then false else s.ok⟩
def jR (l:List Pt)(m:List Ed):Nat→Fst
 |0=>⟨List.replicate (2*m.length) (-1),0,0,true⟩
 |d+1=>oW l m (jR l m d) d
def eN (l:List Pt)(m:List Ed):Fst:=jR l m (2*m.length)
def K2 (s:Fst):Bool:=s.ok&&(decide (s.outside=1)&&decide (1≤s.faces))
theorem tS (l:List Pt)(m:List Ed):∀ d,(jR l m d).of.length=2*m.length
 |0=>by simp [jR]
 |d+1=>by
  unfold jR oW;split
  ·exact tS l m d
  ·simp only [eX];exact tS l m d
theorem H7 (l:List Pt)(m:List Ed):∀ d:Nat,0≤(jR l m d).faces∧(jR l m d).faces≤d∧0≤(jR l m d).outside∧(jR l m d).outside≤d
 |0=>by simp [jR]
 |d+1=>by
  have:=H7 l m d;unfold jR oW;split
  ·omega
  ·simp only;split <;> split <;> omega
end Go.Aw
end
