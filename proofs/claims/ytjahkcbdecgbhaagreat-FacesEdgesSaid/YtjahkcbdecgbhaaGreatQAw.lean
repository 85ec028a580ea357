/-
  Parts of the proof, put together. No condition.
-/
import Derived.Test.YtjahkcbdecgbhaaGreatQAu
import Derived.Test.YtjahkcbdecgbhaaGreatQAv
set_option linter.unusedSimpArgs false
set_option linter.unusedVariables false
noncomputable section
namespace Go.Aw
set_option maxRecDepth 100000
def fT:El Bool:=⟨fun b=>[.bool b],1,fun _=>rfl,fun _=>rfl,by decide⟩
def cV (k:List Bool)(i:Nat):Bool:=k.getD i false
theorem rC {k:List Bool}{i:Nat}(h:i<k.length):cV k i=k[i]:=by
 unfold cV;rw [List.getD_eq_getElem?_getD,List.getElem?_eq_getElem h];rfl
theorem M7 (k:List Bool){i o:Nat}(hi:i<k.length)(ho:o=i*1):nth (flat fT.fl k) o=some (.bool (cV k i)):=by
 rw [rC hi];exact kL fT k hi (k:=0) rfl Nat.one_pos (by rw [ho];rfl)
def dQ (l:List Pt)(i:Int):Pt:=dL l i.toNat
def oE (l:List Pt)(m:List Ed):Bool:=l.all wide&&m.all (fun e=>decide (0≤e.a)&&decide (e.a<l.length)&&decide (0≤e.b)&&decide (e.b<l.length))&&decide (m.length≤1000)&&decide (l.length≤1000)
theorem rG {l:List Pt}{m:List Ed}(h:oE l m=true){i:Nat}(hi:i<m.length):0≤(cN m i).a∧(cN m i).a<l.length∧0≤(cN m i).b∧(cN m i).b<l.length:=by
 simp only [oE,Bool.and_eq_true] at h;have:=List.all_eq_true.1 h.1.1.2 _ (List.getElem_mem hi);rw [JQ hi];simp only [Bool.and_eq_true,decide_eq_true_eq] at this;omega
theorem tI {l:List Pt}{m:List Ed}(h:oE l m=true){d:Int}(hd:o5 m d=true):0≤cD m d∧cD m d<l.length:=by
 simp only [o5,Bool.and_eq_true,decide_eq_true_eq] at hd;have:=rG h (i:=(d / 2).toNat) (by omega);unfold cD;split <;> omega
theorem E5 {l:List Pt}{m:List Ed}(h:oE l m=true){d:Int}(hd:o5 m d=true):0≤gQ m d∧gQ m d<l.length:=tI h (Y7 hd)
theorem pK {l:List Pt}{m:List Ed}(h:oE l m=true){i:Int}(h0:0≤i)(h1:i<l.length):wide (dQ l i)=true:=by
 simp only [oE,Bool.and_eq_true] at h;unfold dQ;rw [kE (by omega)];exact List.all_eq_true.1 h.1.1.1 _ (List.getElem_mem _)
def fU (l:List Pt)(m:List Ed)(k:List Bool)(d:Int):Nat→Int
 |0=>-1
 |j+1=>if (cV k j=true∧cD m j=gQ m d)∧(fU l m k d j<0∨pN (dQ l (gQ m d)) (dQ l (cD m d)) (dQ l (gQ m j)) (dQ l (gQ m (fU l m k d j)))=true) then j else fU l m k d j
theorem yL (l:List Pt)(m:List Ed)(k:List Bool)(d:Int):∀ j:Nat,-1≤fU l m k d j∧fU l m k d j<j
 |0=>by unfold fU;omega
 |j+1=>by
  have:=yL l m k d j;unfold fU;split <;> omega
theorem aBV {l:List Pt}{m:List Ed}{k:List Bool}{d:Int}{j:Nat}(h:¬ ((cV k j=true∧cD m j=gQ m d)∧(fU l m k d j<0∨pN (dQ l (gQ m d)) (dQ l (cD m d)) (dQ l (gQ m j)) (dQ l (gQ m (fU l m k d j)))=true))):fU l m k d (j+1)=fU l m k d j:=by
 conv=>lhs;unfold fU
 exact if_neg h
theorem aGZ {l:List Pt}{m:List Ed}{k:List Bool}{d:Int}{j:Nat}(h:((cV k j=true∧cD m j=gQ m d)∧(fU l m k d j<0∨pN (dQ l (gQ m d)) (dQ l (cD m d)) (dQ l (gQ m j)) (dQ l (gQ m (fU l m k d j)))=true))):fU l m k d (j+1)=j:=by
 conv=>lhs;unfold fU
 exact if_pos h
def aFS (l:List Pt)(m:List Ed)(n:Int)(k:List Bool):List Value→Option (Bool × Value)
 |[.int .i64 d]=>some (oE l m&&o5 m d&&decide (k.length=2*m.length),iv (fU l m k d (2*m.length)))
 |_=>none
theorem aAf {l:List Pt}{m:List Ed}{n:Int}{k:List Bool}{r:List Value}{v:Value}(h:aFS l m n k r=some (true,v)):∃ d,r=[iv d]∧oE l m=true∧o5 m d=true∧k.length=2*m.length∧v=iv (fU l m k d (2*m.length)):=by
 unfold aFS at h;split at h
 ·rename_i d;injection h with h;injection h with h1 h2;simp only [Bool.and_eq_true,decide_eq_true_eq] at h1;exact⟨d,rfl,h1.1.1,h1.1.2,h1.2,h2.symm⟩
 ·cases h
def aW (a b:Nat)(c1 c2:Nat)(n:Int):aV:=.cells true false 1 [.slice (some ⟨0,0,none⟩) a c1,.slice (some ⟨1,0,none⟩) b c2,iv n]
def VK (k:List Bool)(c3:Nat)(d at_ best j:Int):List (Nat × Value):=[(2,.slice (some ⟨2,0,none⟩) k.length c3),(3,.pointer (some ⟨3,0,none⟩)),(7,.pointer (some ⟨4,0,none⟩)),(8,iv at_),(9,.pointer (some ⟨5,0,none⟩)),(10,iv best),(11,iv j)]
def TC (l:List Pt)(m:List Ed)(k:List Bool)(c1 c2:Nat)(n:Int)(u v:Pt):Heap:=(5,.cells true false 1 [iv v.1,iv v.2])::(4,.cells true false 1 [iv u.1,iv u.2])::(3,aW l.length m.length c1 c2 n)::eF aP aR fT l m k
def X79:Nat × XF:=(79,mLX aP aR fT aFS)
theorem x79:cJ Go.Proofs.Tryz.prog X79.1 X79.2:=J6 aP aR fT (aK (xl:=[X87,aCd,aGM]) (.cons x87 (.cons aIu (.cons aLx .nil)))) fun l m n k r v hs=>by
 obtain⟨d,rfl,hM,hd,hk,rfl⟩:=aAf hs;refine⟨rfl,rfl,fun c1 c2 c3=>?_⟩;have hf:=tI hM hd;have ht:=E5 hM hd;have hm:m.length≤1000:=(by simp only [oE,Bool.and_eq_true,decide_eq_true_eq] at hM;exact hM.1.2);(conv=>whnf);refine⟨l,m,aD aP rfl,aD aR rfl,?_⟩;((conv=>whnf);refine bm (fun h1=>?_) (fun h1=>?_))
 ·((conv=>whnf);refine bm (fun h2=>?_) (fun h2=>?_))
  ·(conv=>whnf);refine mR (jE l (i:=(cD m d).toNat) (by omega) ?_) ?_
   ·show _+Int.toNat (cD m d)*2=_;omega
   (conv=>whnf);refine⟨l,m,aD aP rfl,aD aR rfl,?_⟩;((conv=>whnf);refine bm (fun h3=>?_) (fun h3=>?_))
   ·((conv=>whnf);refine bm (fun h4=>?_) (fun h4=>?_))
    ·(conv=>whnf);refine mR (jE l (i:=(gQ m d).toNat) (by omega) ?_) ?_
     ·show _+Int.toNat (gQ m d)*2=_;omega
     (conv=>whnf);refine⟨fun q e h nx=>∃ (i:Nat) (j:Int),j=i∧i≤2*m.length∧q=2*m.length - i∧e=VK k c3 d (gQ m d) (fU l m k d i) j∧h=TC l m k c1 c2 n (dQ l (cD m d)) (dQ l (gQ m d))∧nx=6,⟨2*m.length,?_⟩,?_⟩
     ·refine aL (e0:=VK k c3 d (gQ m d) (-1) 0) (h0:=TC l m k c1 c2 n (dQ l (cD m d)) (dQ l (gQ m d))) (n0:=6) ⟨0,0,rfl,Nat.zero_le _,rfl,rfl,rfl,rfl⟩ ?_ ?_ (by decide)
      ·unfold VK;((repeat' refine iE rfl rfl ?_);exact iN)
      ·unfold TC aW eF;((repeat'(first|refine iF rfl rfl ?_|refine iC rfl rfl rfl ?_|refine iJ rfl rfl rfl rfl ?_));exact iN)
     ·rintro q e h nx ⟨i,j,hj,hi,rfl,rfl,rfl,rfl⟩;unfold VK TC aW eF;have lo:=yL l m k d i;((conv=>whnf);refine bm (fun h5=>?_) (fun h5=>?_))
      ·((conv=>whnf);refine bm (fun h6=>?_) (fun h6=>?_))
       ·have hlt:i<2*m.length:=(by simp [aA,aB] at h6;omega);have hdj:o5 m j=true:=(by simp only [o5,Bool.and_eq_true,decide_eq_true_eq];omega);have hfj:=tI hM hdj;have htj:=E5 hM hdj;((conv=>whnf);refine bm (fun h7=>?_) (fun h7=>?_))
        ·(conv=>whnf);refine fY (M7 k (i:=i) (by omega) ?_) ?_
         ·show _+Int.toNat j*1=_;omega
         ((conv=>whnf);refine bm (fun h8=>?_) (fun h8=>?_))
         ·(conv=>whnf);refine⟨l,m,aD aP rfl,aD aR rfl,?_⟩;((conv=>whnf);refine bm (fun h9=>?_) (fun h9=>?_))
          ·((conv=>whnf);refine bm (fun h10=>?_) (fun h10=>?_))
           ·have h10:cD m j≠gQ m d:=(by simpa [aA,aB] using h10);((conv=>whnf);refine bm (fun h11=>?_) (fun h11=>?_))
            ·(conv=>whnf);refine⟨2*m.length - (i+1),by omega,?_⟩;refine aL (e0:=VK k c3 d (gQ m d) (fU l m k d i) (j+1)) (h0:=TC l m k c1 c2 n (dQ l (cD m d)) (dQ l (gQ m d))) (n0:=6) ⟨i+1,j+1,by omega,by omega,rfl,?_,rfl,rfl⟩ ?_ ?_ (by decide)
             ·rw [aBV (fun hh=>h10 (by rw [hj];exact hh.1.2))];rfl
             ·unfold VK;((repeat' refine iE rfl rfl ?_);exact iN)
             ·unfold TC aW eF;((repeat'(first|refine iF rfl rfl ?_|refine iC rfl rfl rfl ?_|refine iJ rfl rfl rfl rfl ?_));exact iN)
            ·exfalso;simp [aA,aB,aH] at h11;omega
           ·have h10:cD m j=gQ m d:=(by simpa [aA,aB] using h10);(conv=>whnf);refine⟨l,m,aD aP rfl,aD aR rfl,?_⟩;((conv=>whnf);refine bm (fun h11=>?_) (fun h11=>?_))
            ·((conv=>whnf);refine bm (fun h12=>?_) (fun h12=>?_))
             ·(conv=>whnf);refine mR (jE l (i:=(gQ m j).toNat) (by omega) ?_) ?_
              ·show _+Int.toNat (gQ m j)*2=_;omega
              have h8:cV k i=true:=(by simpa [aA,aB] using h8);have h10':cD m i=gQ m d:=(by rw [← hj];exact h10);((conv=>whnf);refine bm (fun h13=>?_) (fun h13=>?_))
              ·have h13:¬ fU l m k d i<0:=(by simpa [aA,aB] using h13);have hdb:o5 m (fU l m k d i)=true:=(by simp only [o5,Bool.and_eq_true,decide_eq_true_eq];omega);have htb:=E5 hM hdb;(conv=>whnf);refine⟨l,m,aD aP rfl,aD aR rfl,?_⟩;((conv=>whnf);refine bm (fun h14=>?_) (fun h14=>?_))
               ·((conv=>whnf);refine bm (fun h15=>?_) (fun h15=>?_))
                ·(conv=>whnf);refine mR (jE l (i:=(gQ m (fU l m k d i)).toNat) (by omega) ?_) ?_
                 ·show _+Int.toNat (gQ m (fU l m k d i))*2=_;omega
                 ((conv=>whnf);refine bm (fun h16=>?_) (fun h16=>?_))
                 ·((conv=>whnf);refine bm (fun h17=>?_) (fun h17=>?_))
                  ·have h17:pN (dQ l (gQ m d)) (dQ l (cD m d)) (dQ l (gQ m i)) (dQ l (gQ m (fU l m k d i)))=true:=(by rw [← hj];exact h17);((conv=>whnf);refine bm (fun h18=>?_) (fun h18=>?_))
                   ·(conv=>whnf);refine⟨2*m.length - (i+1),by omega,?_⟩;refine aL (e0:=VK k c3 d (gQ m d) (j) (j+1)) (h0:=TC l m k c1 c2 n (dQ l (cD m d)) (dQ l (gQ m d))) (n0:=6) ⟨i+1,j+1,by omega,by omega,rfl,?_,rfl,rfl⟩ ?_ ?_ (by decide)
                    ·rw [aGZ ⟨⟨h8,h10'⟩,.inr h17⟩,hj];rfl
                    ·unfold VK;((repeat' refine iE rfl rfl ?_);exact iN)
                    ·unfold TC aW eF;((repeat'(first|refine iF rfl rfl ?_|refine iC rfl rfl rfl ?_|refine iJ rfl rfl rfl rfl ?_));exact iN)
                   ·exfalso;simp [aA,aB,aH] at h18;omega
                  ·have h17:¬ pN (dQ l (gQ m d)) (dQ l (cD m d)) (dQ l (gQ m i)) (dQ l (gQ m (fU l m k d i)))=true:=(by rw [← hj];exact fun hh=>Bool.false_ne_true (h17.symm.trans hh));((conv=>whnf);refine bm (fun h18=>?_) (fun h18=>?_))
                   ·(conv=>whnf);refine⟨2*m.length - (i+1),by omega,?_⟩;refine aL (e0:=VK k c3 d (gQ m d) (fU l m k d i) (j+1)) (h0:=TC l m k c1 c2 n (dQ l (cD m d)) (dQ l (gQ m d))) (n0:=6) ⟨i+1,j+1,by omega,by omega,rfl,?_,rfl,rfl⟩ ?_ ?_ (by decide)
                    ·rw [aBV (fun hh=>hh.2.elim h13 h17)];rfl
                    ·unfold VK;((repeat' refine iE rfl rfl ?_);exact iN)
                    ·unfold TC aW eF;((repeat'(first|refine iF rfl rfl ?_|refine iC rfl rfl rfl ?_|refine iJ rfl rfl rfl rfl ?_));exact iN)
                   ·exfalso;simp [aA,aB,aH] at h18;omega
                 ·exfalso;have e1:=pK hM ht.1 ht.2;have e2:=pK hM hf.1 hf.2;have e3:=pK hM htj.1 htj.2;have e4:=pK hM htb.1 htb.2;have h16:(wide (dQ l (gQ m d))&&wide (dQ l (cD m d))&&wide (dQ l (gQ m j))&&wide (dQ l (gQ m (fU l m k d i))))=false:=h16;rw [e1,e2,e3,e4] at h16;cases h16
                ·exfalso;simp [aA,aB] at h15;omega
               ·exfalso;rw [show o5 m (fU l m k d i)=false from h14] at hdb;cases hdb
              ·have h13:fU l m k d i<0:=(by simpa [aA,aB] using h13);((conv=>whnf);refine bm (fun h18=>?_) (fun h18=>?_))
               ·(conv=>whnf);refine⟨2*m.length - (i+1),by omega,?_⟩;refine aL (e0:=VK k c3 d (gQ m d) (j) (j+1)) (h0:=TC l m k c1 c2 n (dQ l (cD m d)) (dQ l (gQ m d))) (n0:=6) ⟨i+1,j+1,by omega,by omega,rfl,?_,rfl,rfl⟩ ?_ ?_ (by decide)
                ·rw [aGZ ⟨⟨h8,h10'⟩,.inl h13⟩,hj];rfl
                ·unfold VK;((repeat' refine iE rfl rfl ?_);exact iN)
                ·unfold TC aW eF;((repeat'(first|refine iF rfl rfl ?_|refine iC rfl rfl rfl ?_|refine iJ rfl rfl rfl rfl ?_));exact iN)
               ·exfalso;simp [aA,aB,aH] at h18;omega
             ·exfalso;simp [aA,aB] at h12;omega
            ·exfalso;rw [show o5 m j=false from h11] at hdj;cases hdj
          ·exfalso;rw [show o5 m j=false from h9] at hdj;cases hdj
         ·have h8:cV k i=false:=(by simpa [aA,aB] using h8);((conv=>whnf);refine bm (fun h11=>?_) (fun h11=>?_))
          ·(conv=>whnf);refine⟨2*m.length - (i+1),by omega,?_⟩;refine aL (e0:=VK k c3 d (gQ m d) (fU l m k d i) (j+1)) (h0:=TC l m k c1 c2 n (dQ l (cD m d)) (dQ l (gQ m d))) (n0:=6) ⟨i+1,j+1,by omega,by omega,rfl,?_,rfl,rfl⟩ ?_ ?_ (by decide)
           ·rw [aBV (fun hh=>by rw [h8] at hh;cases hh.1.1)];rfl
           ·unfold VK;((repeat' refine iE rfl rfl ?_);exact iN)
           ·unfold TC aW eF;((repeat'(first|refine iF rfl rfl ?_|refine iC rfl rfl rfl ?_|refine iJ rfl rfl rfl rfl ?_));exact iN)
          ·exfalso;simp [aA,aB,aH] at h11;omega
        ·exfalso;simp [aA,aB] at h7;omega
       ·have hge:i=2*m.length:=(by simp [aA,aB] at h6;omega);(conv=>whnf);rw [hge]
      ·exfalso;simp [aA,aB,aH] at h5;omega
    ·exfalso;simp [aA,aB] at h4;omega
   ·exfalso;rw [show o5 m d=false from h3] at hd;cases hd
  ·exfalso;simp [aA,aB] at h2;omega
 ·exfalso;rw [show o5 m d=false from h1] at hd;cases hd
def aN (k:List Int)(i:Nat):Int:=k.getD i 0
theorem gP {k:List Int}{i:Nat}(h:i<k.length):aN k i=k[i]:=by
 unfold aN;rw [List.getD_eq_getElem?_getD,List.getElem?_eq_getElem h];rfl
theorem fR (k:List Int){i o:Nat}(hi:i<k.length)(ho:o=i*1):nth (flat aO.fl k) o=some (iv (aN k i)):=by
 rw [gP hi];exact kL aO k hi (k:=0) rfl Nat.one_pos (by rw [ho];rfl)
def M3 (l:List Pt)(m:List Ed)(d:Int):Int:=(dQ l (cD m d)).1*(dQ l (gQ m d)).2 - (dQ l (gQ m d)).1*(dQ l (cD m d)).2
def mE (l:List Pt)(m:List Ed)(k:List Int):Nat→Int
 |0=>0
 |i+1=>mE l m k i+M3 l m (aN k i)
theorem M5 {p:Pt}(h:wide p=true) : -1000000≤p.1∧p.1≤1000000∧-1000000≤p.2∧p.2≤1000000:=by
 simp only [wide,Bool.and_eq_true,decide_eq_true_eq] at h;omega
theorem OH {l:List Pt}{m:List Ed}(hM:oE l m=true){d:Int}(hd:o5 m d=true) :
  -1000000000000≤(dQ l (cD m d)).1*(dQ l (gQ m d)).2∧(dQ l (cD m d)).1*(dQ l (gQ m d)).2≤1000000000000∧-1000000000000≤(dQ l (gQ m d)).1*(dQ l (cD m d)).2∧(dQ l (gQ m d)).1*(dQ l (cD m d)).2≤1000000000000:=by
 have hf:=tI hM hd;have ht:=E5 hM hd;have w1:=M5 (pK hM hf.1 hf.2);have w2:=M5 (pK hM ht.1 ht.2);have m1:=u9 (a:=(dQ l (cD m d)).1) (b:=(dQ l (gQ m d)).2) (A:=1000000) (B:=1000000) (by omega) (by omega) (by omega) (by omega);have m2:=u9 (a:=(dQ l (gQ m d)).1) (b:=(dQ l (cD m d)).2) (A:=1000000) (B:=1000000) (by omega) (by omega) (by omega) (by omega);omega
theorem OT {l:List Pt}{m:List Ed}{k:List Int}(hM:oE l m=true)(hk:∀ i,i<k.length→o5 m (aN k i)=true):∀ i,i≤k.length→-2000000000000*(i:Int)≤mE l m k i∧mE l m k i≤2000000000000*(i:Int)
 |0,_=>by unfold mE;omega
 |i+1,hi=>by
  have h1:=OT hM hk i (by omega);have h2:=OH hM (hk i (by omega));unfold mE M3;omega
def RE (m:List Ed)(k:List Int):Bool:=k.all (o5 m)
theorem xV {m:List Ed}{k:List Int}(h:RE m k=true){i:Nat}(hi:i<k.length):o5 m (aN k i)=true:=by
 rw [gP hi];exact List.all_eq_true.1 h _ (List.getElem_mem hi)
def aGN (l:List Pt)(m:List Ed)(n:Int)(k:List Int):List Value→Option (Bool × Value)
 |[]=>some (oE l m&&RE m k&&decide (k.length≤10000),iv (mE l m k k.length))
 |_=>none
theorem Y9 {l:List Pt}{m:List Ed}{n:Int}{k:List Int}{r:List Value}{v:Value}(h:aGN l m n k r=some (true,v)):r=[]∧oE l m=true∧RE m k=true∧k.length≤10000∧v=iv (mE l m k k.length):=by
 unfold aGN at h;split at h
 ·injection h with h;injection h with h1 h2;simp only [Bool.and_eq_true,decide_eq_true_eq] at h1;exact⟨rfl,h1.1.1,h1.1.2,h1.2,h2.symm⟩
 ·cases h
def e90 (k:List Int)(c3:Nat)(a j:Int):List (Nat × Value):=[(1,.slice (some ⟨2,0,none⟩) k.length c3),(2,.pointer (some ⟨3,0,none⟩)),(5,iv a),(6,iv j)]
def h90 (l:List Pt)(m:List Ed)(k:List Int)(c1 c2:Nat)(n:Int):Heap:=(3,aW l.length m.length c1 c2 n)::eF aP aR aO l m k
def X90:Nat × XF:=(90,mLX aP aR aO aGN)
theorem x90:cJ Go.Proofs.Tryz.prog X90.1 X90.2:=J6 aP aR aO (aK (xl:=[X87,aCd]) (.cons x87 (.cons aIu .nil))) fun l m n k r v hs=>by
 obtain⟨rfl,hM,hkk,hk,rfl⟩:=Y9 hs;refine⟨rfl,rfl,fun c1 c2 c3=>?_⟩;have hm:m.length≤1000:=(by simp only [oE,Bool.and_eq_true,decide_eq_true_eq] at hM;exact hM.1.2);(conv=>whnf);refine⟨fun q e h nx=>∃ (i:Nat) (j:Int),j=i∧i≤k.length∧q=k.length - i∧e=e90 k c3 (mE l m k i) j∧h=h90 l m k c1 c2 n∧nx=4,⟨k.length,?_⟩,?_⟩
 ·refine aL (e0:=e90 k c3 0 0) (h0:=h90 l m k c1 c2 n) (n0:=4) ⟨0,0,rfl,Nat.zero_le _,rfl,rfl,rfl,rfl⟩ ?_ ?_ (by decide)
  ·unfold e90;((repeat' refine iE rfl rfl ?_);exact iN)
  ·unfold h90 aW eF;((repeat'(first|refine iF rfl rfl ?_|refine iC rfl rfl rfl ?_|refine iJ rfl rfl rfl rfl ?_));exact iN)
 ·rintro q e h nx ⟨i,j,hj,hi,rfl,rfl,rfl,rfl⟩;unfold e90 h90 aW eF;((conv=>whnf);refine bm (fun h6=>?_) (fun h6=>?_))
  ·have hlt:i<k.length:=(by simp [aA,aB] at h6;omega);have hdj:=xV hkk hlt;have hf:=tI hM hdj;have ht:=E5 hM hdj;have lo:=OT hM (fun i hi=>xV hkk hi) i hi;have pl:=OH hM hdj;((conv=>whnf);refine bm (fun h7=>?_) (fun h7=>?_))
   ·(conv=>whnf);refine fY (fR k (i:=i) hlt ?_) ?_
    ·show _+Int.toNat j*1=_;omega
    (conv=>whnf);refine⟨l,m,aD aP rfl,aD aR rfl,?_⟩;((conv=>whnf);refine bm (fun h8=>?_) (fun h8=>?_))
    ·((conv=>whnf);refine bm (fun h9=>?_) (fun h9=>?_))
     ·(conv=>whnf);refine mR (jE l (i:=(cD m (aN k i)).toNat) (by omega) ?_) ?_
      ·show _+Int.toNat (cD m (aN k i))*2=_;omega
      ((conv=>whnf);refine bm (fun h10=>?_) (fun h10=>?_))
      ·(conv=>whnf);refine fY (fR k (i:=i) hlt ?_) ?_
       ·show _+Int.toNat j*1=_;omega
       (conv=>whnf);refine⟨l,m,aD aP rfl,aD aR rfl,?_⟩;((conv=>whnf);refine bm (fun h11=>?_) (fun h11=>?_))
       ·((conv=>whnf);refine bm (fun h12=>?_) (fun h12=>?_))
        ·(conv=>whnf);refine mR (jE l (i:=(gQ m (aN k i)).toNat) (by omega) ?_) ?_
         ·show _+Int.toNat (gQ m (aN k i))*2=_;omega
         repeat' ((conv=>whnf);refine bm (fun h13=>?_) (fun h13=>?_))
         all_goals try (exfalso;simp [aA,aB,aH] at h13;simp only [dQ] at *;omega)
         (conv=>whnf);refine⟨k.length - (i+1),by omega,?_⟩;refine aL (e0:=e90 k c3 (mE l m k i+(dQ l (cD m (aN k i))).1*(dQ l (gQ m (aN k i))).2 - (dQ l (gQ m (aN k i))).1*(dQ l (cD m (aN k i))).2) (j+1)) (h0:=h90 l m k c1 c2 n) (n0:=4) ⟨i+1,j+1,by omega,hlt,rfl,?_,rfl,rfl⟩ ?_ ?_ (by decide)
         ·congr 4;rw [show mE l m k (i+1)=mE l m k i+M3 l m (aN k i) from rfl];unfold M3;omega
         ·unfold e90;((repeat' refine iE rfl rfl ?_);exact iN)
         ·unfold h90 aW eF;((repeat'(first|refine iF rfl rfl ?_|refine iC rfl rfl rfl ?_|refine iJ rfl rfl rfl rfl ?_));exact iN)
        ·exfalso;simp [aA,aB] at h12;omega
       ·exfalso;rw [show o5 m (aN k i)=false from h11] at hdj;cases hdj
      ·exfalso;simp [aA,aB] at h10;omega
     ·exfalso;simp [aA,aB] at h9;omega
    ·exfalso;rw [show o5 m (aN k i)=false from h8] at hdj;cases hdj
   ·exfalso;simp [aA,aB] at h7;omega
  ·have hge:i=k.length:=(by simp [aA,aB] at h6;omega);(conv=>whnf);rw [hge]
theorem fA {α:Type}(E:El α)(o:List α)(x:α){n:Nat}(hn:n=o.length):((flat E.fl o).drop 0).take (n*E.sz)++E.fl x=flat E.fl (o++[x]):=by
 subst hn;rw [List.drop_zero,← bF E o,List.take_length,tD];simp [flat]
theorem oZ {i N s:Nat}{p:Prop}(hN:N=i*s)(hi:i+1≤1000000000)
  (h:aA.A.andB (aA.A.andB ((i+1).ble 1000000000) ((0+i*s).ble N)) (aA.A.andB ((0+i*s).beq N) (Nat.beq s s))=false):p:=by
 exfalso;have h1:(i+1).ble 1000000000=true:=Nat.ble_eq_true_of_le hi;have h2:(0+i*s).ble N=true:=Nat.ble_eq_true_of_le (by omega);have h3:(0+i*s).beq N=true:=(by rw [hN,Nat.zero_add];exact Nat.beq_refl _);rw [h1,h2,h3,Nat.beq_refl] at h;cases h
def evS (l:List Pt)(m:List Ed)(n:Int):List Value→YS Bool
 |[]=>some (decide (1≤m.length)&&decide (m.length≤1000),List.replicate (2*m.length) true,[])
 |_=>none
theorem aCQ {l:List Pt}{m:List Ed}{n:Int}{r:List Value}{out:List Bool}{rest:List Value}(h:evS l m n r=some (true,out,rest)):r=[]∧1≤m.length∧m.length≤1000∧out=List.replicate (2*m.length) true∧rest=[]:=by
 unfold evS at h;split at h
 ·injection h with h;injection h with h1 h2;injection h2 with h2 h3;simp only [Bool.and_eq_true,decide_eq_true_eq] at h1;exact⟨rfl,h1.1,h1.2,h2.symm,h3.symm⟩
 ·cases h
def e80 (v:Value)(j:Int):List (Nat × Value):=[(1,.pointer (some ⟨2,0,none⟩)),(3,v),(4,iv j)]
def h80 (l:List Pt)(m:List Ed)(c1 c2:Nat)(n:Int):Heap:=(2,aW l.length m.length c1 c2 n)::aC aP aR l m
def M1 (l:List Pt)(m:List Ed)(c1 c2:Nat)(n:Int)(o:List Bool):Heap:=(3,.cells true false 1 (flat fT.fl o))::(2,aW l.length m.length c1 c2 n)::aC aP aR l m
def aG1:Nat × XF:=(80,mYX aP aR fT evS)
theorem aJz:cJ Go.Proofs.Tryz.prog aG1.1 aG1.2:=Y8 aP aR fT (aK (xl:=[]) .nil) fun l m n r out rest hs=>by
 obtain⟨rfl,h1m,hm,rfl,rfl⟩:=aCQ hs;clear hs;refine⟨rfl,rfl,fun c1 c2=>?_⟩;(conv=>whnf)
 refine⟨fun q e h nx=>∃ (i:Nat) (j:Int),j=i∧i≤2*m.length∧q=2*m.length - i ∧
  ((i=0∧e=e80 (.slice none 0 0) j∧h=h80 l m c1 c2 n∧nx=3)∨(0<i∧e=e80 (.slice (some ⟨3,0,none⟩) i i) j∧h=M1 l m c1 c2 n (List.replicate i true)∧nx=4)),⟨2*m.length,?_⟩,?_⟩
 ·refine aL (e0:=e80 (.slice none 0 0) 0) (h0:=h80 l m c1 c2 n) (n0:=3) ⟨0,0,rfl,Nat.zero_le _,rfl,.inl ⟨rfl,rfl,rfl,rfl⟩⟩ ?_ ?_ (by decide)
  ·unfold e80;((repeat' refine iE rfl rfl ?_);exact iN)
  ·unfold h80 aW aC;((repeat'(first|refine iF rfl rfl ?_|refine iC rfl rfl rfl ?_|refine iJ rfl rfl rfl rfl ?_));exact iN)
 ·rintro q e h nx ⟨i,j,hj,hi,rfl,⟨hi0,rfl,rfl,rfl⟩|⟨hip,rfl,rfl,rfl⟩⟩
  ·subst hi0;unfold e80 h80 aW aC;((conv=>whnf);refine bm (fun h1=>?_) (fun h1=>?_))
   ·((conv=>whnf);refine bm (fun h2=>?_) (fun h2=>?_))
    ·((conv=>whnf);refine bm (fun h3=>?_) (fun h3=>?_))
     ·(conv=>whnf);refine⟨2*m.length - 1,by omega,?_⟩;refine gC (e0:=e80 (.slice (some ⟨3,0,none⟩) 1 1) (j+1)) (h0:=M1 l m c1 c2 n [true]) (n0:=4) 3 4 (by decide) (by decide) ⟨1,j+1,by omega,by omega,rfl,.inr ⟨Nat.one_pos,rfl,rfl,rfl⟩⟩ ?_ ?_ ?_
      ·unfold e80;((repeat' refine iE rfl rfl ?_);exact iN)
      ·unfold M1 aW aC;((repeat'(first|refine iF rfl rfl ?_|refine iC rfl rfl rfl ?_|refine iJ rfl rfl rfl rfl ?_));exact iN)
      ·unfold M1;((repeat' refine iK rfl ?_);exact iN)
     ·exfalso;simp [aA,aB,aH] at h3;omega
    ·exfalso;simp [aA,aB] at h2;omega
   ·exfalso;simp [aA,aB,aH] at h1;omega
  ·unfold e80 M1 aW aC;((conv=>whnf);refine bm (fun h1=>?_) (fun h1=>?_))
   ·((conv=>whnf);refine bm (fun h2=>?_) (fun h2=>?_))
    ·have hlt:i<2*m.length:=(by simp [aA,aB] at h2;omega);have hll:(flat fT.fl (List.replicate i true)).length=i:=(by rw [bF,List.length_replicate];show i*1=i;omega);((conv=>whnf);refine bm (fun h3=>?_) (fun h3=>?_))
     ·exfalso;have:=Nat.le_of_ble_eq_true h3;omega
     ·((conv=>whnf);refine bm (fun h4=>?_) (fun h4=>?_))
      ·((conv=>whnf);refine bm (fun h5=>?_) (fun h5=>?_))
       ·(conv=>whnf);refine⟨2*m.length - (i+1),by omega,?_⟩
        refine gC (e0:=e80 (.slice (some ⟨3,0,none⟩) (i+1) (i+1)) (j+1)) (h0:=M1 l m c1 c2 n (List.replicate i true++[true])) (n0:=4) 3 5 (by decide) (by decide)
         ⟨i+1,j+1,by omega,by omega,rfl,.inr ⟨Nat.succ_pos _,rfl,by rw [List.replicate_succ'];rfl,rfl⟩⟩ ?_ ?_ ?_
        ·unfold e80;((repeat' refine iE rfl rfl ?_);exact iN)
        ·unfold M1 aW aC;((repeat'(first|refine iW rfl rfl (bD (aI fT _) (fA fT (List.replicate i true) true (by rw [List.length_replicate]))) ?_|refine iF rfl rfl ?_|refine iC rfl rfl rfl ?_|refine iJ rfl rfl rfl rfl ?_));exact iN)
        ·unfold M1;((repeat' refine iK rfl ?_);exact iN)
       ·exfalso;simp [aA,aB,aH] at h5;omega
      ·exfalso;exact oZ (s:=1) (by omega) (by omega) h4
    ·have hge:i=2*m.length:=(by simp [aA,aB] at h2;omega);subst hge;(conv=>whnf);refine⟨3,?_,rfl⟩;show _=Value.slice _ _ _;rw [List.length_replicate]
   ·exfalso;simp [aA,aB,aH] at h1;omega
def pE (f:Int→Int)(d:Int):Nat→Int
 |0=>f d
 |i+1=>f (pE f d i)
def mF (f:Int→Int)(d:Int)(N i:Nat):Bool:=(!decide (pE f d i=d))&&(decide (0≤pE f d i)&&decide (i≤N))
def sF (f:Int→Int)(d:Int)(N:Nat):Nat→Nat→Nat
 |0,i=>i
 |k+1,i=>if mF f d N i=true then sF f d N k (i+1) else i
def CE (f:Int→Int)(d:Int)(i:Nat):List Int:=d::(List.range i).map (pE f d)
theorem nR (f:Int→Int)(d:Int)(i:Nat):(CE f d i).length=i+1:=by simp [CE]
theorem aG8 (f:Int→Int)(d:Int)(i:Nat):CE f d (i+1)=CE f d i++[pE f d i]:=by
 unfold CE;rw [List.range_succ,List.map_append];rfl
def FU (l:List Pt)(m:List Ed)(k:List Bool)(d:Int):Int:=fU l m k d (2*m.length)
def kC (l:List Pt)(m:List Ed)(k:List Bool)(d:Int):List Int:=CE (FU l m k) d (sF (FU l m k) d (2*m.length) (2*m.length+2) 0)
def rnS (l:List Pt)(m:List Ed)(n:Int)(k:List Bool):List Value→YS Int
 |[.int .i64 d]=>some (oE l m&&o5 m d&&decide (k.length=2*m.length),kC l m k d,[])
 |_=>none
theorem aCK {l:List Pt}{m:List Ed}{n:Int}{k:List Bool}{r:List Value}{out:List Int}{rest:List Value}(h:rnS l m n k r=some (true,out,rest)):∃ d,r=[iv d]∧oE l m=true∧o5 m d=true∧k.length=2*m.length∧out=kC l m k d∧rest=[]:=by
 unfold rnS at h;split at h
 ·rename_i d;injection h with h;injection h with h1 h2;injection h2 with h2 h3;simp only [Bool.and_eq_true,decide_eq_true_eq] at h1;exact⟨d,rfl,h1.1.1,h1.1.2,h1.2,h2.symm,h3.symm⟩
 ·cases h
def W6 (k:List Bool)(c3:Nat)(d x j:Int)(z:Nat):List (Nat × Value):=[(1,iv d),(2,.slice (some ⟨2,0,none⟩) k.length c3),(3,.pointer (some ⟨3,0,none⟩)),(7,.slice (some ⟨4,0,none⟩) z z),(8,iv x),(9,iv j)]
def PT (l:List Pt)(m:List Ed)(k:List Bool)(c1 c2:Nat)(n:Int)(o:List Int):Heap:=(4,.cells true false 1 (flat aO.fl o))::(3,aW l.length m.length c1 c2 n)::eF aP aR fT l m k
theorem GF {f:Int→Int}{d:Int}{N k i:Nat}(h:mF f d N i=false):sF f d N k i=i:=by
 cases k with
 |zero=>rfl
 |succ k=>simp [sF,h]
def aAG:Nat × XF:=(144,aHQ aP aR fT aO rnS)
theorem aIH:cJ Go.Proofs.Tryz.prog aAG.1 aAG.2:=aD6 aP aR fT aO (aK (xl:=[X79]) (.cons x79 .nil)) fun l m n k r out rest hs=>by
 obtain⟨d,rfl,hM,hd,hk,rfl,rfl⟩:=aCK hs;clear hs;refine⟨rfl,rfl,fun c1 c2 c3=>?_⟩;have hm:m.length≤1000:=(by simp only [oE,Bool.and_eq_true,decide_eq_true_eq] at hM;exact hM.1.2);unfold kC;obtain⟨f,hf⟩:∃ f,f=FU l m k:=⟨_,rfl⟩;have hfl:∀ x,-1≤f x∧f x<2*m.length:=fun x=>(by rw [hf];have:=yL l m k x (2*m.length);unfold FU;omega);have hfx:∀ x,fU l m k x (2*m.length)=f x:=fun x=>(by rw [hf];rfl);rw [← hf];(conv=>whnf);refine⟨_,_,_,[iv d],_,l,m,k,rfl,aD aP rfl,aD aR rfl,aD fT rfl,?_⟩;((conv=>whnf);refine bm (fun h1=>?_) (fun h1=>?_))
 ·(conv=>whnf);refine⟨fun q e h nx=>∃ (i:Nat) (j:Int),j=i∧i≤2*m.length+1∧q=2*m.length+1 - i∧sF f d (2*m.length) (2*m.length+2) 0=sF f d (2*m.length) (2*m.length+2 - i) i∧e=W6 k c3 d (pE f d i) j (i+1)∧h=PT l m k c1 c2 n (CE f d i)∧nx=5,⟨2*m.length+1,?_⟩,?_⟩
  ·refine aL (e0:=W6 k c3 d (fU l m k d (2*m.length)) 0 1) (h0:=PT l m k c1 c2 n [d]) (n0:=5) ⟨0,0,rfl,Nat.zero_le _,rfl,rfl,by rw [hfx];rfl,rfl,rfl⟩ ?_ ?_ (by decide)
   ·unfold W6;((repeat' refine iE rfl rfl ?_);exact iN)
   ·unfold PT aW eF;((repeat'(first|refine iF rfl rfl ?_|refine iC rfl rfl rfl ?_|refine iJ rfl rfl rfl rfl ?_));exact iN)
  ·rintro q e h nx ⟨i,j,hj,hi,rfl,hb,rfl,rfl,rfl⟩;have hx : -1≤pE f d i∧pE f d i<2*m.length:=(by cases i <;> exact hfl _);unfold W6 PT aW eF;have hll:(flat aO.fl (CE f d i)).length=i+1:=(by rw [bF,nR];exact Nat.mul_one _);((conv=>whnf);refine bm (fun h2=>?_) (fun h2=>?_))
   ·have h2:pE f d i≠d:=(by simpa [aA,aB] using h2);((conv=>whnf);refine bm (fun h3=>?_) (fun h3=>?_))
    ·have h3:0≤pE f d i:=(by simpa [aA,aB] using h3);((conv=>whnf);refine bm (fun h4=>?_) (fun h4=>?_))
     ·((conv=>whnf);refine bm (fun h5=>?_) (fun h5=>?_))
      ·have h5:i≤2*m.length:=(by simp [aA,aB] at h5;omega);have hgo:mF f d (2*m.length) i=true:=(by simp [mF,h2,h3,h5]);((conv=>whnf);refine bm (fun h6=>?_) (fun h6=>?_))
       ·exfalso;have:=Nat.le_of_ble_eq_true h6;omega
       ·((conv=>whnf);refine bm (fun h7=>?_) (fun h7=>?_))
        ·(conv=>whnf);have hdx:o5 m (pE f d i)=true:=(by simp only [o5,Bool.and_eq_true,decide_eq_true_eq];omega);refine⟨_,_,_,[iv (pE f d i)],_,l,m,k,rfl,aD aP rfl,aD aR rfl,aD fT rfl,?_⟩;((conv=>whnf);refine bm (fun h8=>?_) (fun h8=>?_))
         ·((conv=>whnf);refine bm (fun h9=>?_) (fun h9=>?_))
          ·(conv=>whnf);refine⟨2*m.length+1 - (i+1),by omega,?_⟩
           refine gC (e0:=W6 k c3 d (fU l m k (pE f d i) (2*m.length)) (j+1) (i+1+1)) (h0:=PT l m k c1 c2 n (CE f d i++[pE f d i])) (n0:=5) 4 6 (by decide) (by decide)
            ⟨i+1,j+1,by omega,by omega,rfl,?_,by rw [hfx];rfl,by rw [aG8];rfl,rfl⟩ ?_ ?_ ?_
           ·rw [hb,show 2*m.length+2 - i=(2*m.length+2 - (i+1))+1 by omega]
            conv=>lhs;unfold sF
            rw [if_pos hgo]
           ·unfold W6;((repeat' refine iE rfl rfl ?_);exact iN)
           ·unfold PT aW eF;((repeat'(first|refine iW rfl rfl (bD (aI aO _) (fA aO (CE f d i) (pE f d i) (nR f d i).symm)) ?_|refine iF rfl rfl ?_|refine iC rfl rfl rfl ?_|refine iJ rfl rfl rfl rfl ?_));exact iN)
           ·unfold PT;((repeat' refine iK rfl ?_);exact iN)
          ·exfalso;simp [aA,aB,aH] at h9;omega
         ·exfalso;have h8:(oE l m&&o5 m (pE f d i)&&decide (k.length=2*m.length))=false:=h8;rw [hM,hdx,decide_eq_true hk] at h8;cases h8
        ·exact oZ (i:=i+1) (s:=1) (by omega) (by omega) h7
      ·have h5:¬ i≤2*m.length:=(by simp [aA,aB] at h5;omega);(conv=>whnf);rw [hb,GF (show mF f d (2*m.length) i=false from ?_)]
       ·refine⟨4,?_,rfl⟩;show _=Value.slice _ _ _;rw [nR]
       ·simp [mF,h5]
     ·exfalso;simp [aA,aB,aH] at h4;omega
    ·have h3:¬ 0≤pE f d i:=(by simpa [aA,aB] using h3);(conv=>whnf);rw [hb,GF (show mF f d (2*m.length) i=false from ?_)]
     ·refine⟨4,?_,rfl⟩;show _=Value.slice _ _ _;rw [nR]
     ·simp [mF,h3]
   ·have h2:pE f d i=d:=(by simpa [aA,aB] using h2);(conv=>whnf);rw [hb,GF (show mF f d (2*m.length) i=false from ?_)]
    ·refine⟨4,?_,rfl⟩;show _=Value.slice _ _ _;rw [nR]
    ·simp [mF,h2]
 ·exfalso;have h1:(oE l m&&o5 m d&&decide (k.length=2*m.length))=false:=h1;rw [hM,hd,decide_eq_true hk] at h1;cases h1
theorem U9 {f:Int→Int}{d:Int}{N:Nat}:∀ {k i t:Nat},i≤t→t<sF f d N k i→mF f d N t=true
 |0,i,t,h1,h2=>by simp only [sF] at h2;omega
 |k+1,i,t,h1,h2=>by
  simp only [sF] at h2;split at h2
  ·rename_i hg;by_cases ht:t=i
   ·rw [ht];exact hg
   ·exact U9 (k:=k) (i:=i+1) (by omega) h2
  ·omega
theorem N5 {f:Int→Int}{d:Int}{N:Nat}:∀ {k i:Nat},sF f d N k i≤i+k
 |0,i=>by simp only [sF];omega
 |k+1,i=>by
  simp only [sF];split
  ·have:=N5 (f:=f) (d:=d) (N:=N) (k:=k) (i:=i+1);omega
  ·omega
theorem PK (l:List Pt)(m:List Ed)(k:List Bool)(d:Int):(kC l m k d).length≤2*m.length+3:=by
 unfold kC;rw [nR];have:=N5 (f:=FU l m k) (d:=d) (N:=2*m.length) (k:=2*m.length+2) (i:=0);omega
theorem aAt (l:List Pt)(m:List Ed)(k:List Bool)(d:Int) : -1≤FU l m k d∧FU l m k d<2*m.length:=by
 have:=yL l m k d (2*m.length);unfold FU;omega
theorem XY {l:List Pt}{m:List Ed}{k:List Bool}{d:Int}(hm:m.length≤1000)(hd:o5 m d=true):RE m (kC l m k d)=true:=by
 unfold RE kC CE;rw [List.all_cons,hd,Bool.true_and,List.all_eq_true];intro x hx;obtain⟨t,ht,rfl⟩:=List.mem_map.1 hx;have hg:=U9 (Nat.zero_le t) (List.mem_range.1 ht);simp only [mF,Bool.and_eq_true,decide_eq_true_eq] at hg;have:pE (FU l m k) d t<2*m.length:=(by cases t <;> exact (aAt l m k _).2);simp only [o5,Bool.and_eq_true,decide_eq_true_eq];omega
theorem Q6 (l:List Pt)(m:List Ed)(k:List Bool)(d:Int):0<(kC l m k d).length:=by
 unfold kC;rw [nR];omega
def dN (of w:List Int)(face:Int):Nat→List Int
 |0=>of
 |i+1=>(dN of w face i).set (aN w i).toNat face
theorem eX (of w:List Int)(face:Int):∀ i,(dN of w face i).length=of.length
 |0=>rfl
 |i+1=>by unfold dN;rw [List.length_set];exact eX of w face i
structure Fst where
 of:List Int
 faces:Int
 outside:Int
 ok:Bool
def oY (l:List Pt)(m:List Ed)(s:Fst)(d:Nat):Fst :=
 if 0≤aN s.of d then s else
  let w:=kC l m (List.replicate (2*m.length) true) d;let a:=mE l m w w.length;let fc:=if 0<a then s.faces+1 else 0
  ⟨dN s.of w fc w.length,if 0<a then s.faces+1 else s.faces,if a<0 then s.outside+1 else s.outside,if a=0 then false else s.ok⟩
def jT (l:List Pt)(m:List Ed):Nat→Fst
 |0=>⟨List.replicate (2*m.length) (-1),0,0,true⟩
 |d+1=>oY l m (jT l m d) d
def eC (l:List Pt)(m:List Ed):Fst:=jT l m (2*m.length)
def KA (s:Fst):Bool:=s.ok&&(decide (s.outside=1)&&decide (1≤s.faces))
theorem uH (l:List Pt)(m:List Ed):∀ d,(jT l m d).of.length=2*m.length
 |0=>by simp [jT]
 |d+1=>by
  unfold jT oY;split
  ·exact uH l m d
  ·simp only [eX];exact uH l m d
theorem H9 (l:List Pt)(m:List Ed):∀ d:Nat,0≤(jT l m d).faces∧(jT l m d).faces≤d∧0≤(jT l m d).outside∧(jT l m d).outside≤d
 |0=>by simp [jT]
 |d+1=>by
  have:=H9 l m d;unfold jT oY;split
  ·omega
  ·simp only;split <;> split <;> omega
end Go.Aw
end
