/-
  Parts of a proof. No condition.
-/
import Derived.Test.YtjahkcbdecgbhaaGreatQAp
import Derived.Test.YtjahkcbdecgbhaaGreatQAv
import Derived.Test.YtjahkcbdecgbhaaGreatQAw
import Derived.Test.YtjahkcbdecgbhaaGreatQBe
import Derived.Test.YtjahkcbdecgbhaaGreatQBq
import Derived.Test.YtjahkcbdecgbhaaGreatQBr
import Derived.Shelf.Sort.Plain
set_option linter.unusedSimpArgs false
set_option linter.unusedVariables false
noncomputable section
namespace Go.Aw
set_option maxRecDepth 100000
set_option maxHeartbeats 2000000
def smI (l1 l2:List Int):Bool:=decide (l1=l2)
def smS (l1 l2:List Int):Option (Bool × Value):=some (decide (l1.length≤1000000),.bool (smI l1 l2))
def e21 (l1 l2:List Int)(c1 c2:Nat)(j:Int):List (Nat × Value):=[(0,.slice (some ⟨0,0,none⟩) l1.length c1),(1,.slice (some ⟨1,0,none⟩) l2.length c2),(5,iv j)]
def h21 (l1 l2:List Int):Heap:=[(0,.cells false true 1 (flat aN.fl l1)),(1,.cells false true 1 (flat aN.fl l2))]
theorem aIw {l1 l2:List Int}(hl:l1.length=l2.length)(h:∀ k,k<l1.length→aK l1 k=aK l2 k):l1=l2:=by
 refine List.ext_getElem hl fun k h1 h2=>?_;have:=h k h1;rw [dR h1,dR h2] at this;exact this
def aEm:Nat × XF:=(21,l2X aN smS)
theorem aNc:cH Go.Proofs.Tryz.prog aEm.1 aEm.2:=aIQ aN (f:=21) (s:=smS) (aL (xl:=[]) .nil) fun l1 l2 v hs=>by
 have hs':l1.length≤1000000∧v=.bool (smI l1 l2):=by
  unfold smS at hs;injection hs with hs;injection hs with h1 h2;exact⟨by simpa using h1,h2.symm⟩
 obtain⟨hlen,rfl⟩:=hs';refine⟨rfl,fun c1 c2=>?_⟩;((conv=>whnf);refine bm (fun h1=>?_) (fun h1=>?_))
 ·(conv=>whnf);have hne:l1≠l2:=by
   intro e;simp [aA,aB,e] at h1
  show Value.bool false=.bool (decide (l1=l2));rw [decide_eq_false hne]
 ·have hll:l1.length=l2.length:=(by simp [aA,aB] at h1;omega);(conv=>whnf);refine⟨fun n e h nx=>∃ (i:Nat) (j:Int),j=i∧i≤l1.length∧n=l1.length - i∧(∀ k,k<i→aK l1 k=aK l2 k)∧e=e21 l1 l2 c1 c2 j∧h=h21 l1 l2∧nx=2,⟨l1.length,?_⟩,?_⟩
  ·refine aM (e0:=e21 l1 l2 c1 c2 0) (h0:=h21 l1 l2) (n0:=2) ⟨0,0,rfl,Nat.zero_le _,rfl,fun k h=>absurd h (Nat.not_lt_zero k),rfl,rfl,rfl⟩ ?_ ?_ (by decide)
   ·unfold e21;((repeat' refine iE rfl rfl ?_);exact iN)
   ·unfold h21;((repeat'(first|refine iF rfl rfl ?_|refine iJ rfl rfl rfl rfl ?_));exact iN)
  ·rintro n e h nx ⟨i,j,hj,hi,rfl,hb,rfl,rfl,rfl⟩;unfold e21 h21;((conv=>whnf);refine bm (fun g1=>?_) (fun g1=>?_))
   ·have hlt:i<l1.length:=(by simp [aA,aB] at g1;omega);((conv=>whnf);refine bm (fun g2=>?_) (fun g2=>?_))
    ·(conv=>whnf);refine gI (eK l1 hlt ?_) ?_
     ·show _+Int.toNat j*1=_;omega
     ((conv=>whnf);refine bm (fun g3=>?_) (fun g3=>?_))
     ·(conv=>whnf);refine gI (eK l2 (i:=i) (by omega) ?_) ?_
      ·show _+Int.toNat j*1=_;omega
      ((conv=>whnf);refine bm (fun g4=>?_) (fun g4=>?_))
      ·(conv=>whnf);have hne:l1≠l2:=by
        intro e;simp [aA,aB,e] at g4
       show Value.bool false=.bool (decide (l1=l2));rw [decide_eq_false hne]
      ·have g4:aK l1 i=aK l2 i:=(by simpa [aA,aB] using g4);((conv=>whnf);refine bm (fun g5=>?_) (fun g5=>?_))
       ·(conv=>whnf);refine⟨l1.length - (i+1),by omega,?_⟩;refine aM (e0:=e21 l1 l2 c1 c2 (j+1)) (h0:=h21 l1 l2) (n0:=2) ⟨i+1,j+1,by omega,hlt,rfl,fun k hk=>?_,rfl,rfl,rfl⟩ ?_ ?_ (by decide)
        ·by_cases hki:k=i
         ·rw [hki];exact g4
         ·exact hb k (by omega)
        ·unfold e21;((repeat' refine iE rfl rfl ?_);exact iN)
        ·unfold h21;((repeat'(first|refine iF rfl rfl ?_|refine iJ rfl rfl rfl rfl ?_));exact iN)
       ·exfalso;simp [aA,aB,aI] at g5;omega
     ·exfalso;simp [aA,aB] at g3;omega
    ·exfalso;simp [aA,aB] at g2;omega
   ·have hge:i=l1.length:=(by simp [aA,aB] at g1;omega);(conv=>whnf);show Value.bool true=.bool (decide (l1=l2));rw [decide_eq_true (aIw hll fun k hk=>hb k (by omega))]
theorem aAp {l:List Pt}{m:List Ed}(h1:(!(decide ((l.length:Int)≤60)&&decide ((m.length:Int)≤60)))=false):l.length≤1000∧m.length≤1000:=by
 have h1:(decide ((l.length:Int)≤60)&&decide ((m.length:Int)≤60))=true:=(by simpa using h1);simp only [Bool.and_eq_true,decide_eq_true_eq] at h1;omega
theorem w5 (l:List Pt)(m:List Ed)(n:Int)(c1 c2:Nat)(d f:Int):body [aD8,X16,aEm,aMm,aMX,aLV,aM2,aMk,aNo] 5 [aF l.length m.length c1 c2 n,iv d,iv f] (aD aP aS l m) 2 (fun v _ _=>v=.bool true):=by
 (conv=>whnf);refine⟨l,m,aC aP rfl,aC aS rfl,?_⟩;((conv=>whnf);refine bm (fun h1=>?_) (fun h1=>?_))
 ·(conv=>whnf)
 ·have hlm:l.length≤1000∧m.length≤1000:=aAp h1;have hsm:=smB hlm;obtain⟨O,hO⟩:∃ O,(if j5 l m n f=true then wlI l m f else [])=O:=⟨_,rfl⟩;have hOl:O.length≤1000000:=by
   rw [← hO];split
   ·rename_i hf;have hf:(cF l m n&&pT n f)=true:=hf;simp only [Bool.and_eq_true] at hf;have:=(QL hf.1 hf.2).2.2.1;unfold wlI;rw [VQ];omega
   ·exact Nat.zero_le _
  have hsame:smI O O=true:=decide_eq_true rfl;(conv=>whnf);refine⟨l,m,aC aP rfl,aC aS rfl,?_⟩;refine aJ hsm ?_;(conv=>whnf);refine⟨l,m,aC aP rfl,aC aS rfl,?_⟩;refine aJ hsm ?_;(conv=>whnf);refine⟨_,_,_,[iv f],l,m,rfl,aC aP rfl,aC aS rfl,?_⟩;refine aJ hsm ?_;rw [hO];cases O with
  |nil =>
   (conv=>whnf);refine⟨_,_,_,[iv f],l,m,rfl,aC aP rfl,aC aS rfl,?_⟩;refine aJ hsm ?_;rw [hO];(conv=>whnf);refine⟨l,m,aC aP rfl,aC aS rfl,?_⟩;refine aJ hsm ?_;(conv=>whnf);refine⟨l,m,aC aP rfl,aC aS rfl,?_⟩;refine aJ hsm ?_
   repeat' (((conv=>whnf);refine bm (fun g=>?_) (fun g=>?_)))
   all_goals (conv=>whnf)
   all_goals first
    |(exfalso;simp [aA,aB] at g;done)
    |(refine⟨[],[],⟨rfl,rfl,rfl⟩,⟨rfl,rfl,rfl⟩,?_⟩
      refine aJ (decide_eq_true hOl) ?_;rw [hsame];(conv=>whnf))
  |cons a t =>
   (conv=>whnf);refine⟨_,_,_,[iv f],l,m,rfl,aC aP rfl,aC aS rfl,?_⟩;refine aJ hsm ?_;rw [hO];(conv=>whnf);refine⟨l,m,aC aP rfl,aC aS rfl,?_⟩;refine aJ hsm ?_;(conv=>whnf);refine⟨l,m,aC aP rfl,aC aS rfl,?_⟩;refine aJ hsm ?_
   repeat' (((conv=>whnf);refine bm (fun g=>?_) (fun g=>?_)))
   all_goals (conv=>whnf)
   all_goals first
    |(exfalso;simp [aA,aB] at g;done)
    |(refine⟨a::t,a::t,aC aN rfl,aC aN rfl,?_⟩
      refine aJ (decide_eq_true hOl) ?_;rw [hsame];(conv=>whnf))
end Go.Aw
end

noncomputable section
namespace Go.Aw
set_option maxRecDepth 100000
def MO (a b:Int):Bool:=decide (a=b)
theorem pB (l:List Int):(flat aN.fl l).length=l.length*1:=bD aN l
theorem qG (n:Nat)(zs:List Value):(rep n zs).length=n*zs.length:=by
 unfold rep;rw [List.length_flatten,List.map_replicate,List.sum_replicate_nat]
theorem oL (a b:Nat):aA.A.subN a b=a - b:=rfl
theorem uD (a:Int):aA.A.toN a=a.toNat:=rfl
theorem G5 (o:Nat)(i:Int)(s:Nat):aA.A.ix o i s=o+i.toNat*s:=rfl
theorem QH {a b:Nat}:(Nat.ble a b=true)↔a≤b:=⟨Nat.le_of_ble_eq_true,Nat.ble_eq_true_of_le⟩
theorem OP {a b:Nat}:(Nat.ble a b=false)↔b<a:=by
 constructor
 ·intro h;apply Classical.byContradiction;intro hn;rw [Nat.ble_eq_true_of_le (by omega)] at h;cases h
 ·intro h;cases hb:Nat.ble a b with
  |false=>rfl
  |true=>have:=Nat.le_of_ble_eq_true hb;omega
theorem ZL (l:List Int)(i:Nat)(v:Int)(h:i<l.length):c8 (flat aN.fl l) (i*1) [iv v]=flat aN.fl (l.set i v):=EG l i v h
def iS (l:List Int):Nat→List Int
 |0=>[]
 |p+1=>iS l p++(if p=0∨MO (aK l p) (aK l (p - 1))=false then [aK l p] else [])
theorem zU (l:List Int):∀ p,(iS l p).length≤p
 |0=>Nat.le_refl _
 |p+1=>by
  have:=zU l p;unfold iS;rw [List.length_append];split <;> simp <;> omega
theorem MK {l:List Int}{p:Nat}(h:MO (aK l p) (aK l (p - 1))=false):iS l (p+1)=iS l p++[aK l p]:=by
 conv=>lhs;unfold iS
 rw [if_pos (.inr h)]
theorem FV {l:List Int}{p:Nat}(h0:0<p)(h:MO (aK l p) (aK l (p - 1))=true):iS l (p+1)=iS l p:=by
 conv=>lhs;unfold iS
 rw [if_neg (by rintro (h1 | h1); · omega
                ·rw [h] at h1;cases h1),List.append_nil]
theorem ED {l:List Int}:∀ p,p≤l.length→(∀ i,0<i→i<p→MO (aK l i) (aK l (i - 1))=false)→iS l p=l.take p
 |0,_,_=>rfl
 |p+1,hp,h=>by
  unfold iS;have h1:p=0∨MO (aK l p) (aK l (p - 1))=false:=by
   by_cases h0:p=0
   ·exact .inl h0
   ·exact .inr (h p (by omega) (by omega))
  rw [if_pos h1,ED p (by omega) (fun i h0 hi=>h i h0 (by omega)),dR (show p<l.length by omega),List.take_append_getElem (by omega)]
def HU (l:List Int)(p:Nat):List Int:=iS l p++l.drop (iS l p).length
theorem z8 (l:List Int){p:Nat}(hp:p≤l.length):(HU l p).length=l.length:=by
 have:=zU l p;unfold HU;rw [List.length_append,List.length_drop];omega
theorem aIW (l:List Int){p k:Nat}(hp:p≤l.length)(hk:(iS l p).length≤k)(hkl:k<l.length):aK (HU l p) k=aK l k:=by
 rw [dR (by rw [z8 l hp];exact hkl),dR hkl];unfold HU;rw [List.getElem_append_right hk,List.getElem_drop];congr 1;omega
theorem aFh {l:List Int}{p:Nat}(hp:p<l.length)(hd:(iS l p).length<p)(h:MO (aK l p) (aK l (p - 1))=false):(HU l p).set (iS l p).length (aK l p)=HU l (p+1):=by
 unfold HU;rw [MK h,List.length_append,List.length_singleton];rw [List.set_append_right _ _ (Nat.le_refl _),Nat.sub_self,List.append_assoc];congr 1;rw [List.drop_eq_getElem_cons (show (iS l p).length<l.length by omega)];rfl
theorem aBR {l:List Int}{p:Nat}(h0:0<p)(h:MO (aK l p) (aK l (p - 1))=true):HU l p=HU l (p+1):=by
 unfold HU;rw [FV h0 h]
theorem YY {l:List Int}{p:Nat}(h0:0<p)(hp:p<l.length)(hno:∀ i,0<i→i<p→MO (aK l i) (aK l (i - 1))=false)(h:MO (aK l p) (aK l (p - 1))=true):HU l (p+1)=l∧(iS l (p+1)).length=p:=by
 have e:=ED p (by omega) hno;have e2:iS l (p+1)=l.take p:=(by rw [FV h0 h,e]);have e3:(iS l (p+1)).length=p:=(by rw [e2,List.length_take];omega);refine⟨?_,e3⟩;unfold HU;rw [e3,e2,List.take_append_drop]
theorem aBp {l:List Int}{o m:Nat}(ho:o=(iS l l.length).length*1)(hm:m=l.length - (iS l l.length).length):c8 (flat aN.fl (HU l l.length)) o (rep m [iv 0])=flat aN.fl (iS l l.length)++rep m [iv 0]:=by
 have h1:=zU l l.length;subst ho;unfold c8 HU;have l1:(flat aN.fl (iS l l.length)).length=(iS l l.length).length*1:=pB _;have l2:(flat aN.fl (l.drop (iS l l.length).length)).length=(l.length - (iS l l.length).length)*1:=(by rw [pB,List.length_drop]);have l3:(rep m [iv 0]).length=m*1:=qG _ _;rw [o8,List.take_left' l1,l3];rw [List.drop_eq_nil_of_le (by rw [List.length_append,l1,l2,hm];omega),List.append_nil]
def SCn (l:List Int):List Value→Nat→Option (Bool × Option Nat × List Value)
 |[],c=>some (decide (l.length≤1000000)&&decide (l.length≤c),some (iS l l.length).length,flat aN.fl (iS l l.length)++rep (l.length - (iS l l.length).length) [iv 0])
 |_,_=>none
theorem aDN {l:List Int}{r:List Value}{c:Nat}{m:Option Nat}{cs:List Value}(h:SCn l r c=some (true,m,cs)):r=[]∧l.length≤1000000∧l.length≤c∧m=some (iS l l.length).length∧cs=flat aN.fl (iS l l.length)++rep (l.length - (iS l l.length).length) [iv 0]:=by
 unfold SCn at h;split at h
 ·injection h with h;injection h with h1 h2;injection h2 with h2 h3;simp only [Bool.and_eq_true,decide_eq_true_eq] at h1;exact⟨rfl,h1.1,h1.2,h2.symm,h3.symm⟩
 ·cases h
theorem aHt (n:Nat):dG (rep n [iv 0])=true:=by
 unfold rep;refine rQ fun v hv=>?_;obtain⟨x,hx,hv⟩:=List.mem_flatten.1 hv;rw [(List.mem_replicate.1 hx).2] at hv;simp only [List.mem_cons,List.not_mem_nil,or_false] at hv;rcases hv with rfl|rfl <;> rfl
theorem GV (k o n c:Nat):iQ id (.slice (some ⟨k,o,none⟩) n c)=.slice (some ⟨k,o,none⟩) n c:=by
 unfold iQ;simp only [tr,dU,bR,dV,lW,Nat.zero_add,Nat.add_zero,id]
def ZQ (n c:Nat)(k:Int):List (Nat × Value):=[(0,.slice (some ⟨0,0,none⟩) n c),(3,iv k)]
def CC (n c:Nat)(o2 n2 c2:Nat)(k k2:Int):List (Nat × Value):=[(0,.slice (some ⟨0,0,none⟩) n c),(3,iv k),(4,.slice (some ⟨0,o2,none⟩) n2 c2),(5,iv k2)]
theorem aG1 {l:List Int}{p q o:Nat}(hp:p≤l.length)(hd:(iS l p).length≤q)(hq:q<l.length)(ho:o=q*1):nth (flat aN.fl (HU l p)) o=some (iv (aK l q)):=by
 rw [← aIW l hp hd hq];exact eK _ (by rw [z8 l hp];exact hq) ho
set_option maxHeartbeats 1000000 in
attribute [local irreducible] aK HU iS in
theorem d202:cH Go.Proofs.Tryz.prog 202 (frX aN SCn):=aHG aN (s:=SCn) (f:=202) (aL (xl:=[]) .nil) fun l r c m cs' hs=>by
 obtain⟨rfl,hlen,hlc,rfl,rfl⟩:=aDN hs;refine⟨rfl,by rw [B2,aG aN,aHt];rfl,(fun q e=>by injection e with e;rw [← e];exact zU l _),fun F N hF=>?_⟩;have hN:=hF.1;clear hs;((conv=>whnf);refine bm (fun h1=>?_) (fun h1=>?_))
 ·have hsm:l.length<2:=(by simp only [gL,fQ,decide_eq_true_eq] at h1;omega);have hd:iS l l.length=l:=by
   rw [ED l.length (Nat.le_refl _) (fun i h0 hi=>by omega),List.take_length]
  rw [hd,Nat.sub_self];(conv=>whnf);exact⟨rfl,(by show (0,aX.cells true false 1 (flat aN.fl l))::F=_;rw [show rep 0 [iv 0]=[] from rfl,List.append_nil];rfl)⟩
 ·have hbig:2≤l.length:=(by simp only [gL,fQ,decide_eq_false_iff_not] at h1;omega);(conv=>whnf);refine⟨fun n e h nq=>∃ (i:Nat) (a:Int),a=i∧1≤i∧i≤l.length∧n=l.length - i∧(∀ j,0<j→j<i→MO (aK l j) (aK l (j - 1))=false)∧e=ZQ l.length c a∧h=(0,.cells true false 1 (flat aN.fl l))::F∧nq=N,⟨l.length - 1,?_⟩,?_⟩
  ·refine bL (e0:=ZQ l.length c 1) hF ⟨1,1,rfl,Nat.le_refl _,by omega,rfl,(fun j h0 h1=>by omega),rfl,rfl,rfl⟩ ?_ ?_ (Nat.le_refl _)
   ·unfold ZQ;((repeat' (refine List.forall_mem_cons.2 ⟨⟨by first|rfl|(rw [GV];rfl),?_⟩,?_⟩;(first|exact cY rfl|exact⟨hN,fun h=>(by cases h)⟩)));exact fun _ h=>(by cases h))
   ·exact aO (aG aN _)
  ·rintro n e h nq ⟨i,a,ha,hi1,hi,rfl,hno,rfl,rfl,hnx⟩;subst hnx;unfold ZQ;((conv=>whnf);refine bm (fun g1=>?_) (fun g1=>?_))
   ·have hlt:i<l.length:=(by simp only [gL,fQ,decide_eq_true_eq] at g1;omega);have hlt1:i - 1<l.length:=(by omega);have hi0:0<i:=by omega
    repeat' first
     |(exfalso
       simp only [kA,xM,eS,gL,zK,tS,gR,kW,fQ,oL,uD,aI,QH,OP,pB,Bool.not_eq_false',Bool.not_eq_true',Bool.and_eq_false_iff,Bool.and_eq_true,decide_eq_true_eq,decide_eq_false_iff_not,List.length_append,List.length_take,List.length_drop,List.length_nil,List.length_cons,G5,qG,c8] at g;omega)
     |(((conv=>whnf);refine bm (fun g=>?_) (fun g=>?_)))
     |((conv=>whnf)
       refine gI (eK l hlt ?_) ?_
       ·simp [aA,aB];omega)
     |((conv=>whnf)
       refine gI (eK l hlt1 ?_) ?_
       ·show 0+(a - 1).toNat*1=_;omega)
    all_goals (conv=>whnf)
    ·have hdup:MO (aK l i) (aK l (i - 1))=true:=‹aA.A.eq (aK l i) (aK l (i - 1))=true›;obtain⟨hW,hD⟩:=YY hi0 hlt hno hdup;refine⟨fun m e h nr=>∃ (p:Nat) (a' b:Int),i+1≤p∧p≤l.length∧m=l.length - p∧b=(p:Int) - i∧a'=((iS l p).length:Int)∧(iS l p).length<p∧e=CC l.length c (aA.A.ix 0 a 1) (aA.A.subN l.length (aA.A.toN a)) (aA.A.subN c (aA.A.toN a)) a' b∧h=(0,.cells true false 1 (flat aN.fl (HU l p)))::F∧nr=nq,⟨l.length - (i+1),?_⟩,?_⟩
     ·refine bL (e0:=CC l.length c (aA.A.ix 0 a 1) (aA.A.subN l.length (aA.A.toN a)) (aA.A.subN c (aA.A.toN a)) a 1) hF ⟨i+1,a,1,Nat.le_refl _,by omega,rfl,by omega,by rw [hD];exact ha,by omega,rfl,rfl,rfl⟩ ?_ ?_ (Nat.le_refl _)
      ·unfold CC;((repeat' (refine List.forall_mem_cons.2 ⟨⟨by first|rfl|(rw [GV];rfl),?_⟩,?_⟩;(first|exact cY rfl|exact⟨hN,fun h=>(by cases h)⟩)));exact fun _ h=>(by cases h))
      ·rw [hW];exact aO (aG aN _)
     ·rintro m e h nr ⟨p,a',b,hp1,hp2,rfl,hb,ha',hd',rfl,rfl,hnr⟩;subst hnr;have hF:=hF;unfold CC;((conv=>whnf);refine bm (fun g2=>?_) (fun g2=>?_))
      ·have hpl:p<l.length:=(by simp only [gL,fQ,oL,uD,decide_eq_true_eq] at g2;omega);have hwl:=z8 l hp2
       repeat' first
        |(exfalso
          simp only [kA,xM,eS,gL,zK,tS,gR,kW,fQ,oL,uD,aI,QH,OP,pB,hwl,Bool.not_eq_false',Bool.not_eq_true',Bool.and_eq_false_iff,Bool.and_eq_true,decide_eq_true_eq,decide_eq_false_iff_not,List.length_nil,List.length_cons,G5] at g;omega)
        |(((conv=>whnf);refine bm (fun g=>?_) (fun g=>?_)))
        |((conv=>whnf)
          refine gI (aG1 (q:=p) hp2 (by omega) hpl ?_) ?_
          ·simp only [G5,xM];omega)
        |((conv=>whnf)
          refine gI (aG1 (q:=p - 1) hp2 (by omega) (by omega) ?_) ?_
          ·simp only [G5,xM];omega)
       all_goals (conv=>whnf)
       ·have hneq:MO (aK l p) (aK l (p - 1))=false:=by
         have hg:(!(MO (aK l p) (aK l (p - 1))))=true:=‹aA.A.notB (aA.A.eq (aK l p) (aK l (p - 1)))=true›;simpa using hg
        refine⟨l.length - (p+1),by omega,?_⟩;refine bL (e0:=CC l.length c (aA.A.ix 0 a 1) (aA.A.subN l.length (aA.A.toN a)) (aA.A.subN c (aA.A.toN a)) (a'+1) (b+1)) hF ⟨p+1,a'+1,b+1,by omega,hpl,rfl,by omega,by rw [MK hneq,List.length_append,List.length_singleton];omega,by rw [MK hneq,List.length_append,List.length_singleton];omega,rfl,rfl,rfl⟩ ?_ ?_ (Nat.le_refl _)
        ·unfold CC;((repeat' (refine List.forall_mem_cons.2 ⟨⟨by first|rfl|(rw [GV];rfl),?_⟩,?_⟩;(first|exact cY rfl|exact⟨hN,fun h=>(by cases h)⟩)));exact fun _ h=>(by cases h))
        ·refine aZ (aG aN _) ?_;rw [← aFh hpl hd' hneq,← ZL _ _ _ (by rw [z8 l hp2];omega)];show c8 _ (0+a'.toNat*1) _=_;rw [show 0+a'.toNat*1=(iS l p).length*1 by omega];rfl
       ·exfalso;have hx:0+a'.toNat*1+1≤(flat aN.fl (HU l p)).length:=(by rw [pB,hwl];omega);have hc:Nat.ble (0+a'.toNat*1+1) (flat aN.fl (HU l p)).length=false:=g;rw [Nat.ble_eq_true_of_le hx] at hc;cases hc
       ·have hneq:MO (aK l p) (aK l (p - 1))=true:=by
         have hg:(!(MO (aK l p) (aK l (p - 1))))=false:=‹aA.A.notB (aA.A.eq (aK l p) (aK l (p - 1)))=false›;simpa using hg
        refine⟨l.length - (p+1),by omega,?_⟩;refine bL (e0:=CC l.length c (aA.A.ix 0 a 1) (aA.A.subN l.length (aA.A.toN a)) (aA.A.subN c (aA.A.toN a)) a' (b+1)) hF ⟨p+1,a',b+1,by omega,hpl,rfl,by omega,by rw [FV (by omega) hneq];exact ha',by rw [FV (by omega) hneq];omega,rfl,rfl,rfl⟩ ?_ ?_ (Nat.le_refl _)
        ·unfold CC;((repeat' (refine List.forall_mem_cons.2 ⟨⟨by first|rfl|(rw [GV];rfl),?_⟩,?_⟩;(first|exact cY rfl|exact⟨hN,fun h=>(by cases h)⟩)));exact fun _ h=>(by cases h))
        ·rw [aBR (by omega) hneq];exact aO (aG aN _)
      ·have hpe:p=l.length:=(by simp only [gL,fQ,oL,uD,decide_eq_false_iff_not] at g2;omega);subst hpe
       repeat' first
        |(exfalso
          simp only [kA,xM,eS,gL,zK,tS,gR,kW,fQ,oL,uD,aI,QH,OP,pB,Bool.not_eq_false',Bool.not_eq_true',Bool.and_eq_false_iff,Bool.and_eq_true,decide_eq_true_eq,decide_eq_false_iff_not,List.length_append,List.length_take,List.length_drop,List.length_nil,List.length_cons,G5,qG,c8] at g;omega)
        |(((conv=>whnf);refine bm (fun g=>?_) (fun g=>?_)))
       all_goals (conv=>whnf)
       obtain⟨M,hM⟩:∃ M:Nat,aA.A.subN l.length (aA.A.toN a')=M+1:=⟨l.length - a'.toNat - 1,by simp only [oL,uD];omega⟩;have hM2:M+1=l.length - (iS l l.length).length:=by
        have:l.length - a'.toNat=M+1:=hM;omega
       rw [hM]
       repeat' first
        |(exfalso
          simp only [kA,xM,eS,gL,zK,tS,gR,kW,fQ,oL,uD,aI,QH,OP,pB,Bool.not_eq_false',Bool.not_eq_true',Bool.and_eq_false_iff,Bool.and_eq_true,decide_eq_true_eq,decide_eq_false_iff_not,List.length_append,List.length_take,List.length_drop,List.length_nil,List.length_cons,G5,qG,c8] at g;omega)
        |(((conv=>whnf);refine bm (fun g=>?_) (fun g=>?_)))
       all_goals (conv=>whnf)
       rotate_left
       all_goals try
        (exfalso
         have hx:0+a'.toNat*1+(M+1)*1≤(flat aN.fl (HU l l.length)).length:=(by rw [pB,z8 l (Nat.le_refl _)];omega);have hc:Nat.ble (0+a'.toNat*1+(M+1)*1) (flat aN.fl (HU l l.length)).length=false:=g;rw [Nat.ble_eq_true_of_le hx] at hc;cases hc)
       all_goals try
        (exfalso
         simp only [kA,xM,eS,gL,zK,tS,gR,kW,fQ,oL,uD,aI,QH,OP,pB,Bool.not_eq_false',Bool.not_eq_true',Bool.and_eq_false_iff,Bool.and_eq_true,decide_eq_true_eq,decide_eq_false_iff_not,List.length_append,List.length_take,List.length_drop,List.length_nil,List.length_cons,G5,qG,c8] at g;omega)
       ·refine⟨?_,?_⟩
        ·show Value.slice (some ⟨0,0,none⟩) a'.toNat c=.slice (some ⟨0,0,none⟩) _ c;rw [show a'.toNat=(iS l l.length).length by omega]
        ·show (0,aX.cells true false 1 (c8 (flat aN.fl (HU l l.length)) (0+a'.toNat*1) (rep (M+1) [iv 0])))::F=_;rw [aBp (by omega) hM2,hM2];rfl
       all_goals trace_state
    ·have hnd:MO (aK l i) (aK l (i - 1))=false:=‹aA.A.eq (aK l i) (aK l (i - 1))=false›;refine⟨l.length - (i+1),by omega,?_⟩;refine bL (e0:=ZQ l.length c (a+1)) hF ⟨i+1,a+1,by omega,by omega,hlt,rfl,(fun j h0 h1=>?_),rfl,rfl,rfl⟩ ?_ ?_ (Nat.le_refl _)
     ·by_cases e:j=i
      ·rw [e];exact hnd
      ·exact hno j h0 (by omega)
     ·unfold ZQ;((repeat' (refine List.forall_mem_cons.2 ⟨⟨by first|rfl|(rw [GV];rfl),?_⟩,?_⟩;(first|exact cY rfl|exact⟨hN,fun h=>(by cases h)⟩)));exact fun _ h=>(by cases h))
     ·exact aO (aG aN _)
   ·have hge:i=l.length:=(by simp only [gL,fQ,decide_eq_false_iff_not] at g1;omega);subst hge;have hd:iS l l.length=l:=by
     rw [ED l.length (Nat.le_refl _) (fun i h0 hi=>hno i h0 hi),List.take_length]
    rw [hd,Nat.sub_self];(conv=>whnf);exact⟨rfl,(by show (0,aX.cells true false 1 (flat aN.fl l))::F=_;rw [show rep 0 [iv 0]=[] from rfl,List.append_nil];rfl)⟩
end Go.Aw
end

noncomputable section
namespace Go.Aw
open Go.RowKit
set_option maxRecDepth 100000
def cpI:XF:=fun args h nx K=>match args with
 |[.slice (some ⟨k,0,none⟩) n c]=>∃ l,n=List.length l∧c=l.length∧look h k=some (.cells true false 1 (flat aN.fl l))∧fN h=true∧l.length≤1000000∧0<l.length ∧
  K (.slice (some ⟨nx,0,none⟩) (iS l l.length).length (iS l l.length).length) (bQ (rem h k) nx (.cells true false 1 (flat aN.fl (iS l l.length)))) (nx+1)
 |_=>False
theorem aNg:cH Go.Proofs.Tryz.prog 202 cpI:=by
 refine⟨fun args h nx K hx ι B w H hsc=>?_,fun args h nx K hx=>?_⟩
 ·unfold cpI at hx;split at hx
  case h_2=>exact hx.elim
  rename_i k n c;obtain⟨l,rfl,rfl,hk,hcH,hlen,hpos,hK⟩:=hx;have hdl:=zU l l.length;have hrun:=d202.1 [.slice (some ⟨k,0,none⟩) l.length l.length] h nx (fun v h' nx'=>v=rv k l.length (some (iS l l.length).length)∧h'=r7 h k (.cells true false 1 (flat aN.fl (iS l l.length)++rep (l.length - (iS l l.length).length) [iv 0]))∧nx'=nx) ⟨l,rfl,hk,hcH,by
   show dJ (decide (l.length≤1000000)&&decide (l.length≤l.length)) _;rw [decide_eq_true hlen,decide_eq_true (Nat.le_refl _)];exact⟨rfl,rfl,rfl⟩⟩ ι B w H hsc
  refine⟨hrun.1,CallsIn.mono hrun.2 fun e w' hret=>?_⟩;cases e with
  |returned u =>
   obtain⟨v,h',nx',ι',⟨rfl,rfl,rfl⟩,q2,q3,q4,q5,q6,rfl⟩:=hret;have hsl:k<nx'∧((ι k).fP=false→l.length=0∧l.length=0):=hsc _ (.head _);have hk':look (r7 h k (.cells true false 1 (flat aN.fl (iS l l.length)++rep (l.length - (iS l l.length).length) [iv 0]))) k=some _:=wR h k _;have ho:=q3.obj k _ hk';cases hι:ι k with
   |nil p =>
    have:=hsl.2 (by rw [hι];rfl);omega
   |lay b off ex =>
    rw [q5 k hsl.1,hι] at ho;obtain⟨hB,_,arr,t,hblk,hsz,hcell⟩:=ho;have hrl:(rep (l.length - (iS l l.length).length) [iv 0]).length=(l.length - (iS l l.length).length)*1:=qG _ _;rw [List.length_append,pB,hrl] at hsz;have hsub:∀ j o,look (rem h k) j=some o→j≠k∧look (r7 h k (.cells true false 1 (flat aN.fl (iS l l.length)++rep (l.length - (iS l l.length).length) [iv 0]))) j=some o:=by
     intro j o hj;rw [c7] at hj;split at hj
     ·cases hj
     ·rename_i hne;exact⟨hne,by rw [jC _ _ hne];exact hj⟩
    have H1:aT ι' B (rem h k) nx' w':=q3.sub fun j o hj=>(hsub j o hj).2;have H2:=H1.add (.cells true false 1 (flat aN.fl (iS l l.length))) (.lay b off (ex+(l.length - (iS l l.length).length))) ⟨hB,(fun h=>(by cases h)),arr,t,hblk,by rw [pB];omega,fun i v hv=>by
     have hi:i<(flat aN.fl (iS l l.length)).length:=(List.getElem?_eq_some_iff.1 hv).1;have h3:=hcell i v (by rw [List.getElem?_append_left hi];exact hv);rw [kM (aW (aG aN _) (List.mem_of_getElem? hv))] at h3 ⊢;exact h3⟩ (fun v hv=>cL (aW (aG aN _) hv)) (fun j o hj _ b' hb' e=>by
     obtain⟨hne,hj2⟩:=hsub j o hj;have h4:=q3.sep k j _ _ hk' hj2 (fun e=>hne e.symm) rfl b' (by rw [q5 k hsl.1,hι];exact hb');exact h4 e)
    refine⟨_,_,_,_,hK,⟨(by show nx'<nx'+1;omega),fun hf=>by rw [bG] at hf;cases hf⟩,H2,q4,fun j hj=>(cJ _ _ hj).trans (q5 j hj),by omega,?_⟩;simp only [rv,tr,dU,bR,dV,bG,q5 k hsl.1,hι];congr 1;omega
  |_=>exact hret.elim
 ·unfold cpI at hx;split at hx
  case h_2=>exact hx.elim
  rename_i k n c;obtain⟨l,hn,hc,hk,hcH,hlen,hpos,hK⟩:=hx;exact⟨_,_,_,hK,fun K' hk'=>⟨l,hn,hc,hk,hcH,hlen,hpos,hk'⟩⟩
end Go.Aw
end

noncomputable section
namespace Go.Aw
set_option maxRecDepth 100000
set_option maxHeartbeats 2000000
theorem cH.or {P:Program}{f:Nat}{x y:XF}(hx:cH P f x)(hy:cH P f y):cH P f (fun args h nx K=>x args h nx K∨y args h nx K):=by
 refine⟨fun args h nx K hk=>?_,fun args h nx K hk=>?_⟩
 ·rcases hk with hk|hk
  ·exact hx.1 args h nx K hk
  ·exact hy.1 args h nx K hk
 ·rcases hk with hk|hk
  ·obtain⟨v,h',n',a,b⟩:=hx.2 args h nx K hk;exact⟨v,h',n',a,fun K' hk'=>.inl (b K' hk')⟩
  ·obtain⟨v,h',n',a,b⟩:=hy.2 args h nx K hk;exact⟨v,h',n',a,fun K' hk'=>.inr (b K' hk')⟩
def JE (v:Value):List Value→Option (Bool × Value)
 |[.slice none 0 0]=>some (true,v)
 |_=>none
theorem I3 {v w:Value}{args:List Value}(h:JE v args=some (true,w)):args=[.slice none 0 0]∧w=v:=by
 unfold JE at h;split at h
 ·injection h with h;injection h with h1 h2;exact⟨rfl,h2.symm⟩
 ·cases h
theorem n202:cH Go.Proofs.Tryz.prog 202 (gX (JE (.slice none 0 0))):=tQ (aL (xl:=[]) .nil) fun args v hs=>by
 obtain⟨rfl,rfl⟩:=I3 hs;refine⟨rfl,rfl,?_⟩;(conv=>whnf)
theorem n134:cH Go.Proofs.Tryz.prog 134 (gX (JE (.tuple #[]))):=tQ (j3 (zL (xl:=[]) .nil 4) 8).1 fun args v hs=>by
 obtain⟨rfl,rfl⟩:=I3 hs;refine⟨rfl,rfl,?_⟩
 repeat' (((conv=>whnf);refine bm (fun g=>?_) (fun g=>?_)))
 all_goals (conv=>whnf)
end Go.Aw
end

noncomputable section
namespace Go.Aw
def kU (l:List Int):List Int:=l.mergeSort fun x y=>decide (x≤y)
theorem KG (l:List Int):(kU l).length=l.length:=List.length_mergeSort l
theorem S4 (l:List Int):(kU l).Perm l:=List.mergeSort_perm l _
theorem LX (l:List Int):(kU l).Pairwise fun x y=>x≤y:=by
 have:=List.pairwise_mergeSort (le:=fun x y:Int=>decide (x≤y)) (fun a b c h1 h2=>by simp only [decide_eq_true_eq] at *;omega) (fun a b=>by simp only [Bool.or_eq_true,decide_eq_true_eq];omega) l;exact this.imp fun h=>by simpa using h
def sI:XF:=fun args h nx K=>match args with
 |[.slice (some ⟨k,0,none⟩) n c]=>∃ l,n=l.length∧look h k=some (.cells true false 1 (flat aN.fl l))∧l.length≤1000000∧0<l.length∧K (.tuple #[]) (r7 h k (.cells true false 1 (flat aN.fl (kU l)))) nx
 |_=>False
def sIn:XF:=fun args h nx K=>sI args h nx K∨gX (JE (.tuple #[])) args h nx K
def cIn:XF:=fun args h nx K=>cpI args h nx K∨gX (JE (.slice none 0 0)) args h nx K
theorem aLQ:cH Go.Proofs.Tryz.prog 202 cIn:=aNg.or n202
end Go.Aw
end

noncomputable section
namespace Go.Proofs
open Go.Shelf
def Tryz.NK:Go.Shelf.Ren:=⟨fun|189=>134|125=>204|257=>203|128=>238|129=>239|294=>229|295=>230|296=>231|297=>232|298=>233|299=>234|216=>235|300=>236|301=>237|328=>259|329=>260|330=>261|331=>262|332=>263|215=>221|343=>272|n=>n,fun|28=>30|3=>3|46=>199|0=>0|51=>222|53=>224|4=>4|183=>215|182=>214|131=>163|5=>5|9=>9|218=>235|222=>239|228=>246|229=>206|n=>n,fun|n=>n⟩
theorem Tryz.aFo:Go.Proofs.Lays.n189 Tryz.prog Tryz.NK:={
 mixed:=by kernel_rfl
 f125:=Tryz.func204.trans (congrArg some (by kernel_rfl))
 f128:=Tryz.func238.trans (congrArg some (by kernel_rfl))
 f129:=Tryz.func239.trans (congrArg some (by kernel_rfl))
 f189:=Tryz.func134.trans (congrArg some (by kernel_rfl))
 f215:=Tryz.func221.trans (congrArg some (by kernel_rfl))
 f216:=Tryz.func235.trans (congrArg some (by kernel_rfl))
 f257:=Tryz.func203.trans (congrArg some (by kernel_rfl))
 f294:=Tryz.func229.trans (congrArg some (by kernel_rfl))
 f295:=Tryz.func230.trans (congrArg some (by kernel_rfl))
 f296:=Tryz.func231.trans (congrArg some (by kernel_rfl))
 f297:=Tryz.func232.trans (congrArg some (by kernel_rfl))
 f298:=Tryz.func233.trans (congrArg some (by kernel_rfl))
 f299:=Tryz.func234.trans (congrArg some (by kernel_rfl))
 f300:=Tryz.func236.trans (congrArg some (by kernel_rfl))
 f301:=Tryz.func237.trans (congrArg some (by kernel_rfl))
 f328:=Tryz.func259.trans (congrArg some (by kernel_rfl))
 f329:=Tryz.func260.trans (congrArg some (by kernel_rfl))
 f330:=Tryz.func261.trans (congrArg some (by kernel_rfl))
 f331:=Tryz.func262.trans (congrArg some (by kernel_rfl))
 f332:=Tryz.func263.trans (congrArg some (by kernel_rfl))
 f343:=Tryz.func272.trans (congrArg some (by kernel_rfl))
 t0:=Tryz.underlying0
 a0:=Tryz.isAgg0
 z0:=Tryz.sizeOf0
 v0:=Tryz.zeroValue0
 t3:=Tryz.underlying3
 a3:=Tryz.isAgg3
 z3:=Tryz.sizeOf3
 v3:=Tryz.zeroValue3
 t4:=Tryz.underlying4
 a4:=Tryz.isAgg4
 z4:=Tryz.sizeOf4
 v4:=Tryz.zeroValue4
 t5:=Tryz.underlying5
 a5:=Tryz.isAgg5
 z5:=Tryz.sizeOf5
 v5:=Tryz.zeroValue5
 t9:=Tryz.underlying9
 a9:=Tryz.isAgg9
 z9:=Tryz.sizeOf9
 v9:=Tryz.zeroValue9
 t28:=Tryz.underlying30
 a28:=Tryz.isAgg30
 z28:=Tryz.sizeOf30
 v28:=Tryz.zeroValue30
 t46:=Tryz.underlying199
 a46:=Tryz.isAgg199
 z46:=Tryz.sizeOf199
 v46:=Tryz.zeroValue199
 t51:=Tryz.underlying222
 a51:=Tryz.isAgg222
 z51:=Tryz.sizeOf222
 v51:=Tryz.zeroValue222
 t53:=Tryz.underlying224
 a53:=Tryz.isAgg224
 z53:=Tryz.sizeOf224
 v53:=Tryz.zeroValue224
 t131:=Tryz.underlying163
 a131:=Tryz.isAgg163
 z131:=Tryz.sizeOf163
 v131:=Tryz.zeroValue163
 t182:=Tryz.underlying214
 a182:=Tryz.isAgg214
 z182:=Tryz.sizeOf214
 v182:=Tryz.zeroValue214
 t183:=Tryz.underlying215
 a183:=Tryz.isAgg215
 z183:=Tryz.sizeOf215
 v183:=Tryz.zeroValue215
 t218:=Tryz.underlying235
 a218:=Tryz.isAgg235
 z218:=Tryz.sizeOf235
 v218:=Tryz.zeroValue235
 t222:=Tryz.underlying239
 a222:=Tryz.isAgg239
 z222:=Tryz.sizeOf239
 v222:=Tryz.zeroValue239
 t228:=Tryz.underlying246
 a228:=Tryz.isAgg246
 z228:=Tryz.sizeOf246
 v228:=Tryz.zeroValue246
 t229:=Tryz.underlying206
 a229:=Tryz.isAgg206
 z229:=Tryz.sizeOf206
 v229:=Tryz.zeroValue206 }
end Go.Proofs
end

noncomputable section
namespace Go.Aw
open Go.RowKit Go.Shelf Go.Sort Go.Proofs
set_option maxRecDepth 100000
theorem OT (l:List Int){j:Nat}(h:j<l.length):(flat aN.fl l)[j]? = some (iv l.toArray[j]!):=by
 have h1:nth (flat aN.fl l) j=some (iv (aK l j)):=eK l h (by omega);rw [← uG,h1,dR h];simp [h]
theorem d134:cH Go.Proofs.Tryz.prog 134 sI:=by
 refine⟨fun args h nx K hx ι B w H hsc=>?_,fun args h nx K hx=>?_⟩
 ·unfold sI at hx;split at hx
  case h_2=>exact hx.elim
  rename_i k n c;obtain⟨l,rfl,hk,hlen,hpos,hK⟩:=hx;refine⟨⟨Go.Proofs.Tryz.f134,Go.Proofs.Tryz.func134,rfl,by decide +kernel⟩,?_⟩;have hsl:k<nx∧((ι k).fP=false→l.length=0∧c=0):=hsc _ (.head _);have ho:=H.obj k _ hk;cases hι:ι k with
  |nil p =>
   have:=hsl.2 (by rw [hι];rfl);omega
  |lay b off ex =>
   rw [hι] at ho;obtain⟨hB,_,arr,t,hblk,hsz,hcell⟩:=ho;rw [pB,Nat.mul_one] at hsz;have hlt:b<w.heap.size:=(Array.getElem?_eq_some_iff.1 hblk).1;have hds:l.toArray.size=l.length:=(by simp);have hH:Holds (Value.int .i64) w b off l.toArray:=by
    intro j hj;rw [hds] at hj;have h1:=OT l hj;have h2:=hcell j _ h1;rw [kM (aW (aG aN l) (List.mem_of_getElem? h1))] at h2;refine⟨?_,?_⟩
    ·simp only [World.cell?,hblk];exact h2
    ·simp only [World.frozen?,hblk];simp
   have hcon:=Any.slices_Sort_int Go.Proofs.Tryz.aFo b off (c+ex) l w hH hlt (by omega);change Calls Go.Proofs.Tryz.prog 134 _ _ _ at hcon;have hargs:(([.slice (some ⟨k,0,none⟩) l.length c]:List Value).map (tr ι)).toArray=#[.slice (some ⟨b,off,none⟩) l.length (c+ex)]:=by
    simp only [List.map_cons,List.map_nil,tr,dU,bR,dV,hι,Nat.add_zero]
   rw [hargs];refine callsIn_wide.2 (hcon.mono fun e w' hr=>?_);obtain⟨rfl,n,os,rfl⟩:=hr;have hzl:=KG l;change List Int at l;have hes:(l.mergeSort fun x y=>decide (x≤y))=kU l:=rfl;rw [hes];generalize hZ:kU l=Z at *;have hd':Z.toArray.size=l.length:=(by simpa using hzl);have hw1:(putRow (Value.int .i64) (Sort.ahead w n) b off Z.toArray).heap=w.heap.modify b (onCells (putCells (Value.int .i64) off Z.toArray)):=rfl;have hsz1:(putRow (Value.int .i64) (Sort.ahead w n) b off Z.toArray).heap.size=w.heap.size:=(by rw [hw1,Array.size_modify]);have hoth:∀ b',b'≠b→(putRow (Value.int .i64) (Sort.ahead w n) b off Z.toArray).heap[b']? = w.heap[b']? := fun b' hne=>by
    rw [hw1,Array.getElem?_modify,if_neg (fun e=>hne e.symm)]
   have hat:(putRow (Value.int .i64) (Sort.ahead w n) b off Z.toArray).heap[b]? = some (.cells (putCells (Value.int .i64) off Z.toArray arr) t (0,0)):=by
    rw [hw1,Array.getElem?_modify,if_pos rfl,hblk];rfl
   have h1:aT ι B (r7 h k (.cells true false 1 (flat aN.fl Z))) nx (putRow (Value.int .i64) (Sort.ahead w n) b off Z.toArray):=by
    refine H.set hk rfl ?_ (fun v hv=>cL (aW (aG aN _) hv)) rfl (fun b' hb'=>hoth b' (fun e=>hb' (by rw [hι,e];rfl))) (Nat.le_of_eq hsz1.symm);rw [hι];refine⟨hB,(fun h=>(by cases h)),_,t,hat,?_,fun i v hv=>?_⟩
    ·rw [pB,Nat.mul_one,hzl];unfold putCells;rw [Array.size_mapIdx];exact hsz
    ·have hi:i<l.length:=by
      have:=(List.getElem?_eq_some_iff.1 hv).1;rw [pB,Nat.mul_one,hzl] at this;exact this
     have hg:v=iv Z.toArray[i]! := by
      have h2:=OT Z (j:=i) (by rw [hzl];exact hi);rw [hv] at h2;injection h2
     rw [kM (aW (aG aN _) (List.mem_of_getElem? hv)),hg];unfold putCells;have hia:off+i<arr.size:=(by omega);rw [Array.getElem?_mapIdx,Array.getElem?_eq_getElem hia];simp only [Option.map_some];rw [if_pos ⟨by omega,by rw [hd'];omega⟩,show off+i - off=i by omega];rfl
   have hbel1:gV B w (putRow (Value.int .i64) (Sort.ahead w n) b off Z.toArray):=⟨rfl,rfl,rfl,Nat.le_of_eq hsz1.symm,fun b' hb'=>hoth b' (by omega),Nat.le_add_right _ _⟩;have hbel2:∀ B',B'≤(putRow (Value.int .i64) (Sort.ahead w n) b off Z.toArray).heap.size→gV B' (putRow (Value.int .i64) (Sort.ahead w n) b off Z.toArray) (Go.Sort.grow (putRow (Value.int .i64) (Sort.ahead w n) b off Z.toArray) os):=fun B' hB'=>⟨rfl,rfl,rfl,by unfold Go.Sort.grow;rw [Array.size_append];omega,fun b' hb'=>by unfold Go.Sort.grow;exact Array.getElem?_append_left (by omega),Nat.le_refl _⟩;exact⟨_,_,nx,ι,hK,(fun v hv=>by cases hv),h1.ext (hbel2 _ (Nat.le_refl _)),hbel1.trans (hbel2 B (by rw [hsz1];exact H.size)),fun _ _=>rfl,Nat.le_refl _,(by simp [tr])⟩
 ·unfold sI at hx;split at hx
  case h_2=>exact hx.elim
  rename_i k n c;obtain⟨l,hn,hk,hlen,hpos,hK⟩:=hx;exact⟨_,_,_,hK,fun K' hk'=>⟨l,hn,hk,hlen,hpos,hk'⟩⟩
theorem aMJ:cH Go.Proofs.Tryz.prog 134 sIn:=d134.or n134
end Go.Aw
end

noncomputable section
namespace Go.Aw
set_option maxRecDepth 100000
set_option maxHeartbeats 2000000
def jR (P:Ed→Bool)(m:List Ed):Nat→List Int
 |0=>[]
 |i+1=>if P (cO m i)=true then jR P m i++[(i:Int)] else jR P m i
theorem TH {P:Ed→Bool}{m:List Ed}{i:Nat}(h:P (cO m i)=true):jR P m (i+1)=jR P m i++[(i:Int)]:=by
 show (if _ then _ else _)=_;rw [if_pos h]
theorem SJ {P:Ed→Bool}{m:List Ed}{i:Nat}(h:P (cO m i)=false):jR P m (i+1)=jR P m i:=by
 show (if _ then _ else _)=_;rw [if_neg (by rw [h];decide)]
theorem N6 (P:Ed→Bool)(m:List Ed):∀ i,(jR P m i).length≤i
 |0=>Nat.le_refl _
 |i+1=>by
  have:=N6 P m i;unfold jR;split
  ·rw [List.length_append,List.length_singleton];omega
  ·omega
def OX (R:Heap)(nP:Nat)(m:List Ed)(nD nL c1 c2:Nat)(n:Int)(fo:Option (Nat × Nat)):Heap:=(0,.cells false false 1 (xO 4 5 1 2 6 nP m.length nD nL c1 c2 n fo))::(5,.cells false true aS.sz (flat aS.fl m))::R
def vP (a b:Int)(e:Ed):Bool:=(decide (e.l=a)&&decide (e.r=b)) || (decide (e.l=b)&&decide (e.r=a))
def ovB (ρ:Nat→Nat)(ka kb:Nat)(k:Nat):Nat:=if k=7 then ka else if k=8 then kb else ρ k
theorem aJL {h:Heap}{p:Nat}{l:List Pt}{m:List Ed}{n:Int}(hw:WA h p l m n){R:Heap}{ka kb:Nat}{F F0:Value}{nx:Nat}(hF:∀ ρ:Nat→Nat,ρ 7=ka→ρ 8=kb→F=iQ ρ F0)(hn:BB 2000 F0)
  (hR:∀ ρ:Nat→Nat,ρ 7=ka→ρ 8=kb→∀ k o,look R k=some o→k<2000∧∃ g sz cs0,o=.cells false g sz cs0∧sz≠0∧(g=true→dG cs0=true)∧(∀ v∈cs0,B3 2000 v)∧∃ wr g' sz' cs,look h (ρ k)=some (.cells wr g' sz' cs)∧cs.take cs0.length=cs0.map (bP ρ)) :
  ∃ nP nD nL c1 c2 fo,In [.pointer (some ⟨0,0,none⟩),F0] (OX R nP m nD nL c1 c2 n fo) 2000 [.pointer (some ⟨p,0,none⟩),F] h nx:=by
 obtain⟨ok,sm,k0,k1,kd,kt,kf,nm,c1,c2,w,⟨w1,g1,s1,x1,a1,b1⟩,_⟩:=hw;obtain⟨wr,g,sz,hst⟩:=w.st;refine⟨l.length,(aR l m m.length).length,(outs l m).length,c1,c2,some ((aR l m m.length).length,(aR l m m.length).length),xK (ovB (rhW p k0 k1 kd kt kf 0 nm 0) ka kb) ?_ ?_ fun k o hk=>?_⟩
 ·show [Value.pointer (some ⟨p,0,none⟩),F]=[iQ _ (.pointer (some ⟨0,0,none⟩)),iQ _ F0];rw [← hF _ rfl rfl];rfl
 ·exact List.forall_mem_cons.2 ⟨rU rfl,List.forall_mem_cons.2 ⟨hn,fun _ h=>by cases h⟩⟩
 ·unfold OX at hk;rw [aE] at hk;split at hk
  ·rename_i hq;injection hk with hk;subst hk;rw [← beq_true hq]
   exact⟨by decide,false,1,_,rfl,by decide,(fun h=>by cases h),oV rfl,wr,g,sz,_,hst,rfl⟩
  ·rw [aE] at hk;split at hk
   ·rename_i hq;injection hk with hk;subst hk;rw [← beq_true hq]
    exact⟨by decide,true,aS.sz,_,rfl,by decide,fun _=>aG aS m,fun v hv=>cL (aW (aG aS m) hv),w1,g1,s1,x1,a1,by rw [b1];exact (bW (aG aS m)).symm⟩
   ·exact hR _ rfl rfl k o hk
abbrev pV (k:Nat):Value:=.pointer (some ⟨k,0,none⟩)
theorem aHj {R:Heap}{nP:Nat}{m:List Ed}{nD nL c1 c2:Nat}{n:Int}{fo:Option (Nat × Nat)}(h:xC R 2000):xC (OX R nP m nD nL c1 c2 n fo) 2000:=by
 refine cA (cA h (by decide) (aO (aG _ _))) (by decide) ?_;refine OA ?_;exact List.forall_mem_cons.2 ⟨⟨rfl,dS rfl⟩,List.forall_mem_cons.2 ⟨⟨rfl,dS rfl⟩,List.forall_mem_cons.2 ⟨⟨rfl,dS rfl⟩,List.forall_mem_cons.2 ⟨⟨rfl,dS rfl⟩,List.forall_mem_cons.2 ⟨⟨rfl,dS rfl⟩,List.forall_mem_cons.2 ⟨⟨by cases fo <;> rfl,by cases fo <;> exact dS rfl⟩,fun _ h=>by cases h⟩⟩⟩⟩⟩⟩
theorem O7 {α:Type}{E:El α}{out:List α}{e:Option Int}{h:Heap}{nx:Nat}{K:KE}(hx:KW E out e h nx K):∃ v h' nx',K v h' nx'∧∀ K':KE,K' v h' nx'→KW E out e h nx K':=by
 cases out with
 |nil=>exact⟨_,_,_,hx,fun K' hk=>hk⟩
 |cons a t=>exact⟨_,_,_,hx,fun K' hk=>hk⟩
end Go.Aw
end
