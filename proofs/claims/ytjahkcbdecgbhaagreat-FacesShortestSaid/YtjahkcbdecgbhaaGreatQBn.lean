/-
  Parts of a proof. No condition.
-/
import Derived.Test.YtjahkcbdecgbhaaGreatQAr
import Derived.Test.YtjahkcbdecgbhaaGreatQAz
import Derived.Test.YtjahkcbdecgbhaaGreatQBm
import Derived.Shelf.Sort.Plain
set_option linter.unusedSimpArgs false
set_option linter.unusedVariables false
noncomputable section
namespace Go.Aw
set_option maxRecDepth 100000
def LB (a b:Int):Bool:=decide (a=b)
theorem nY (l:List Int):(flat aL.fl l).length=l.length*1:=bJ aL l
theorem pC (n:Nat)(zs:List Value):(rep n zs).length=n*zs.length:=by
 unfold rep;rw [List.length_flatten,List.map_replicate,List.sum_replicate_nat]
theorem nH (a b:Nat):aA.A.subN a b=a - b:=rfl
theorem rC (a:Int):aA.A.toN a=a.toNat:=rfl
theorem E9 (o:Nat)(i:Int)(s:Nat):aA.A.ix o i s=o+i.toNat*s:=rfl
theorem OR {a b:Nat}:(Nat.ble a b=true)↔a≤b:=⟨Nat.le_of_ble_eq_true,Nat.ble_eq_true_of_le⟩
theorem O1 {a b:Nat}:(Nat.ble a b=false)↔b<a:=by
 constructor
 ·intro h;apply Classical.byContradiction;intro hn;rw [Nat.ble_eq_true_of_le (by omega)] at h;cases h
 ·intro h;cases hb:Nat.ble a b with
  |false=>rfl
  |true=>have:=Nat.le_of_ble_eq_true hb;omega
theorem YK (l:List Int)(i:Nat)(v:Int)(h:i<l.length):dE (flat aL.fl l) (i*1) [iv v]=flat aL.fl (l.set i v):=lZ l i v h
def gV (l:List Int):Nat→List Int
 |0=>[]
 |p+1=>gV l p++(if p=0∨LB (aB l p) (aB l (p - 1))=false then [aB l p] else [])
theorem sZ (l:List Int):∀ p,(gV l p).length≤p
 |0=>Nat.le_refl _
 |p+1=>by
  have:=sZ l p;unfold gV;rw [List.length_append];split <;> simp <;> omega
theorem JX {l:List Int}{p:Nat}(h:LB (aB l p) (aB l (p - 1))=false):gV l (p+1)=gV l p++[aB l p]:=by
 conv=>lhs;unfold gV
 rw [if_pos (.inr h)]
theorem DJ {l:List Int}{p:Nat}(h0:0<p)(h:LB (aB l p) (aB l (p - 1))=true):gV l (p+1)=gV l p:=by
 conv=>lhs;unfold gV
 rw [if_neg (by rintro (h1 | h1); · omega
                ·rw [h] at h1;cases h1),List.append_nil]
theorem DD {l:List Int}:∀ p,p≤l.length→(∀ i,0<i→i<p→LB (aB l i) (aB l (i - 1))=false)→gV l p=l.take p
 |0,_,_=>rfl
 |p+1,hp,h=>by
  unfold gV;have h1:p=0∨LB (aB l p) (aB l (p - 1))=false:=by
   by_cases h0:p=0
   ·exact .inl h0
   ·exact .inr (h p (by omega) (by omega))
  rw [if_pos h1,DD p (by omega) (fun i h0 hi=>h i h0 (by omega)),dK (show p<l.length by omega),List.take_append_getElem (by omega)]
def GX (l:List Int)(p:Nat):List Int:=gV l p++l.drop (gV l p).length
theorem yU (l:List Int){p:Nat}(hp:p≤l.length):(GX l p).length=l.length:=by
 have:=sZ l p;unfold GX;rw [List.length_append,List.length_drop];omega
theorem aFT (l:List Int){p k:Nat}(hp:p≤l.length)(hk:(gV l p).length≤k)(hkl:k<l.length):aB (GX l p) k=aB l k:=by
 rw [dK (by rw [yU l hp];exact hkl),dK hkl];unfold GX;rw [List.getElem_append_right hk,List.getElem_drop];congr 1;omega
theorem aCk {l:List Int}{p:Nat}(hp:p<l.length)(hd:(gV l p).length<p)(h:LB (aB l p) (aB l (p - 1))=false):(GX l p).set (gV l p).length (aB l p)=GX l (p+1):=by
 unfold GX;rw [JX h,List.length_append,List.length_singleton];rw [List.set_append_right _ _ (Nat.le_refl _),Nat.sub_self,List.append_assoc];congr 1;rw [List.drop_eq_getElem_cons (show (gV l p).length<l.length by omega)];rfl
theorem YY {l:List Int}{p:Nat}(h0:0<p)(h:LB (aB l p) (aB l (p - 1))=true):GX l p=GX l (p+1):=by
 unfold GX;rw [DJ h0 h]
theorem XW {l:List Int}{p:Nat}(h0:0<p)(hp:p<l.length)(hno:∀ i,0<i→i<p→LB (aB l i) (aB l (i - 1))=false)(h:LB (aB l p) (aB l (p - 1))=true):GX l (p+1)=l∧(gV l (p+1)).length=p:=by
 have e:=DD p (by omega) hno;have e2:gV l (p+1)=l.take p:=(by rw [DJ h0 h,e]);have e3:(gV l (p+1)).length=p:=(by rw [e2,List.length_take];omega);refine⟨?_,e3⟩;unfold GX;rw [e3,e2,List.take_append_drop]
theorem ZN {l:List Int}{o m:Nat}(ho:o=(gV l l.length).length*1)(hm:m=l.length - (gV l l.length).length):dE (flat aL.fl (GX l l.length)) o (rep m [iv 0])=flat aL.fl (gV l l.length)++rep m [iv 0]:=by
 have h1:=sZ l l.length;subst ho;unfold dE GX;have l1:(flat aL.fl (gV l l.length)).length=(gV l l.length).length*1:=nY _;have l2:(flat aL.fl (l.drop (gV l l.length).length)).length=(l.length - (gV l l.length).length)*1:=(by rw [nY,List.length_drop]);have l3:(rep m [iv 0]).length=m*1:=pC _ _;rw [rL,List.take_left' l1,l3];rw [List.drop_eq_nil_of_le (by rw [List.length_append,l1,l2,hm];omega),List.append_nil]
def SCn (l:List Int):List Value→Nat→Option (Bool × Option Nat × List Value)
 |[],c=>some (decide (l.length≤1000000)&&decide (l.length≤c),some (gV l l.length).length,flat aL.fl (gV l l.length)++rep (l.length - (gV l l.length).length) [iv 0])
 |_,_=>none
theorem aDC {l:List Int}{r:List Value}{c:Nat}{m:Option Nat}{cs:List Value}(h:SCn l r c=some (true,m,cs)):r=[]∧l.length≤1000000∧l.length≤c∧m=some (gV l l.length).length∧cs=flat aL.fl (gV l l.length)++rep (l.length - (gV l l.length).length) [iv 0]:=by
 unfold SCn at h;split at h
 ·injection h with h;injection h with h1 h2;injection h2 with h2 h3;simp only [Bool.and_eq_true,decide_eq_true_eq] at h1;exact⟨rfl,h1.1,h1.2,h2.symm,h3.symm⟩
 ·cases h
theorem aGG (n:Nat):c9 (rep n [iv 0])=true:=by
 unfold rep;refine pM fun v hv=>?_;obtain⟨x,hx,hv⟩:=List.mem_flatten.1 hv;rw [(List.mem_replicate.1 hx).2] at hv;simp only [List.mem_cons,List.not_mem_nil,or_false] at hv;rcases hv with rfl|rfl <;> rfl
theorem FP (k o n c:Nat):iB id (.slice (some ⟨k,o,none⟩) n c)=.slice (some ⟨k,o,none⟩) n c:=by
 unfold iB;simp only [tr,dS,bS,dT,lB,Nat.zero_add,Nat.add_zero,id]
def W5 (n c:Nat)(k:Int):List (Nat × Value):=[(0,.slice (some ⟨0,0,none⟩) n c),(3,iv k)]
def AW (n c:Nat)(o2 n2 c2:Nat)(k k2:Int):List (Nat × Value):=[(0,.slice (some ⟨0,0,none⟩) n c),(3,iv k),(4,.slice (some ⟨0,o2,none⟩) n2 c2),(5,iv k2)]
theorem aEG {l:List Int}{p q o:Nat}(hp:p≤l.length)(hd:(gV l p).length≤q)(hq:q<l.length)(ho:o=q*1):nth (flat aL.fl (GX l p)) o=some (iv (aB l q)):=by
 rw [← aFT l hp hd hq];exact cF _ (by rw [yU l hp];exact hq) ho
set_option maxHeartbeats 1000000 in
attribute [local irreducible] aB GX gV in
theorem d202:dM Go.Proofs.Tryz.prog 202 (frX aL SCn):=aGC aL (s:=SCn) (f:=202) (aO (xl:=[]) .nil) fun l r c m cs' hs=>by
 obtain⟨rfl,hlen,hlc,rfl,rfl⟩:=aDC hs;refine⟨rfl,by rw [A7,aE aL,aGG];rfl,(fun q e=>by injection e with e;rw [← e];exact sZ l _),fun F N hF=>?_⟩;have hN:=hF.1;clear hs;((conv=>whnf);refine bm (fun h1=>?_) (fun h1=>?_))
 ·have hsm:l.length<2:=(by simp only [nO,lI,decide_eq_true_eq] at h1;omega);have hd:gV l l.length=l:=by
   rw [DD l.length (Nat.le_refl _) (fun i h0 hi=>by omega),List.take_length]
  rw [hd,Nat.sub_self];(conv=>whnf);exact⟨rfl,(by show (0,aT.cells true false 1 (flat aL.fl l))::F=_;rw [show rep 0 [iv 0]=[] from rfl,List.append_nil];rfl)⟩
 ·have hbig:2≤l.length:=(by simp only [nO,lI,decide_eq_false_iff_not] at h1;omega);(conv=>whnf);refine⟨fun n e h nq=>∃ (i:Nat) (a:Int),a=i∧1≤i∧i≤l.length∧n=l.length - i∧(∀ j,0<j→j<i→LB (aB l j) (aB l (j - 1))=false)∧e=W5 l.length c a∧h=(0,.cells true false 1 (flat aL.fl l))::F∧nq=N,⟨l.length - 1,?_⟩,?_⟩
  ·refine bI (e0:=W5 l.length c 1) hF ⟨1,1,rfl,Nat.le_refl _,by omega,rfl,(fun j h0 h1=>by omega),rfl,rfl,rfl⟩ ?_ ?_ (Nat.le_refl _)
   ·unfold W5;((repeat' (refine List.forall_mem_cons.2 ⟨⟨by first|rfl|(rw [FP];rfl),?_⟩,?_⟩;(first|exact cY rfl|exact⟨hN,fun h=>(by cases h)⟩)));exact fun _ h=>(by cases h))
   ·exact aK (aE aL _)
  ·rintro n e h nq ⟨i,a,ha,hi1,hi,rfl,hno,rfl,rfl,hnx⟩;subst hnx;unfold W5;((conv=>whnf);refine bm (fun g1=>?_) (fun g1=>?_))
   ·have hlt:i<l.length:=(by simp only [nO,lI,decide_eq_true_eq] at g1;omega);have hlt1:i - 1<l.length:=(by omega);have hi0:0<i:=by omega
    repeat' first
     |(exfalso
       simp only [zJ,vY,pX,nO,IW,A9,nJ,tG,lI,nH,rC,aI,OR,O1,nY,Bool.not_eq_false',Bool.not_eq_true',Bool.and_eq_false_iff,Bool.and_eq_true,decide_eq_true_eq,decide_eq_false_iff_not,List.length_append,List.length_take,List.length_drop,List.length_nil,List.length_cons,E9,pC,dE] at g;omega)
     |(((conv=>whnf);refine bm (fun g=>?_) (fun g=>?_)))
     |((conv=>whnf)
       refine eP (cF l hlt ?_) ?_
       ·simp [aA,aF];omega)
     |((conv=>whnf)
       refine eP (cF l hlt1 ?_) ?_
       ·show 0+(a - 1).toNat*1=_;omega)
    all_goals (conv=>whnf)
    ·have hdup:LB (aB l i) (aB l (i - 1))=true:=‹aA.A.eq (aB l i) (aB l (i - 1))=true›;obtain⟨hW,hD⟩:=XW hi0 hlt hno hdup;refine⟨fun m e h nr=>∃ (p:Nat) (a' b:Int),i+1≤p∧p≤l.length∧m=l.length - p∧b=(p:Int) - i∧a'=((gV l p).length:Int)∧(gV l p).length<p∧e=AW l.length c (aA.A.ix 0 a 1) (aA.A.subN l.length (aA.A.toN a)) (aA.A.subN c (aA.A.toN a)) a' b∧h=(0,.cells true false 1 (flat aL.fl (GX l p)))::F∧nr=nq,⟨l.length - (i+1),?_⟩,?_⟩
     ·refine bI (e0:=AW l.length c (aA.A.ix 0 a 1) (aA.A.subN l.length (aA.A.toN a)) (aA.A.subN c (aA.A.toN a)) a 1) hF ⟨i+1,a,1,Nat.le_refl _,by omega,rfl,by omega,by rw [hD];exact ha,by omega,rfl,rfl,rfl⟩ ?_ ?_ (Nat.le_refl _)
      ·unfold AW;((repeat' (refine List.forall_mem_cons.2 ⟨⟨by first|rfl|(rw [FP];rfl),?_⟩,?_⟩;(first|exact cY rfl|exact⟨hN,fun h=>(by cases h)⟩)));exact fun _ h=>(by cases h))
      ·rw [hW];exact aK (aE aL _)
     ·rintro m e h nr ⟨p,a',b,hp1,hp2,rfl,hb,ha',hd',rfl,rfl,hnr⟩;subst hnr;have hF:=hF;unfold AW;((conv=>whnf);refine bm (fun g2=>?_) (fun g2=>?_))
      ·have hpl:p<l.length:=(by simp only [nO,lI,nH,rC,decide_eq_true_eq] at g2;omega);have hwl:=yU l hp2
       repeat' first
        |(exfalso
          simp only [zJ,vY,pX,nO,IW,A9,nJ,tG,lI,nH,rC,aI,OR,O1,nY,hwl,Bool.not_eq_false',Bool.not_eq_true',Bool.and_eq_false_iff,Bool.and_eq_true,decide_eq_true_eq,decide_eq_false_iff_not,List.length_nil,List.length_cons,E9] at g;omega)
        |(((conv=>whnf);refine bm (fun g=>?_) (fun g=>?_)))
        |((conv=>whnf)
          refine eP (aEG (q:=p) hp2 (by omega) hpl ?_) ?_
          ·simp only [E9,vY];omega)
        |((conv=>whnf)
          refine eP (aEG (q:=p - 1) hp2 (by omega) (by omega) ?_) ?_
          ·simp only [E9,vY];omega)
       all_goals (conv=>whnf)
       ·have hneq:LB (aB l p) (aB l (p - 1))=false:=by
         have hg:(!(LB (aB l p) (aB l (p - 1))))=true:=‹aA.A.notB (aA.A.eq (aB l p) (aB l (p - 1)))=true›;simpa using hg
        refine⟨l.length - (p+1),by omega,?_⟩;refine bI (e0:=AW l.length c (aA.A.ix 0 a 1) (aA.A.subN l.length (aA.A.toN a)) (aA.A.subN c (aA.A.toN a)) (a'+1) (b+1)) hF ⟨p+1,a'+1,b+1,by omega,hpl,rfl,by omega,by rw [JX hneq,List.length_append,List.length_singleton];omega,by rw [JX hneq,List.length_append,List.length_singleton];omega,rfl,rfl,rfl⟩ ?_ ?_ (Nat.le_refl _)
        ·unfold AW;((repeat' (refine List.forall_mem_cons.2 ⟨⟨by first|rfl|(rw [FP];rfl),?_⟩,?_⟩;(first|exact cY rfl|exact⟨hN,fun h=>(by cases h)⟩)));exact fun _ h=>(by cases h))
        ·refine bG (aE aL _) ?_;rw [← aCk hpl hd' hneq,← YK _ _ _ (by rw [yU l hp2];omega)];show dE _ (0+a'.toNat*1) _=_;rw [show 0+a'.toNat*1=(gV l p).length*1 by omega];rfl
       ·exfalso;have hx:0+a'.toNat*1+1≤(flat aL.fl (GX l p)).length:=(by rw [nY,hwl];omega);have hc:Nat.ble (0+a'.toNat*1+1) (flat aL.fl (GX l p)).length=false:=g;rw [Nat.ble_eq_true_of_le hx] at hc;cases hc
       ·have hneq:LB (aB l p) (aB l (p - 1))=true:=by
         have hg:(!(LB (aB l p) (aB l (p - 1))))=false:=‹aA.A.notB (aA.A.eq (aB l p) (aB l (p - 1)))=false›;simpa using hg
        refine⟨l.length - (p+1),by omega,?_⟩;refine bI (e0:=AW l.length c (aA.A.ix 0 a 1) (aA.A.subN l.length (aA.A.toN a)) (aA.A.subN c (aA.A.toN a)) a' (b+1)) hF ⟨p+1,a',b+1,by omega,hpl,rfl,by omega,by rw [DJ (by omega) hneq];exact ha',by rw [DJ (by omega) hneq];omega,rfl,rfl,rfl⟩ ?_ ?_ (Nat.le_refl _)
        ·unfold AW;((repeat' (refine List.forall_mem_cons.2 ⟨⟨by first|rfl|(rw [FP];rfl),?_⟩,?_⟩;(first|exact cY rfl|exact⟨hN,fun h=>(by cases h)⟩)));exact fun _ h=>(by cases h))
        ·rw [YY (by omega) hneq];exact aK (aE aL _)
      ·have hpe:p=l.length:=(by simp only [nO,lI,nH,rC,decide_eq_false_iff_not] at g2;omega);subst hpe
       repeat' first
        |(exfalso
          simp only [zJ,vY,pX,nO,IW,A9,nJ,tG,lI,nH,rC,aI,OR,O1,nY,Bool.not_eq_false',Bool.not_eq_true',Bool.and_eq_false_iff,Bool.and_eq_true,decide_eq_true_eq,decide_eq_false_iff_not,List.length_append,List.length_take,List.length_drop,List.length_nil,List.length_cons,E9,pC,dE] at g;omega)
        |(((conv=>whnf);refine bm (fun g=>?_) (fun g=>?_)))
       all_goals (conv=>whnf)
       obtain⟨M,hM⟩:∃ M:Nat,aA.A.subN l.length (aA.A.toN a')=M+1:=⟨l.length - a'.toNat - 1,by simp only [nH,rC];omega⟩;have hM2:M+1=l.length - (gV l l.length).length:=by
        have:l.length - a'.toNat=M+1:=hM;omega
       rw [hM]
       repeat' first
        |(exfalso
          simp only [zJ,vY,pX,nO,IW,A9,nJ,tG,lI,nH,rC,aI,OR,O1,nY,Bool.not_eq_false',Bool.not_eq_true',Bool.and_eq_false_iff,Bool.and_eq_true,decide_eq_true_eq,decide_eq_false_iff_not,List.length_append,List.length_take,List.length_drop,List.length_nil,List.length_cons,E9,pC,dE] at g;omega)
        |(((conv=>whnf);refine bm (fun g=>?_) (fun g=>?_)))
       all_goals (conv=>whnf)
       rotate_left
       all_goals try
        (exfalso
         have hx:0+a'.toNat*1+(M+1)*1≤(flat aL.fl (GX l l.length)).length:=(by rw [nY,yU l (Nat.le_refl _)];omega);have hc:Nat.ble (0+a'.toNat*1+(M+1)*1) (flat aL.fl (GX l l.length)).length=false:=g;rw [Nat.ble_eq_true_of_le hx] at hc;cases hc)
       all_goals try
        (exfalso
         simp only [zJ,vY,pX,nO,IW,A9,nJ,tG,lI,nH,rC,aI,OR,O1,nY,Bool.not_eq_false',Bool.not_eq_true',Bool.and_eq_false_iff,Bool.and_eq_true,decide_eq_true_eq,decide_eq_false_iff_not,List.length_append,List.length_take,List.length_drop,List.length_nil,List.length_cons,E9,pC,dE] at g;omega)
       ·refine⟨?_,?_⟩
        ·show Value.slice (some ⟨0,0,none⟩) a'.toNat c=.slice (some ⟨0,0,none⟩) _ c;rw [show a'.toNat=(gV l l.length).length by omega]
        ·show (0,aT.cells true false 1 (dE (flat aL.fl (GX l l.length)) (0+a'.toNat*1) (rep (M+1) [iv 0])))::F=_;rw [ZN (by omega) hM2,hM2];rfl
       all_goals trace_state
    ·have hnd:LB (aB l i) (aB l (i - 1))=false:=‹aA.A.eq (aB l i) (aB l (i - 1))=false›;refine⟨l.length - (i+1),by omega,?_⟩;refine bI (e0:=W5 l.length c (a+1)) hF ⟨i+1,a+1,by omega,by omega,hlt,rfl,(fun j h0 h1=>?_),rfl,rfl,rfl⟩ ?_ ?_ (Nat.le_refl _)
     ·by_cases e:j=i
      ·rw [e];exact hnd
      ·exact hno j h0 (by omega)
     ·unfold W5;((repeat' (refine List.forall_mem_cons.2 ⟨⟨by first|rfl|(rw [FP];rfl),?_⟩,?_⟩;(first|exact cY rfl|exact⟨hN,fun h=>(by cases h)⟩)));exact fun _ h=>(by cases h))
     ·exact aK (aE aL _)
   ·have hge:i=l.length:=(by simp only [nO,lI,decide_eq_false_iff_not] at g1;omega);subst hge;have hd:gV l l.length=l:=by
     rw [DD l.length (Nat.le_refl _) (fun i h0 hi=>hno i h0 hi),List.take_length]
    rw [hd,Nat.sub_self];(conv=>whnf);exact⟨rfl,(by show (0,aT.cells true false 1 (flat aL.fl l))::F=_;rw [show rep 0 [iv 0]=[] from rfl,List.append_nil];rfl)⟩
end Go.Aw
end

noncomputable section
namespace Go.Aw
open Go.RowKit
set_option maxRecDepth 100000
def cpI:XF:=fun args h nx K=>match args with
 |[.slice (some ⟨k,0,none⟩) n c]=>∃ l,n=List.length l∧c=l.length∧look h k=some (.cells true false 1 (flat aL.fl l))∧fQ h=true∧l.length≤1000000∧0<l.length ∧
  K (.slice (some ⟨nx,0,none⟩) (gV l l.length).length (gV l l.length).length) (cV (rem h k) nx (.cells true false 1 (flat aL.fl (gV l l.length)))) (nx+1)
 |_=>False
theorem aJR:dM Go.Proofs.Tryz.prog 202 cpI:=by
 refine⟨fun args h nx K hx ι B w H hsc=>?_,fun args h nx K hx=>?_⟩
 ·unfold cpI at hx;split at hx
  case h_2=>exact hx.elim
  rename_i k n c;obtain⟨l,rfl,rfl,hk,hcH,hlen,hpos,hK⟩:=hx;have hdl:=sZ l l.length;have hrun:=d202.1 [.slice (some ⟨k,0,none⟩) l.length l.length] h nx (fun v h' nx'=>v=rv k l.length (some (gV l l.length).length)∧h'=qJ h k (.cells true false 1 (flat aL.fl (gV l l.length)++rep (l.length - (gV l l.length).length) [iv 0]))∧nx'=nx) ⟨l,rfl,hk,hcH,by
   show dP (decide (l.length≤1000000)&&decide (l.length≤l.length)) _;rw [decide_eq_true hlen,decide_eq_true (Nat.le_refl _)];exact⟨rfl,rfl,rfl⟩⟩ ι B w H hsc
  refine⟨hrun.1,CallsIn.mono hrun.2 fun e w' hret=>?_⟩;cases e with
  |returned u =>
   obtain⟨v,h',nx',ι',⟨rfl,rfl,rfl⟩,q2,q3,q4,q5,q6,rfl⟩:=hret;have hsl:k<nx'∧((ι k).fI=false→l.length=0∧l.length=0):=hsc _ (.head _);have hk':look (qJ h k (.cells true false 1 (flat aL.fl (gV l l.length)++rep (l.length - (gV l l.length).length) [iv 0]))) k=some _:=u6 h k _;have ho:=q3.obj k _ hk';cases hι:ι k with
   |nil p =>
    have:=hsl.2 (by rw [hι];rfl);omega
   |lay b off ex =>
    rw [q5 k hsl.1,hι] at ho;obtain⟨hB,_,arr,t,hblk,hsz,hcell⟩:=ho;have hrl:(rep (l.length - (gV l l.length).length) [iv 0]).length=(l.length - (gV l l.length).length)*1:=pC _ _;rw [List.length_append,nY,hrl] at hsz;have hsub:∀ j o,look (rem h k) j=some o→j≠k∧look (qJ h k (.cells true false 1 (flat aL.fl (gV l l.length)++rep (l.length - (gV l l.length).length) [iv 0]))) j=some o:=by
     intro j o hj;rw [cT] at hj;split at hj
     ·cases hj
     ·rename_i hne;exact⟨hne,by rw [gI _ _ hne];exact hj⟩
    have H1:aQ ι' B (rem h k) nx' w':=q3.sub fun j o hj=>(hsub j o hj).2;have H2:=H1.add (.cells true false 1 (flat aL.fl (gV l l.length))) (.lay b off (ex+(l.length - (gV l l.length).length))) ⟨hB,(fun h=>(by cases h)),arr,t,hblk,by rw [nY];omega,fun i v hv=>by
     have hi:i<(flat aL.fl (gV l l.length)).length:=(List.getElem?_eq_some_iff.1 hv).1;have h3:=hcell i v (by rw [List.getElem?_append_left hi];exact hv);rw [jM (aU (aE aL _) (List.mem_of_getElem? hv))] at h3 ⊢;exact h3⟩ (fun v hv=>cA (aU (aE aL _) hv)) (fun j o hj _ b' hb' e=>by
     obtain⟨hne,hj2⟩:=hsub j o hj;have h4:=q3.sep k j _ _ hk' hj2 (fun e=>hne e.symm) rfl b' (by rw [q5 k hsl.1,hι];exact hb');exact h4 e)
    refine⟨_,_,_,_,hK,⟨(by show nx'<nx'+1;omega),fun hf=>by rw [bC] at hf;cases hf⟩,H2,q4,fun j hj=>(bZ _ _ hj).trans (q5 j hj),by omega,?_⟩;simp only [rv,tr,dS,bS,dT,bC,q5 k hsl.1,hι];congr 1;omega
  |_=>exact hret.elim
 ·unfold cpI at hx;split at hx
  case h_2=>exact hx.elim
  rename_i k n c;obtain⟨l,hn,hc,hk,hcH,hlen,hpos,hK⟩:=hx;exact⟨_,_,_,hK,fun K' hk'=>⟨l,hn,hc,hk,hcH,hlen,hpos,hk'⟩⟩
end Go.Aw
end

noncomputable section
namespace Go.Aw
set_option maxRecDepth 100000
set_option maxHeartbeats 2000000
theorem dM.or {P:Program}{f:Nat}{x y:XF}(hx:dM P f x)(hy:dM P f y):dM P f (fun args h nx K=>x args h nx K∨y args h nx K):=by
 refine⟨fun args h nx K hk=>?_,fun args h nx K hk=>?_⟩
 ·rcases hk with hk|hk
  ·exact hx.1 args h nx K hk
  ·exact hy.1 args h nx K hk
 ·rcases hk with hk|hk
  ·obtain⟨v,h',n',a,b⟩:=hx.2 args h nx K hk;exact⟨v,h',n',a,fun K' hk'=>.inl (b K' hk')⟩
  ·obtain⟨v,h',n',a,b⟩:=hy.2 args h nx K hk;exact⟨v,h',n',a,fun K' hk'=>.inr (b K' hk')⟩
def H3 (v:Value):List Value→Option (Bool × Value)
 |[.slice none 0 0]=>some (true,v)
 |_=>none
theorem II {v w:Value}{args:List Value}(h:H3 v args=some (true,w)):args=[.slice none 0 0]∧w=v:=by
 unfold H3 at h;split at h
 ·injection h with h;injection h with h1 h2;exact⟨rfl,h2.symm⟩
 ·cases h
theorem n202:dM Go.Proofs.Tryz.prog 202 (gX (H3 (.slice none 0 0))):=sC (aO (xl:=[]) .nil) fun args v hs=>by
 obtain⟨rfl,rfl⟩:=II hs;refine⟨rfl,rfl,?_⟩;(conv=>whnf)
theorem n134:dM Go.Proofs.Tryz.prog 134 (gX (H3 (.tuple #[]))):=sC (iU (xO (xl:=[]) .nil 4) 8).1 fun args v hs=>by
 obtain⟨rfl,rfl⟩:=II hs;refine⟨rfl,rfl,?_⟩
 repeat' (((conv=>whnf);refine bm (fun g=>?_) (fun g=>?_)))
 all_goals (conv=>whnf)
end Go.Aw
end

noncomputable section
namespace Go.Aw
def j0 (l:List Int):List Int:=l.mergeSort fun x y=>decide (x≤y)
theorem tO (l:List Int):(j0 l).length=l.length:=List.length_mergeSort l
theorem Q1 (l:List Int):(j0 l).Perm l:=List.mergeSort_perm l _
theorem KU (l:List Int):(j0 l).Pairwise fun x y=>x≤y:=by
 have:=List.pairwise_mergeSort (le:=fun x y:Int=>decide (x≤y)) (fun a b c h1 h2=>by simp only [decide_eq_true_eq] at *;omega) (fun a b=>by simp only [Bool.or_eq_true,decide_eq_true_eq];omega) l;exact this.imp fun h=>by simpa using h
def sI:XF:=fun args h nx K=>match args with
 |[.slice (some ⟨k,0,none⟩) n c]=>∃ l,n=l.length∧look h k=some (.cells true false 1 (flat aL.fl l))∧l.length≤1000000∧0<l.length∧K (.tuple #[]) (qJ h k (.cells true false 1 (flat aL.fl (j0 l)))) nx
 |_=>False
def sIn:XF:=fun args h nx K=>sI args h nx K∨gX (H3 (.tuple #[])) args h nx K
def cIn:XF:=fun args h nx K=>cpI args h nx K∨gX (H3 (.slice none 0 0)) args h nx K
theorem aIe:dM Go.Proofs.Tryz.prog 202 cIn:=aJR.or n202
end Go.Aw
end

noncomputable section
namespace Go.Proofs
open Go.Shelf
def Tryz.MX:Go.Shelf.Ren:=⟨fun|189=>134|125=>204|257=>203|128=>238|129=>239|294=>229|295=>230|296=>231|297=>232|298=>233|299=>234|216=>235|300=>236|301=>237|328=>259|329=>260|330=>261|331=>262|332=>263|215=>221|343=>272|n=>n,fun|28=>30|3=>3|46=>199|0=>0|51=>222|53=>224|4=>4|183=>215|182=>214|131=>163|5=>5|9=>9|218=>235|222=>239|228=>246|229=>206|n=>n,fun|n=>n⟩
theorem Tryz.aDW:Go.Proofs.Lays.n189 Tryz.prog Tryz.MX:={
 mixed:=by kernel_rfl
 f125:=Tryz.func204.trans (congrArg some (by kernel_rfl))
 f128:=Tryz.func238.trans (congrArg some (by kernel_rfl))
 f129:=Tryz.func239.trans (congrArg some (by kernel_rfl))
 f189:=Tryz.func134.trans (congrArg some (by kernel_rfl))
 f215:=Tryz.func221.trans (congrArg some (by kernel_rfl))
 f216:=Tryz.func235.trans (congrArg some (by kernel_rfl))
 f257:=Tryz.func203.trans (congrArg some (by kernel_rfl))
 f294:=Tryz.func229.trans (congrArg some (by kernel_rfl))
 f295:=Tryz.func230.trans (congrArg some (by kernel_rfl))
 f296:=Tryz.func231.trans (congrArg some (by kernel_rfl))
 f297:=Tryz.func232.trans (congrArg some (by kernel_rfl))
 f298:=Tryz.func233.trans (congrArg some (by kernel_rfl))
 f299:=Tryz.func234.trans (congrArg some (by kernel_rfl))
 f300:=Tryz.func236.trans (congrArg some (by kernel_rfl))
 f301:=Tryz.func237.trans (congrArg some (by kernel_rfl))
 f328:=Tryz.func259.trans (congrArg some (by kernel_rfl))
 f329:=Tryz.func260.trans (congrArg some (by kernel_rfl))
 f330:=Tryz.func261.trans (congrArg some (by kernel_rfl))
 f331:=Tryz.func262.trans (congrArg some (by kernel_rfl))
 f332:=Tryz.func263.trans (congrArg some (by kernel_rfl))
 f343:=Tryz.func272.trans (congrArg some (by kernel_rfl))
 t0:=Tryz.underlying0
 a0:=Tryz.isAgg0
 z0:=Tryz.sizeOf0
 v0:=Tryz.zeroValue0
 t3:=Tryz.underlying3
 a3:=Tryz.isAgg3
 z3:=Tryz.sizeOf3
 v3:=Tryz.zeroValue3
 t4:=Tryz.underlying4
 a4:=Tryz.isAgg4
 z4:=Tryz.sizeOf4
 v4:=Tryz.zeroValue4
 t5:=Tryz.underlying5
 a5:=Tryz.isAgg5
 z5:=Tryz.sizeOf5
 v5:=Tryz.zeroValue5
 t9:=Tryz.underlying9
 a9:=Tryz.isAgg9
 z9:=Tryz.sizeOf9
 v9:=Tryz.zeroValue9
 t28:=Tryz.underlying30
 a28:=Tryz.isAgg30
 z28:=Tryz.sizeOf30
 v28:=Tryz.zeroValue30
 t46:=Tryz.underlying199
 a46:=Tryz.isAgg199
 z46:=Tryz.sizeOf199
 v46:=Tryz.zeroValue199
 t51:=Tryz.underlying222
 a51:=Tryz.isAgg222
 z51:=Tryz.sizeOf222
 v51:=Tryz.zeroValue222
 t53:=Tryz.underlying224
 a53:=Tryz.isAgg224
 z53:=Tryz.sizeOf224
 v53:=Tryz.zeroValue224
 t131:=Tryz.underlying163
 a131:=Tryz.isAgg163
 z131:=Tryz.sizeOf163
 v131:=Tryz.zeroValue163
 t182:=Tryz.underlying214
 a182:=Tryz.isAgg214
 z182:=Tryz.sizeOf214
 v182:=Tryz.zeroValue214
 t183:=Tryz.underlying215
 a183:=Tryz.isAgg215
 z183:=Tryz.sizeOf215
 v183:=Tryz.zeroValue215
 t218:=Tryz.underlying235
 a218:=Tryz.isAgg235
 z218:=Tryz.sizeOf235
 v218:=Tryz.zeroValue235
 t222:=Tryz.underlying239
 a222:=Tryz.isAgg239
 z222:=Tryz.sizeOf239
 v222:=Tryz.zeroValue239
 t228:=Tryz.underlying246
 a228:=Tryz.isAgg246
 z228:=Tryz.sizeOf246
 v228:=Tryz.zeroValue246
 t229:=Tryz.underlying206
 a229:=Tryz.isAgg206
 z229:=Tryz.sizeOf206
 v229:=Tryz.zeroValue206 }
end Go.Proofs
end

noncomputable section
namespace Go.Aw
open Go.RowKit Go.Shelf Go.Sort Go.Proofs
set_option maxRecDepth 100000
theorem ON (l:List Int){j:Nat}(h:j<l.length):(flat aL.fl l)[j]? = some (iv l.toArray[j]!):=by
 have h1:nth (flat aL.fl l) j=some (iv (aB l j)):=cF l h (by omega);rw [← rV,h1,dK h];simp [h]
theorem d134:dM Go.Proofs.Tryz.prog 134 sI:=by
 refine⟨fun args h nx K hx ι B w H hsc=>?_,fun args h nx K hx=>?_⟩
 ·unfold sI at hx;split at hx
  case h_2=>exact hx.elim
  rename_i k n c;obtain⟨l,rfl,hk,hlen,hpos,hK⟩:=hx;refine⟨⟨Go.Proofs.Tryz.f134,Go.Proofs.Tryz.func134,rfl,by decide +kernel⟩,?_⟩;have hsl:k<nx∧((ι k).fI=false→l.length=0∧c=0):=hsc _ (.head _);have ho:=H.obj k _ hk;cases hι:ι k with
  |nil p =>
   have:=hsl.2 (by rw [hι];rfl);omega
  |lay b off ex =>
   rw [hι] at ho;obtain⟨hB,_,arr,t,hblk,hsz,hcell⟩:=ho;rw [nY,Nat.mul_one] at hsz;have hlt:b<w.heap.size:=(Array.getElem?_eq_some_iff.1 hblk).1;have hds:l.toArray.size=l.length:=(by simp);have hH:Holds (Value.int .i64) w b off l.toArray:=by
    intro j hj;rw [hds] at hj;have h1:=ON l hj;have h2:=hcell j _ h1;rw [jM (aU (aE aL l) (List.mem_of_getElem? h1))] at h2;refine⟨?_,?_⟩
    ·simp only [World.cell?,hblk];exact h2
    ·simp only [World.frozen?,hblk];simp
   have hcon:=Any.slices_Sort_int Go.Proofs.Tryz.aDW b off (c+ex) l w hH hlt (by omega);change Calls Go.Proofs.Tryz.prog 134 _ _ _ at hcon;have hargs:(([.slice (some ⟨k,0,none⟩) l.length c]:List Value).map (tr ι)).toArray=#[.slice (some ⟨b,off,none⟩) l.length (c+ex)]:=by
    simp only [List.map_cons,List.map_nil,tr,dS,bS,dT,hι,Nat.add_zero]
   rw [hargs];refine callsIn_wide.2 (hcon.mono fun e w' hr=>?_);obtain⟨rfl,n,os,rfl⟩:=hr;have hzl:=tO l;change List Int at l;have hes:(l.mergeSort fun x y=>decide (x≤y))=j0 l:=rfl;rw [hes];generalize hZ:j0 l=Z at *;have hd':Z.toArray.size=l.length:=(by simpa using hzl);have hw1:(putRow (Value.int .i64) (Sort.ahead w n) b off Z.toArray).heap=w.heap.modify b (onCells (putCells (Value.int .i64) off Z.toArray)):=rfl;have hsz1:(putRow (Value.int .i64) (Sort.ahead w n) b off Z.toArray).heap.size=w.heap.size:=(by rw [hw1,Array.size_modify]);have hoth:∀ b',b'≠b→(putRow (Value.int .i64) (Sort.ahead w n) b off Z.toArray).heap[b']? = w.heap[b']? := fun b' hne=>by
    rw [hw1,Array.getElem?_modify,if_neg (fun e=>hne e.symm)]
   have hat:(putRow (Value.int .i64) (Sort.ahead w n) b off Z.toArray).heap[b]? = some (.cells (putCells (Value.int .i64) off Z.toArray arr) t (0,0)):=by
    rw [hw1,Array.getElem?_modify,if_pos rfl,hblk];rfl
   have h1:aQ ι B (qJ h k (.cells true false 1 (flat aL.fl Z))) nx (putRow (Value.int .i64) (Sort.ahead w n) b off Z.toArray):=by
    refine H.set hk rfl ?_ (fun v hv=>cA (aU (aE aL _) hv)) rfl (fun b' hb'=>hoth b' (fun e=>hb' (by rw [hι,e];rfl))) (Nat.le_of_eq hsz1.symm);rw [hι];refine⟨hB,(fun h=>(by cases h)),_,t,hat,?_,fun i v hv=>?_⟩
    ·rw [nY,Nat.mul_one,hzl];unfold putCells;rw [Array.size_mapIdx];exact hsz
    ·have hi:i<l.length:=by
      have:=(List.getElem?_eq_some_iff.1 hv).1;rw [nY,Nat.mul_one,hzl] at this;exact this
     have hg:v=iv Z.toArray[i]! := by
      have h2:=ON Z (j:=i) (by rw [hzl];exact hi);rw [hv] at h2;injection h2
     rw [jM (aU (aE aL _) (List.mem_of_getElem? hv)),hg];unfold putCells;have hia:off+i<arr.size:=(by omega);rw [Array.getElem?_mapIdx,Array.getElem?_eq_getElem hia];simp only [Option.map_some];rw [if_pos ⟨by omega,by rw [hd'];omega⟩,show off+i - off=i by omega];rfl
   have hbel1:fW B w (putRow (Value.int .i64) (Sort.ahead w n) b off Z.toArray):=⟨rfl,rfl,rfl,Nat.le_of_eq hsz1.symm,fun b' hb'=>hoth b' (by omega),Nat.le_add_right _ _⟩;have hbel2:∀ B',B'≤(putRow (Value.int .i64) (Sort.ahead w n) b off Z.toArray).heap.size→fW B' (putRow (Value.int .i64) (Sort.ahead w n) b off Z.toArray) (Go.Sort.grow (putRow (Value.int .i64) (Sort.ahead w n) b off Z.toArray) os):=fun B' hB'=>⟨rfl,rfl,rfl,by unfold Go.Sort.grow;rw [Array.size_append];omega,fun b' hb'=>by unfold Go.Sort.grow;exact Array.getElem?_append_left (by omega),Nat.le_refl _⟩;exact⟨_,_,nx,ι,hK,(fun v hv=>by cases hv),h1.ext (hbel2 _ (Nat.le_refl _)),hbel1.trans (hbel2 B (by rw [hsz1];exact H.size)),fun _ _=>rfl,Nat.le_refl _,(by simp [tr])⟩
 ·unfold sI at hx;split at hx
  case h_2=>exact hx.elim
  rename_i k n c;obtain⟨l,hn,hk,hlen,hpos,hK⟩:=hx;exact⟨_,_,_,hK,fun K' hk'=>⟨l,hn,hk,hlen,hpos,hk'⟩⟩
theorem aIn:dM Go.Proofs.Tryz.prog 134 sIn:=d134.or n134
end Go.Aw
end

noncomputable section
namespace Go.Aw
set_option maxRecDepth 100000
set_option maxHeartbeats 2000000
def fA (R:Heap)(nP:Nat)(m:List Ed)(nD nL c1 c2:Nat)(n:Int)(fo:Option (Nat × Nat)):Heap:=(0,.cells false false 1 (AJ 4 5 1 2 6 nP m.length nD nL c1 c2 n fo))::(5,.cells false true aY.sz (flat aY.fl m))::R
def PD (a:Int):aT:=.cells false true 1 [iv a]
def aF7 (h:Heap)(k:Nat)(a:Int):Prop:=∃ wr g sz,look h k=some (.cells wr g sz [iv a])
def shP (a b:Int)(e:Ed):Bool:=(decide (e.l=a)&&decide (e.r=b)) || (decide (e.l=b)&&decide (e.r=a))
def ovB (ρ:Nat→Nat)(ka kb:Nat)(k:Nat):Nat:=if k=7 then ka else if k=8 then kb else ρ k
theorem aIo {h:Heap}{p:Nat}{l:List Pt}{m:List Ed}{n:Int}(hw:WA h p l m n){R:Heap}{ka kb:Nat}{F F0:Value}{nx:Nat}(hF:∀ ρ:Nat→Nat,ρ 7=ka→ρ 8=kb→F=iB ρ F0)(hn:A0 2000 F0)
  (hR:∀ ρ:Nat→Nat,ρ 7=ka→ρ 8=kb→∀ k o,look R k=some o→k<2000∧∃ g sz cs0,o=.cells false g sz cs0∧sz≠0∧(g=true→c9 cs0=true)∧(∀ v∈cs0,AB 2000 v)∧∃ wr g' sz' cs,look h (ρ k)=some (.cells wr g' sz' cs)∧cs.take cs0.length=cs0.map (bR ρ)) :
  ∃ nP nD nL c1 c2 fo,In [.pointer (some ⟨0,0,none⟩),F0] (fA R nP m nD nL c1 c2 n fo) 2000 [.pointer (some ⟨p,0,none⟩),F] h nx:=by
 obtain⟨ok,sm,k0,k1,kd,kt,kf,nm,c1,c2,w,⟨w1,g1,s1,x1,a1,b1⟩,_⟩:=hw;obtain⟨wr,g,sz,hst⟩:=w.st;refine⟨l.length,(aV l m m.length).length,(outs l m).length,c1,c2,some ((aV l m m.length).length,(aV l m m.length).length),rP (ovB (rhW p k0 k1 kd kt kf 0 nm 0) ka kb) ?_ ?_ fun k o hk=>?_⟩
 ·show [Value.pointer (some ⟨p,0,none⟩),F]=[iB _ (.pointer (some ⟨0,0,none⟩)),iB _ F0];rw [← hF _ rfl rfl];rfl
 ·exact List.forall_mem_cons.2 ⟨jC rfl,List.forall_mem_cons.2 ⟨hn,fun _ h=>by cases h⟩⟩
 ·unfold fA at hk;rw [aC] at hk;split at hk
  ·rename_i hq;injection hk with hk;subst hk;rw [← beq_true hq]
   exact⟨by decide,false,1,_,rfl,by decide,(fun h=>by cases h),kV rfl,wr,g,sz,_,hst,rfl⟩
  ·rw [aC] at hk;split at hk
   ·rename_i hq;injection hk with hk;subst hk;rw [← beq_true hq]
    exact⟨by decide,true,aY.sz,_,rfl,by decide,fun _=>aE aY m,fun v hv=>cA (aU (aE aY m) hv),w1,g1,s1,x1,a1,by rw [b1];exact (bW (aE aY m)).symm⟩
   ·exact hR _ rfl rfl k o hk
abbrev pV (k:Nat):Value:=.pointer (some ⟨k,0,none⟩)
theorem Y9 {R:Heap}{nP:Nat}{m:List Ed}{nD nL c1 c2:Nat}{n:Int}{fo:Option (Nat × Nat)}(h:y6 R 2000):y6 (fA R nP m nD nL c1 c2 n fo) 2000:=by
 refine dC (dC h (by decide) (aK (aE _ _))) (by decide) ?_;refine aAE ?_;exact List.forall_mem_cons.2 ⟨⟨rfl,dN rfl⟩,List.forall_mem_cons.2 ⟨⟨rfl,dN rfl⟩,List.forall_mem_cons.2 ⟨⟨rfl,dN rfl⟩,List.forall_mem_cons.2 ⟨⟨rfl,dN rfl⟩,List.forall_mem_cons.2 ⟨⟨rfl,dN rfl⟩,List.forall_mem_cons.2 ⟨⟨by cases fo <;> rfl,by cases fo <;> exact dN rfl⟩,fun _ h=>by cases h⟩⟩⟩⟩⟩⟩
theorem GC {α:Type}{E:El α}{out:List α}{e:Option Int}{h:Heap}{nx:Nat}{K:KE}(hx:MI E out e h nx K):∃ v h' nx',K v h' nx'∧∀ K':KE,K' v h' nx'→MI E out e h nx K':=by
 cases out with
 |nil=>exact⟨_,_,_,hx,fun K' hk=>hk⟩
 |cons a t=>exact⟨_,_,_,hx,fun K' hk=>hk⟩
end Go.Aw
end
