/-
  Parts of a proof. No condition.
-/
import Derived.Test.YtjahkcbdecgbhaaGreatQAw
import Derived.Test.YtjahkcbdecgbhaaGreatQBe
import Derived.Test.YtjahkcbdecgbhaaGreatQBr
import Derived.Shelf.Sort.Plain
set_option linter.unusedSimpArgs false
set_option linter.unusedVariables false
noncomputable section
namespace Go.Aw
set_option maxRecDepth 100000
def MT (a b:Int):Bool:=decide (a=b)
theorem oZ (l:List Int):(flat aP.fl l).length=l.length*1:=a7 aP l
theorem qQ (n:Nat)(zs:List Value):(rep n zs).length=n*zs.length:=by
 unfold rep;rw [List.length_flatten,List.map_replicate,List.sum_replicate_nat]
theorem o9 (a b:Nat):aA.A.subN a b=a - b:=rfl
theorem s8 (a:Int):aA.A.toN a=a.toNat:=rfl
theorem FQ (o:Nat)(i:Int)(s:Nat):aA.A.ix o i s=o+i.toNat*s:=rfl
theorem RK {a b:Nat}:(Nat.ble a b=true)↔a≤b:=⟨Nat.le_of_ble_eq_true,Nat.ble_eq_true_of_le⟩
theorem PK {a b:Nat}:(Nat.ble a b=false)↔b<a:=by
 constructor
 ·intro h;apply Classical.byContradiction;intro hn;rw [Nat.ble_eq_true_of_le (by omega)] at h;cases h
 intro h;cases hb:Nat.ble a b with
 |false=>rfl
 |true=>have:=Nat.le_of_ble_eq_true hb;omega
theorem YU (l:List Int)(i:Nat)(v:Int)(h:i<l.length):cN (flat aP.fl l) (i*1) [iv v]=flat aP.fl (l.set i v):=kS l i v h
def jC (l:List Int):Nat→List Int
 |0=>[]
 |p+1=>jC l p++(if p=0∨MT (aD l p) (aD l (p - 1))=false then [aD l p] else [])
theorem vK (l:List Int):∀ p,(jC l p).length≤p
 |0=>Nat.le_refl _
 |p+1=>by
  have:=vK l p;unfold jC;rw [List.length_append];split <;> simp <;> omega
theorem NM {l:List Int}{p:Nat}(h:MT (aD l p) (aD l (p - 1))=false):jC l (p+1)=jC l p++[aD l p]:=by
 conv=>lhs;unfold jC
 rw [if_pos (.inr h)]
theorem HP {l:List Int}{p:Nat}(h0:0<p)(h:MT (aD l p) (aD l (p - 1))=true):jC l (p+1)=jC l p:=by
 conv=>lhs;unfold jC
 rw [if_neg (by rintro (h1 | h1); · omega
                ·rw [h] at h1;cases h1),List.append_nil]
theorem EF {l:List Int}:∀ p,p≤l.length→(∀ i,0<i→i<p→MT (aD l i) (aD l (i - 1))=false)→jC l p=l.take p
 |0,_,_=>rfl
 |p+1,hp,h=>by
  unfold jC;have h1:p=0∨MT (aD l p) (aD l (p - 1))=false:=by
   by_cases h0:p=0
   ·exact .inl h0
   exact .inr (h p (by omega) (by omega))
  rw [if_pos h1,EF p (by omega) (fun i h0 hi=>h i h0 (by omega)),dM (show p<l.length by omega),List.take_append_getElem (by omega)]
def ID (l:List Int)(p:Nat):List Int:=jC l p++l.drop (jC l p).length
theorem zL (l:List Int){p:Nat}(hp:p≤l.length):(ID l p).length=l.length:=by
 have:=vK l p;unfold ID;rw [List.length_append,List.length_drop];omega
theorem aIp (l:List Int){p k:Nat}(hp:p≤l.length)(hk:(jC l p).length≤k)(hkl:k<l.length):aD (ID l p) k=aD l k:=by
 rw [dM (by rw [zL l hp];exact hkl),dM hkl];unfold ID;rw [List.getElem_append_right hk,List.getElem_drop];congr 1;omega
theorem aFy {l:List Int}{p:Nat}(hp:p<l.length)(hd:(jC l p).length<p)(h:MT (aD l p) (aD l (p - 1))=false):(ID l p).set (jC l p).length (aD l p)=ID l (p+1):=by
 unfold ID;rw [NM h,List.length_append,List.length_singleton];rw [List.set_append_right _ _ (Nat.le_refl _),Nat.sub_self,List.append_assoc];congr 1;rw [List.drop_eq_getElem_cons (show (jC l p).length<l.length by omega)];rfl
theorem aAS {l:List Int}{p:Nat}(h0:0<p)(h:MT (aD l p) (aD l (p - 1))=true):ID l p=ID l (p+1):=by
 unfold ID;rw [HP h0 h]
theorem YX {l:List Int}{p:Nat}(h0:0<p)(hp:p<l.length)(hno:∀ i,0<i→i<p→MT (aD l i) (aD l (i - 1))=false)(h:MT (aD l p) (aD l (p - 1))=true):ID l (p+1)=l∧(jC l (p+1)).length=p:=by
 have e:=EF p (by omega) hno;have e2:jC l (p+1)=l.take p:=(by rw [HP h0 h,e]);have e3:(jC l (p+1)).length=p:=(by rw [e2,List.length_take];omega);refine⟨?_,e3⟩;unfold ID;rw [e3,e2,List.take_append_drop]
theorem aD5 {l:List Int}{o m:Nat}(ho:o=(jC l l.length).length*1)(hm:m=l.length - (jC l l.length).length):cN (flat aP.fl (ID l l.length)) o (rep m [iv 0])=flat aP.fl (jC l l.length)++rep m [iv 0]:=by
 have h1:=vK l l.length;subst ho;unfold cN ID;have l1:(flat aP.fl (jC l l.length)).length=(jC l l.length).length*1:=oZ _;have l2:(flat aP.fl (l.drop (jC l l.length).length)).length=(l.length - (jC l l.length).length)*1:=(by rw [oZ,List.length_drop]);have l3:(rep m [iv 0]).length=m*1:=qQ _ _;rw [pB,List.take_left' l1,l3];rw [List.drop_eq_nil_of_le (by rw [List.length_append,l1,l2,hm];omega),List.append_nil]
def SCn (l:List Int):List Value→Nat→Option (Bool × Option Nat × List Value)
 |[],c=>some (decide (l.length≤1000000)&&decide (l.length≤c),some (jC l l.length).length,flat aP.fl (jC l l.length)++rep (l.length - (jC l l.length).length) [iv 0])
 |_,_=>none
theorem aEw {l:List Int}{r:List Value}{c:Nat}{m:Option Nat}{cs:List Value}(h:SCn l r c=some (true,m,cs)):r=[]∧l.length≤1000000∧l.length≤c∧m=some (jC l l.length).length∧cs=flat aP.fl (jC l l.length)++rep (l.length - (jC l l.length).length) [iv 0]:=by
 unfold SCn at h;split at h
 ·injection h with h;injection h with h1 h2;injection h2 with h2 h3;simp only [Bool.and_eq_true,decide_eq_true_eq] at h1;exact⟨rfl,h1.1,h1.2,h2.symm,h3.symm⟩
 ·cases h
theorem aIG (n:Nat):dL (rep n [iv 0])=true:=by
 unfold rep;refine rJ fun v hv=>?_;obtain⟨x,hx,hv⟩:=List.mem_flatten.1 hv;rw [(List.mem_replicate.1 hx).2] at hv;simp only [List.mem_cons,List.not_mem_nil,or_false] at hv;rcases hv with rfl|rfl <;> rfl
theorem GN (k o n c:Nat):jX id (.slice (some ⟨k,o,none⟩) n c)=.slice (some ⟨k,o,none⟩) n c:=by
 unfold jX;simp only [tr,eD,bT,eG,mB,Nat.zero_add,Nat.add_zero,id]
def ZW (n c:Nat)(k:Int):List (Nat × Value):=[(0,.slice (some ⟨0,0,none⟩) n c),(3,iv k)]
def CS (n c:Nat)(o2 n2 c2:Nat)(k k2:Int):List (Nat × Value):=[(0,.slice (some ⟨0,0,none⟩) n c),(3,iv k),(4,.slice (some ⟨0,o2,none⟩) n2 c2),(5,iv k2)]
theorem aGv {l:List Int}{p q o:Nat}(hp:p≤l.length)(hd:(jC l p).length≤q)(hq:q<l.length)(ho:o=q*1):nth (flat aP.fl (ID l p)) o=some (iv (aD l q)):=by
 rw [← aIp l hp hd hq];exact bY _ (by rw [zL l hp];exact hq) ho
set_option maxHeartbeats 1000000 in
attribute [local irreducible] aD ID jC in
theorem d202:cT Go.Proofs.Tryz.prog 202 (frX aP SCn):=aHE aP (s:=SCn) (f:=202) (aL (xl:=[]) .nil) fun l r c m cs' hs=>by
 obtain⟨rfl,hlen,hlc,rfl,rfl⟩:=aEw hs;refine⟨rfl,by rw [CB,aH aP,aIG];rfl,(fun q e=>by injection e with e;rw [← e];exact vK l _),fun F N hF=>?_⟩;have hN:=hF.1;clear hs;((conv=>whnf);apply bm<;>intro h1)
 ·have hsm:l.length<2:=(by simp only [gJ,fQ,decide_eq_true_eq] at h1;omega);have hd:jC l l.length=l:=by
   rw [EF l.length (Nat.le_refl _) (fun i h0 hi=>by omega),List.take_length]
  rw [hd,Nat.sub_self];(conv=>whnf);exact⟨rfl,(by show (0,a8.cells true false 1 (flat aP.fl l))::F=_;rw [show rep 0 [iv 0]=[] from rfl,List.append_nil];rfl)⟩
 have hbig:2≤l.length:=(by simp only [gJ,fQ,decide_eq_false_iff_not] at h1;omega);(conv=>whnf);refine⟨fun n e h nq=>∃ (i:Nat) (a:Int),a=i∧1≤i∧i≤l.length∧n=l.length - i∧(∀ j,0<j→j<i→MT (aD l j) (aD l (j - 1))=false)∧e=ZW l.length c a∧h=(0,.cells true false 1 (flat aP.fl l))::F∧nq=N,⟨l.length - 1,?_⟩,?_⟩
 ·refine bM (e0:=ZW l.length c 1) hF ⟨1,1,rfl,Nat.le_refl _,by omega,rfl,(fun j h0 h1=>by omega),rfl,rfl,rfl⟩ ?_ ?_ (Nat.le_refl _)
  ·unfold ZW;((repeat' (refine List.forall_mem_cons.2 ⟨⟨by first|rfl|(rw [GN];rfl),?_⟩,?_⟩;(first|exact dI rfl|exact⟨hN,fun h=>(by cases h)⟩)));exact fun _ h=>(by cases h))
  exact aN (aH aP _)
 rintro n e h nq ⟨i,a,ha,hi1,hi,rfl,hno,rfl,rfl,hnx⟩;subst hnx;unfold ZW;((conv=>whnf);apply bm<;>intro g1);rotate_left
 ·have hge:i=l.length:=(by simp only [gJ,fQ,decide_eq_false_iff_not] at g1;omega);subst hge;have hd:jC l l.length=l:=by
   rw [EF l.length (Nat.le_refl _) (fun i h0 hi=>hno i h0 hi),List.take_length]
  rw [hd,Nat.sub_self];(conv=>whnf);exact⟨rfl,(by show (0,a8.cells true false 1 (flat aP.fl l))::F=_;rw [show rep 0 [iv 0]=[] from rfl,List.append_nil];rfl)⟩
 have hlt:i<l.length:=(by simp only [gJ,fQ,decide_eq_true_eq] at g1;omega);have hlt1:i - 1<l.length:=(by omega);have hi0:0<i:=by omega
 repeat' first
  |(exfalso
    simp only [kD,yF,eV,gJ,AN,tM,gQ,kX,fQ,o9,s8,aF,RK,PK,oZ,Bool.not_eq_false',Bool.not_eq_true',Bool.and_eq_false_iff,Bool.and_eq_true,decide_eq_true_eq,decide_eq_false_iff_not,List.length_append,List.length_take,List.length_drop,List.length_nil,List.length_cons,FQ,qQ,cN] at g;omega)
  |(((conv=>whnf);apply bm<;>intro g))
  |((conv=>whnf)
    refine eC (bY l hlt ?_) ?_
    ·simp [aA,aC];omega)
  |((conv=>whnf)
    refine eC (bY l hlt1 ?_) ?_
    ·show 0+(a - 1).toNat*1=_;omega)
 all_goals (conv=>whnf)
 ·have hdup:MT (aD l i) (aD l (i - 1))=true:=‹aA.A.eq (aD l i) (aD l (i - 1))=true›;obtain⟨hW,hD⟩:=YX hi0 hlt hno hdup;refine⟨fun m e h nr=>∃ (p:Nat) (a' b:Int),i+1≤p∧p≤l.length∧m=l.length - p∧b=(p:Int) - i∧a'=((jC l p).length:Int)∧(jC l p).length<p∧e=CS l.length c (aA.A.ix 0 a 1) (aA.A.subN l.length (aA.A.toN a)) (aA.A.subN c (aA.A.toN a)) a' b∧h=(0,.cells true false 1 (flat aP.fl (ID l p)))::F∧nr=nq,⟨l.length - (i+1),?_⟩,?_⟩
  ·refine bM (e0:=CS l.length c (aA.A.ix 0 a 1) (aA.A.subN l.length (aA.A.toN a)) (aA.A.subN c (aA.A.toN a)) a 1) hF ⟨i+1,a,1,Nat.le_refl _,by omega,rfl,by omega,by rw [hD];exact ha,by omega,rfl,rfl,rfl⟩ ?_ ?_ (Nat.le_refl _)
   ·unfold CS;((repeat' (refine List.forall_mem_cons.2 ⟨⟨by first|rfl|(rw [GN];rfl),?_⟩,?_⟩;(first|exact dI rfl|exact⟨hN,fun h=>(by cases h)⟩)));exact fun _ h=>(by cases h))
   rw [hW];exact aN (aH aP _)
  rintro m e h nr ⟨p,a',b,hp1,hp2,rfl,hb,ha',hd',rfl,rfl,hnr⟩;subst hnr;have hF:=hF;unfold CS;((conv=>whnf);apply bm<;>intro g2)
  ·have hpl:p<l.length:=(by simp only [gJ,fQ,o9,s8,decide_eq_true_eq] at g2;omega);have hwl:=zL l hp2
   repeat' first
    |(exfalso
      simp only [kD,yF,eV,gJ,AN,tM,gQ,kX,fQ,o9,s8,aF,RK,PK,oZ,hwl,Bool.not_eq_false',Bool.not_eq_true',Bool.and_eq_false_iff,Bool.and_eq_true,decide_eq_true_eq,decide_eq_false_iff_not,List.length_nil,List.length_cons,FQ] at g;omega)
    |(((conv=>whnf);apply bm<;>intro g))
    |((conv=>whnf)
      refine eC (aGv (q:=p) hp2 (by omega) hpl ?_) ?_
      ·simp only [FQ,yF];omega)
    |((conv=>whnf)
      refine eC (aGv (q:=p - 1) hp2 (by omega) (by omega) ?_) ?_
      ·simp only [FQ,yF];omega)
   all_goals (conv=>whnf)
   ·have hneq:MT (aD l p) (aD l (p - 1))=false:=by
     have hg:(!(MT (aD l p) (aD l (p - 1))))=true:=‹aA.A.notB (aA.A.eq (aD l p) (aD l (p - 1)))=true›;simpa using hg
    refine⟨l.length - (p+1),by omega,?_⟩;refine bM (e0:=CS l.length c (aA.A.ix 0 a 1) (aA.A.subN l.length (aA.A.toN a)) (aA.A.subN c (aA.A.toN a)) (a'+1) (b+1)) hF ⟨p+1,a'+1,b+1,by omega,hpl,rfl,by omega,by rw [NM hneq,List.length_append,List.length_singleton];omega,by rw [NM hneq,List.length_append,List.length_singleton];omega,rfl,rfl,rfl⟩ ?_ ?_ (Nat.le_refl _)
    ·unfold CS;((repeat' (refine List.forall_mem_cons.2 ⟨⟨by first|rfl|(rw [GN];rfl),?_⟩,?_⟩;(first|exact dI rfl|exact⟨hN,fun h=>(by cases h)⟩)));exact fun _ h=>(by cases h))
    refine aU (aH aP _) ?_;rw [← aFy hpl hd' hneq,← YU _ _ _ (by rw [zL l hp2];omega)];show cN _ (0+a'.toNat*1) _=_;rw [show 0+a'.toNat*1=(jC l p).length*1 by omega];rfl
   ·exfalso;have hx:0+a'.toNat*1+1≤(flat aP.fl (ID l p)).length:=(by rw [oZ,hwl];omega);have hc:Nat.ble (0+a'.toNat*1+1) (flat aP.fl (ID l p)).length=false:=g;rw [Nat.ble_eq_true_of_le hx] at hc;cases hc
   have hneq:MT (aD l p) (aD l (p - 1))=true:=by
    have hg:(!(MT (aD l p) (aD l (p - 1))))=false:=‹aA.A.notB (aA.A.eq (aD l p) (aD l (p - 1)))=false›;simpa using hg
   refine⟨l.length - (p+1),by omega,?_⟩;refine bM (e0:=CS l.length c (aA.A.ix 0 a 1) (aA.A.subN l.length (aA.A.toN a)) (aA.A.subN c (aA.A.toN a)) a' (b+1)) hF ⟨p+1,a',b+1,by omega,hpl,rfl,by omega,by rw [HP (by omega) hneq];exact ha',by rw [HP (by omega) hneq];omega,rfl,rfl,rfl⟩ ?_ ?_ (Nat.le_refl _)
   ·unfold CS;((repeat' (refine List.forall_mem_cons.2 ⟨⟨by first|rfl|(rw [GN];rfl),?_⟩,?_⟩;(first|exact dI rfl|exact⟨hN,fun h=>(by cases h)⟩)));exact fun _ h=>(by cases h))
   rw [aAS (by omega) hneq];exact aN (aH aP _)
  have hpe:p=l.length:=(by simp only [gJ,fQ,o9,s8,decide_eq_false_iff_not] at g2;omega);subst hpe
  repeat' first
   |(exfalso
     simp only [kD,yF,eV,gJ,AN,tM,gQ,kX,fQ,o9,s8,aF,RK,PK,oZ,Bool.not_eq_false',Bool.not_eq_true',Bool.and_eq_false_iff,Bool.and_eq_true,decide_eq_true_eq,decide_eq_false_iff_not,List.length_append,List.length_take,List.length_drop,List.length_nil,List.length_cons,FQ,qQ,cN] at g;omega)
   |(((conv=>whnf);apply bm<;>intro g))
  all_goals (conv=>whnf)
  obtain⟨M,hM⟩:∃ M:Nat,aA.A.subN l.length (aA.A.toN a')=M+1:=⟨l.length - a'.toNat - 1,by simp only [o9,s8];omega⟩;have hM2:M+1=l.length - (jC l l.length).length:=by
   have:l.length - a'.toNat=M+1:=hM;omega
  rw [hM]
  repeat' first
   |(exfalso
     simp only [kD,yF,eV,gJ,AN,tM,gQ,kX,fQ,o9,s8,aF,RK,PK,oZ,Bool.not_eq_false',Bool.not_eq_true',Bool.and_eq_false_iff,Bool.and_eq_true,decide_eq_true_eq,decide_eq_false_iff_not,List.length_append,List.length_take,List.length_drop,List.length_nil,List.length_cons,FQ,qQ,cN] at g;omega)
   |(((conv=>whnf);apply bm<;>intro g))
  all_goals (conv=>whnf)
  rotate_left
  all_goals try
   (exfalso
    have hx:0+a'.toNat*1+(M+1)*1≤(flat aP.fl (ID l l.length)).length:=(by rw [oZ,zL l (Nat.le_refl _)];omega);have hc:Nat.ble (0+a'.toNat*1+(M+1)*1) (flat aP.fl (ID l l.length)).length=false:=g;rw [Nat.ble_eq_true_of_le hx] at hc;cases hc)
  all_goals try
   (exfalso
    simp only [kD,yF,eV,gJ,AN,tM,gQ,kX,fQ,o9,s8,aF,RK,PK,oZ,Bool.not_eq_false',Bool.not_eq_true',Bool.and_eq_false_iff,Bool.and_eq_true,decide_eq_true_eq,decide_eq_false_iff_not,List.length_append,List.length_take,List.length_drop,List.length_nil,List.length_cons,FQ,qQ,cN] at g;omega)
  ·refine⟨?_,?_⟩
   ·show Value.slice (some ⟨0,0,none⟩) a'.toNat c=.slice (some ⟨0,0,none⟩) _ c;rw [show a'.toNat=(jC l l.length).length by omega]
   show (0,a8.cells true false 1 (cN (flat aP.fl (ID l l.length)) (0+a'.toNat*1) (rep (M+1) [iv 0])))::F=_;rw [aD5 (by omega) hM2,hM2];rfl
  all_goals trace_state
 have hnd:MT (aD l i) (aD l (i - 1))=false:=‹aA.A.eq (aD l i) (aD l (i - 1))=false›;refine⟨l.length - (i+1),by omega,?_⟩;refine bM (e0:=ZW l.length c (a+1)) hF ⟨i+1,a+1,by omega,by omega,hlt,rfl,(fun j h0 h1=>?_),rfl,rfl,rfl⟩ ?_ ?_ (Nat.le_refl _)
 ·by_cases e:j=i
  ·rw [e];exact hnd
  exact hno j h0 (by omega)
 ·unfold ZW;((repeat' (refine List.forall_mem_cons.2 ⟨⟨by first|rfl|(rw [GN];rfl),?_⟩,?_⟩;(first|exact dI rfl|exact⟨hN,fun h=>(by cases h)⟩)));exact fun _ h=>(by cases h))
 exact aN (aH aP _)
end Go.Aw
end

noncomputable section
namespace Go.Aw
open Go.RowKit
set_option maxRecDepth 100000
def cpI:XF:=fun args h nx K=>match args with
 |[.slice (some ⟨k,0,none⟩) n c]=>∃ l,n=List.length l∧c=l.length∧look h k=some (.cells true false 1 (flat aP.fl l))∧gM h=true∧l.length≤1000000∧0<l.length ∧
  K (.slice (some ⟨nx,0,none⟩) (jC l l.length).length (jC l l.length).length) (bZ (rem h k) nx (.cells true false 1 (flat aP.fl (jC l l.length)))) (nx+1)
 |_=>False
theorem aMu:cT Go.Proofs.Tryz.prog 202 cpI:=by
 refine⟨fun args h nx K hx ι B w H hsc=>?_,fun args h nx K hx=>?_⟩
 ·unfold cpI at hx;split at hx
  case h_2=>exact hx.elim
  rename_i k n c;obtain⟨l,rfl,rfl,hk,hcH,hlen,hpos,hK⟩:=hx;have hdl:=vK l l.length;have hrun:=d202.1 [.slice (some ⟨k,0,none⟩) l.length l.length] h nx (fun v h' nx'=>v=rv k l.length (some (jC l l.length).length)∧h'=r8 h k (.cells true false 1 (flat aP.fl (jC l l.length)++rep (l.length - (jC l l.length).length) [iv 0]))∧nx'=nx) ⟨l,rfl,hk,hcH,by
   show dT (decide (l.length≤1000000)&&decide (l.length≤l.length)) _;rw [decide_eq_true hlen,decide_eq_true (Nat.le_refl _)];exact⟨rfl,rfl,rfl⟩⟩ ι B w H hsc
  refine⟨hrun.1,CallsIn.mono hrun.2 fun e w' hret=>?_⟩;cases e with
  |returned u =>
   obtain⟨v,h',nx',ι',⟨rfl,rfl,rfl⟩,q2,q3,q4,q5,q6,rfl⟩:=hret;have hsl:k<nx'∧((ι k).gG=false→l.length=0∧l.length=0):=hsc _ (.head _);have hk':look (r8 h k (.cells true false 1 (flat aP.fl (jC l l.length)++rep (l.length - (jC l l.length).length) [iv 0]))) k=some _:=wW h k _;have ho:=q3.obj k _ hk';cases hι:ι k with
   |nil p =>
    have:=hsl.2 (by rw [hι];rfl);omega
   |lay b off ex =>
    rw [q5 k hsl.1,hι] at ho;obtain⟨hB,_,arr,t,hblk,hsz,hcell⟩:=ho;have hrl:(rep (l.length - (jC l l.length).length) [iv 0]).length=(l.length - (jC l l.length).length)*1:=qQ _ _;rw [List.length_append,oZ,hrl] at hsz;have hsub:∀ j o,look (rem h k) j=some o→j≠k∧look (r8 h k (.cells true false 1 (flat aP.fl (jC l l.length)++rep (l.length - (jC l l.length).length) [iv 0]))) j=some o:=by
     intro j o hj;rw [c7] at hj;split at hj
     ·cases hj
     rename_i hne;exact⟨hne,by rw [iT _ _ hne];exact hj⟩
    have H1:aV ι' B (rem h k) nx' w':=q3.sub fun j o hj=>(hsub j o hj).2;have H2:=H1.add (.cells true false 1 (flat aP.fl (jC l l.length))) (.lay b off (ex+(l.length - (jC l l.length).length))) ⟨hB,(fun h=>(by cases h)),arr,t,hblk,by rw [oZ];omega,fun i v hv=>by
     have hi:i<(flat aP.fl (jC l l.length)).length:=(List.getElem?_eq_some_iff.1 hv).1;have h3:=hcell i v (by rw [List.getElem?_append_left hi];exact hv);rw [kG (bB (aH aP _) (List.mem_of_getElem? hv))] at h3 ⊢;exact h3⟩ (fun v hv=>cX (bB (aH aP _) hv)) (fun j o hj _ b' hb' e=>by
     obtain⟨hne,hj2⟩:=hsub j o hj;have h4:=q3.sep k j _ _ hk' hj2 (fun e=>hne e.symm) rfl b' (by rw [q5 k hsl.1,hι];exact hb');exact h4 e)
    refine⟨_,_,_,_,hK,⟨(by show nx'<nx'+1;omega),fun hf=>by rw [bI] at hf;cases hf⟩,H2,q4,fun j hj=>(cE _ _ hj).trans (q5 j hj),by omega,?_⟩;simp only [rv,tr,eD,bT,eG,bI,q5 k hsl.1,hι];congr 1;omega
  |_=>exact hret.elim
 unfold cpI at hx;split at hx
 case h_2=>exact hx.elim
 rename_i k n c;obtain⟨l,hn,hc,hk,hcH,hlen,hpos,hK⟩:=hx;exact⟨_,_,_,hK,fun K' hk'=>⟨l,hn,hc,hk,hcH,hlen,hpos,hk'⟩⟩
end Go.Aw
end

noncomputable section
namespace Go.Aw
set_option maxRecDepth 100000
set_option maxHeartbeats 2000000
theorem cT.or {P:Program}{f:Nat}{x y:XF}(hx:cT P f x)(hy:cT P f y):cT P f (fun args h nx K=>x args h nx K∨y args h nx K):=by
 refine⟨fun args h nx K hk=>?_,fun args h nx K hk=>?_⟩
 ·rcases hk with hk|hk
  ·exact hx.1 args h nx K hk
  exact hy.1 args h nx K hk
 ·rcases hk with hk|hk
  ·obtain⟨v,h',n',a,b⟩:=hx.2 args h nx K hk;exact⟨v,h',n',a,fun K' hk'=>.inl (b K' hk')⟩
  obtain⟨v,h',n',a,b⟩:=hy.2 args h nx K hk;exact⟨v,h',n',a,fun K' hk'=>.inr (b K' hk')⟩
def KU (v:Value):List Value→Option (Bool × Value)
 |[.slice none 0 0]=>some (true,v)
 |_=>none
theorem J7 {v w:Value}{args:List Value}(h:KU v args=some (true,w)):args=[.slice none 0 0]∧w=v:=by
 unfold KU at h;split at h
 ·injection h with h;injection h with h1 h2;exact⟨rfl,h2.symm⟩
 ·cases h
theorem n202:cT Go.Proofs.Tryz.prog 202 (gX (KU (.slice none 0 0))):=sX (aL (xl:=[]) .nil) fun args v hs=>by
 obtain⟨rfl,rfl⟩:=J7 hs;refine⟨rfl,rfl,?_⟩;(conv=>whnf)
theorem n134:cT Go.Proofs.Tryz.prog 134 (gX (KU (.tuple #[]))):=sX (mC (NF (xl:=[]) .nil 4) 8).1 fun args v hs=>by
 obtain⟨rfl,rfl⟩:=J7 hs;refine⟨rfl,rfl,?_⟩
 repeat' (((conv=>whnf);apply bm<;>intro g))
 all_goals (conv=>whnf)
end Go.Aw
end

noncomputable section
namespace Go.Aw
def j7 (l:List Int):List Int:=l.mergeSort fun x y=>decide (x≤y)
theorem v7 (l:List Int):(j7 l).length=l.length:=List.length_mergeSort l
theorem UN (l:List Int):(j7 l).Perm l:=List.mergeSort_perm l _
theorem K5 (l:List Int):(j7 l).Pairwise fun x y=>x≤y:=by
 have:=List.pairwise_mergeSort (le:=fun x y:Int=>decide (x≤y)) (fun a b c h1 h2=>by simp only [decide_eq_true_eq] at *;omega) (fun a b=>by simp only [Bool.or_eq_true,decide_eq_true_eq];omega) l;exact this.imp fun h=>by simpa using h
def sI:XF:=fun args h nx K=>match args with
 |[.slice (some ⟨k,0,none⟩) n c]=>∃ l,n=l.length∧look h k=some (.cells true false 1 (flat aP.fl l))∧l.length≤1000000∧0<l.length∧K (.tuple #[]) (r8 h k (.cells true false 1 (flat aP.fl (j7 l)))) nx
 |_=>False
def sIn:XF:=fun args h nx K=>sI args h nx K∨gX (KU (.tuple #[])) args h nx K
def cIn:XF:=fun args h nx K=>cpI args h nx K∨gX (KU (.slice none 0 0)) args h nx K
theorem aMj:cT Go.Proofs.Tryz.prog 202 cIn:=aMu.or n202
end Go.Aw
end

noncomputable section
namespace Go.Proofs
open Go.Shelf
def Tryz.OD:Go.Shelf.Ren:=⟨fun|189=>134|125=>204|257=>203|128=>238|129=>239|294=>229|295=>230|296=>231|297=>232|298=>233|299=>234|216=>235|300=>236|301=>237|328=>259|329=>260|330=>261|331=>262|332=>263|215=>221|343=>272|n=>n,fun|28=>30|3=>3|46=>199|0=>0|51=>222|53=>224|4=>4|183=>215|182=>214|131=>163|5=>5|9=>9|218=>235|222=>239|228=>246|229=>206|n=>n,fun|n=>n⟩
theorem Tryz.aDu:Go.Proofs.Lays.n189 Tryz.prog Tryz.OD:={
 mixed:=by kernel_rfl
 f125:=Tryz.func204.trans (congrArg some (by kernel_rfl))
 f128:=Tryz.func238.trans (congrArg some (by kernel_rfl))
 f129:=Tryz.func239.trans (congrArg some (by kernel_rfl))
 f189:=Tryz.func134.trans (congrArg some (by kernel_rfl))
 f215:=Tryz.func221.trans (congrArg some (by kernel_rfl))
 f216:=Tryz.func235.trans (congrArg some (by kernel_rfl))
 f257:=Tryz.func203.trans (congrArg some (by kernel_rfl))
 f294:=Tryz.func229.trans (congrArg some (by kernel_rfl))
 f295:=Tryz.func230.trans (congrArg some (by kernel_rfl))
 f296:=Tryz.func231.trans (congrArg some (by kernel_rfl))
 f297:=Tryz.func232.trans (congrArg some (by kernel_rfl))
 f298:=Tryz.func233.trans (congrArg some (by kernel_rfl))
 f299:=Tryz.func234.trans (congrArg some (by kernel_rfl))
 f300:=Tryz.func236.trans (congrArg some (by kernel_rfl))
 f301:=Tryz.func237.trans (congrArg some (by kernel_rfl))
 f328:=Tryz.func259.trans (congrArg some (by kernel_rfl))
 f329:=Tryz.func260.trans (congrArg some (by kernel_rfl))
 f330:=Tryz.func261.trans (congrArg some (by kernel_rfl))
 f331:=Tryz.func262.trans (congrArg some (by kernel_rfl))
 f332:=Tryz.func263.trans (congrArg some (by kernel_rfl))
 f343:=Tryz.func272.trans (congrArg some (by kernel_rfl))
 t0:=Tryz.underlying0
 a0:=Tryz.isAgg0
 z0:=Tryz.sizeOf0
 v0:=Tryz.zeroValue0
 t3:=Tryz.underlying3
 a3:=Tryz.isAgg3
 z3:=Tryz.sizeOf3
 v3:=Tryz.zeroValue3
 t4:=Tryz.underlying4
 a4:=Tryz.isAgg4
 z4:=Tryz.sizeOf4
 v4:=Tryz.zeroValue4
 t5:=Tryz.underlying5
 a5:=Tryz.isAgg5
 z5:=Tryz.sizeOf5
 v5:=Tryz.zeroValue5
 t9:=Tryz.underlying9
 a9:=Tryz.isAgg9
 z9:=Tryz.sizeOf9
 v9:=Tryz.zeroValue9
 t28:=Tryz.underlying30
 a28:=Tryz.isAgg30
 z28:=Tryz.sizeOf30
 v28:=Tryz.zeroValue30
 t46:=Tryz.underlying199
 a46:=Tryz.isAgg199
 z46:=Tryz.sizeOf199
 v46:=Tryz.zeroValue199
 t51:=Tryz.underlying222
 a51:=Tryz.isAgg222
 z51:=Tryz.sizeOf222
 v51:=Tryz.zeroValue222
 t53:=Tryz.underlying224
 a53:=Tryz.isAgg224
 z53:=Tryz.sizeOf224
 v53:=Tryz.zeroValue224
 t131:=Tryz.underlying163
 a131:=Tryz.isAgg163
 z131:=Tryz.sizeOf163
 v131:=Tryz.zeroValue163
 t182:=Tryz.underlying214
 a182:=Tryz.isAgg214
 z182:=Tryz.sizeOf214
 v182:=Tryz.zeroValue214
 t183:=Tryz.underlying215
 a183:=Tryz.isAgg215
 z183:=Tryz.sizeOf215
 v183:=Tryz.zeroValue215
 t218:=Tryz.underlying235
 a218:=Tryz.isAgg235
 z218:=Tryz.sizeOf235
 v218:=Tryz.zeroValue235
 t222:=Tryz.underlying239
 a222:=Tryz.isAgg239
 z222:=Tryz.sizeOf239
 v222:=Tryz.zeroValue239
 t228:=Tryz.underlying246
 a228:=Tryz.isAgg246
 z228:=Tryz.sizeOf246
 v228:=Tryz.zeroValue246
 t229:=Tryz.underlying206
 a229:=Tryz.isAgg206
 z229:=Tryz.sizeOf206
 v229:=Tryz.zeroValue206 }
end Go.Proofs
end

noncomputable section
namespace Go.Aw
open Go.RowKit Go.Shelf Go.Sort Go.Proofs
set_option maxRecDepth 100000
theorem RF (l:List Int){j:Nat}(h:j<l.length):(flat aP.fl l)[j]? = some (iv l.toArray[j]!):=by
 have h1:nth (flat aP.fl l) j=some (iv (aD l j)):=bY l h (by omega);rw [← tL,h1,dM h];simp [h]
theorem d134:cT Go.Proofs.Tryz.prog 134 sI:=by
 refine⟨fun args h nx K hx ι B w H hsc=>?_,fun args h nx K hx=>?_⟩
 ·unfold sI at hx;split at hx
  case h_2=>exact hx.elim
  rename_i k n c;obtain⟨l,rfl,hk,hlen,hpos,hK⟩:=hx;refine⟨⟨Go.Proofs.Tryz.f134,Go.Proofs.Tryz.func134,rfl,by decide +kernel⟩,?_⟩;have hsl:k<nx∧((ι k).gG=false→l.length=0∧c=0):=hsc _ (.head _);have ho:=H.obj k _ hk;cases hι:ι k with
  |nil p =>
   have:=hsl.2 (by rw [hι];rfl);omega
  |lay b off ex =>
   rw [hι] at ho;obtain⟨hB,_,arr,t,hblk,hsz,hcell⟩:=ho;rw [oZ,Nat.mul_one] at hsz;have hlt:b<w.heap.size:=(Array.getElem?_eq_some_iff.1 hblk).1;have hds:l.toArray.size=l.length:=(by simp);have hH:Holds (Value.int .i64) w b off l.toArray:=by
    intro j hj;rw [hds] at hj;have h1:=RF l hj;have h2:=hcell j _ h1;rw [kG (bB (aH aP l) (List.mem_of_getElem? h1))] at h2;refine⟨?_,?_⟩
    ·simp only [World.cell?,hblk];exact h2
    simp only [World.frozen?,hblk];simp
   have hcon:=Any.slices_Sort_int Go.Proofs.Tryz.aDu b off (c+ex) l w hH hlt (by omega);change Calls Go.Proofs.Tryz.prog 134 _ _ _ at hcon;have hargs:(([.slice (some ⟨k,0,none⟩) l.length c]:List Value).map (tr ι)).toArray=#[.slice (some ⟨b,off,none⟩) l.length (c+ex)]:=by
    simp only [List.map_cons,List.map_nil,tr,eD,bT,eG,hι,Nat.add_zero]
   rw [hargs];refine callsIn_wide.2 (hcon.mono fun e w' hr=>?_);obtain⟨rfl,n,os,rfl⟩:=hr;have hzl:=v7 l;change List Int at l;have hes:(l.mergeSort fun x y=>decide (x≤y))=j7 l:=rfl;rw [hes];generalize hZ:j7 l=Z at *;have hd':Z.toArray.size=l.length:=(by simpa using hzl);have hw1:(putRow (Value.int .i64) (Sort.ahead w n) b off Z.toArray).heap=w.heap.modify b (onCells (putCells (Value.int .i64) off Z.toArray)):=rfl;have hsz1:(putRow (Value.int .i64) (Sort.ahead w n) b off Z.toArray).heap.size=w.heap.size:=(by rw [hw1,Array.size_modify]);have hoth:∀ b',b'≠b→(putRow (Value.int .i64) (Sort.ahead w n) b off Z.toArray).heap[b']? = w.heap[b']? := fun b' hne=>by
    rw [hw1,Array.getElem?_modify,if_neg (fun e=>hne e.symm)]
   have hat:(putRow (Value.int .i64) (Sort.ahead w n) b off Z.toArray).heap[b]? = some (.cells (putCells (Value.int .i64) off Z.toArray arr) t (0,0)):=by
    rw [hw1,Array.getElem?_modify,if_pos rfl,hblk];rfl
   have h1:aV ι B (r8 h k (.cells true false 1 (flat aP.fl Z))) nx (putRow (Value.int .i64) (Sort.ahead w n) b off Z.toArray):=by
    refine H.set hk rfl ?_ (fun v hv=>cX (bB (aH aP _) hv)) rfl (fun b' hb'=>hoth b' (fun e=>hb' (by rw [hι,e];rfl))) (Nat.le_of_eq hsz1.symm);rw [hι];refine⟨hB,(fun h=>(by cases h)),_,t,hat,?_,fun i v hv=>?_⟩
    ·rw [oZ,Nat.mul_one,hzl];unfold putCells;rw [Array.size_mapIdx];exact hsz
    have hi:i<l.length:=by
     have:=(List.getElem?_eq_some_iff.1 hv).1;rw [oZ,Nat.mul_one,hzl] at this;exact this
    have hg:v=iv Z.toArray[i]! := by
     have h2:=RF Z (j:=i) (by rw [hzl];exact hi);rw [hv] at h2;injection h2
    rw [kG (bB (aH aP _) (List.mem_of_getElem? hv)),hg];unfold putCells;have hia:off+i<arr.size:=(by omega);rw [Array.getElem?_mapIdx,Array.getElem?_eq_getElem hia];simp only [Option.map_some];rw [if_pos ⟨by omega,by rw [hd'];omega⟩,show off+i - off=i by omega];rfl
   have hbel1:gW B w (putRow (Value.int .i64) (Sort.ahead w n) b off Z.toArray):=⟨rfl,rfl,rfl,Nat.le_of_eq hsz1.symm,fun b' hb'=>hoth b' (by omega),Nat.le_add_right _ _⟩;have hbel2:∀ B',B'≤(putRow (Value.int .i64) (Sort.ahead w n) b off Z.toArray).heap.size→gW B' (putRow (Value.int .i64) (Sort.ahead w n) b off Z.toArray) (Go.Sort.grow (putRow (Value.int .i64) (Sort.ahead w n) b off Z.toArray) os):=fun B' hB'=>⟨rfl,rfl,rfl,by unfold Go.Sort.grow;rw [Array.size_append];omega,fun b' hb'=>by unfold Go.Sort.grow;exact Array.getElem?_append_left (by omega),Nat.le_refl _⟩;exact⟨_,_,nx,ι,hK,(fun v hv=>by cases hv),h1.ext (hbel2 _ (Nat.le_refl _)),hbel1.trans (hbel2 B (by rw [hsz1];exact H.size)),fun _ _=>rfl,Nat.le_refl _,(by simp [tr])⟩
 unfold sI at hx;split at hx
 case h_2=>exact hx.elim
 rename_i k n c;obtain⟨l,hn,hk,hlen,hpos,hK⟩:=hx;exact⟨_,_,_,hK,fun K' hk'=>⟨l,hn,hk,hlen,hpos,hk'⟩⟩
theorem aLC:cT Go.Proofs.Tryz.prog 134 sIn:=d134.or n134
end Go.Aw
end

noncomputable section
namespace Go.Aw
set_option maxRecDepth 100000
set_option maxHeartbeats 2000000
def jT (P:Ed→Bool)(m:List Ed):Nat→List Int
 |0=>[]
 |i+1=>if P (cH m i)=true then jT P m i++[(i:Int)] else jT P m i
theorem SA {P:Ed→Bool}{m:List Ed}{i:Nat}(h:P (cH m i)=true):jT P m (i+1)=jT P m i++[(i:Int)]:=by
 show (if _ then _ else _)=_;rw [if_pos h]
theorem S6 {P:Ed→Bool}{m:List Ed}{i:Nat}(h:P (cH m i)=false):jT P m (i+1)=jT P m i:=by
 show (if _ then _ else _)=_;rw [if_neg (by rw [h];decide)]
theorem PY (P:Ed→Bool)(m:List Ed):∀ i,(jT P m i).length≤i
 |0=>Nat.le_refl _
 |i+1=>by
  have:=PY P m i;unfold jT;split
  ·rw [List.length_append,List.length_singleton];omega
  omega
def fZ (R:Heap)(nP:Nat)(m:List Ed)(nD nL c1 c2:Nat)(n:Int)(fo:Option (Nat × Nat)):Heap:=(0,.cells false false 1 (EC 4 5 1 2 6 nP m.length nD nL c1 c2 n fo))::(5,.cells false true aW.sz (flat aW.fl m))::R
def PW (a:Int):a8:=.cells false true 1 [iv a]
def aGA (h:Heap)(k:Nat)(a:Int):Prop:=∃ wr g sz,look h k=some (.cells wr g sz [iv a])
def tA (a b:Int)(e:Ed):Bool:=(decide (e.l=a)&&decide (e.r=b)) || (decide (e.l=b)&&decide (e.r=a))
abbrev pV (k:Nat):Value:=.pointer (some ⟨k,0,none⟩)
theorem aCW {R:Heap}{nP:Nat}{m:List Ed}{nD nL c1 c2:Nat}{n:Int}{fo:Option (Nat × Nat)}(h:zT R 2000):zT (fZ R nP m nD nL c1 c2 n fo) 2000:=by
 refine c8 (c8 h (by decide) (aN (aH _ _))) (by decide) ?_;refine aB5 ?_;exact List.forall_mem_cons.2 ⟨⟨rfl,dV rfl⟩,List.forall_mem_cons.2 ⟨⟨rfl,dV rfl⟩,List.forall_mem_cons.2 ⟨⟨rfl,dV rfl⟩,List.forall_mem_cons.2 ⟨⟨rfl,dV rfl⟩,List.forall_mem_cons.2 ⟨⟨rfl,dV rfl⟩,List.forall_mem_cons.2 ⟨⟨by cases fo <;> rfl,by cases fo <;> exact dV rfl⟩,fun _ h=>by cases h⟩⟩⟩⟩⟩⟩
theorem Q9 {α:Type}{E:El α}{out:List α}{e:Option Int}{h:Heap}{nx:Nat}{K:KE}(hx:MV E out e h nx K):∃ v h' nx',K v h' nx'∧∀ K':KE,K' v h' nx'→MV E out e h nx K':=by
 cases out with
 |nil=>exact⟨_,_,_,hx,fun K' hk=>hk⟩
 |cons a t=>exact⟨_,_,_,hx,fun K' hk=>hk⟩
def X2 (f:Int)(e:Ed):List Int:=if e.l=f∧e.r≠f then [e.r] else if e.r=f∧e.l≠f then [e.l] else []
def vB (m:List Ed)(f:Int):Nat→List Int
 |0=>[]
 |i+1=>vB m f i++X2 f (cH m i)
theorem UP (m:List Ed)(f:Int)(i:Nat):vB m f (i+1)=vB m f i++X2 f (cH m i):=rfl
theorem aFE (f:Int)(e:Ed):(X2 f e).length≤1:=by
 unfold X2;split
 ·exact Nat.le_refl _
 split
 ·exact Nat.le_refl _
 exact Nat.zero_le _
theorem MF (m:List Ed)(f:Int):∀ i,(vB m f i).length≤i
 |0=>Nat.le_refl _
 |i+1=>by
  have:=MF m f i;have:=aFE f (cH m i);rw [UP,List.length_append];omega
theorem YF:j7 []=[]:=by unfold j7;simp
theorem XE (l:List Int):∀ {p},0<p→0<(jC l p).length
 |1,_=>by show 0<([]++_).length;rw [if_pos (.inl rfl)];exact Nat.one_pos
 |p+2,_=>by
  have:=XE l (p:=p+1) (Nat.succ_pos _);show 0<(jC l (p+1)++_).length;rw [List.length_append];omega
def dS (m:List Ed)(f:Int):List Int:=jC (j7 (vB m f m.length)) (j7 (vB m f m.length)).length
def aKn (args0:List Value)(h0:Heap)(n0:Nat)(out:List Int)(e:Option Int):Prop :=
 ∃ nP m nD nL c1 c2 n fo f,args0=[pV 0,iv f]∧h0=fZ [] nP m nD nL c1 c2 n fo∧n0=2000∧out=dS m f∧e=none∧m.length≤1000
def sS (f:Int)(v:Value)(N c2:Nat)(j:Int):List (Nat × Value):=[(1,iv f),(5,v),(12,.slice (some ⟨5,0,none⟩) N c2),(13,iv N),(14,iv j)]
theorem aME {args0:List Value}{h0:Heap}{n0:Nat}{out:List Int}{e:Option Int}(h:aKn args0 h0 n0 out e):body [(134,sIn),(202,cIn)] 124 args0 h0 n0 (Yields aP out e):=by
 obtain⟨nP,m,nD,nL,c1,c2,n,fo,f,rfl,rfl,rfl,rfl,rfl,sm⟩:=h;have hok:zT (fZ [] nP m nD nL c1 c2 n fo) 2000:=aCW (fun k o hk=>by cases hk);have hN:∀ k,2000≤k→look (fZ [] nP m nD nL c1 c2 n fo) k=none:=fun k hk=>bS hok hk;(conv=>whnf)
 refine⟨fun q e h nx=>∃ (i:Nat) (j:Int),j=i∧i≤m.length∧q=m.length - i ∧
  ((vB m f i=[]∧e=sS f (.slice none 0 0) m.length c2 j∧h=fZ [] nP m nD nL c1 c2 n fo∧nx=2000) ∨
   (0<(vB m f i).length∧e=sS f (.slice (some ⟨2000,0,none⟩) (vB m f i).length (vB m f i).length) m.length c2 j∧h=[(2000,.cells true false 1 (flat aP.fl (vB m f i)))]++fZ [] nP m nD nL c1 c2 n fo∧nx=2001)),⟨m.length,?_⟩,?_⟩
 ·refine aQ (P:=[]) (W:=fZ [] nP m nD nL c1 c2 n fo) (e0:=sS f (.slice none 0 0) m.length c2 0) (n0:=2000) [] ⟨0,0,rfl,Nat.zero_le _,rfl,.inl ⟨rfl,rfl,rfl,rfl⟩⟩ ?_ hok (fun _ _ h=>h) (fun _ h=>by cases h) (fun _ h=>by cases h) (fun _ h=>by cases h) (by omega);unfold sS;((repeat' refine iE rfl rfl ?_);exact iN)
 rintro q e h nx ⟨i,j,hj,hi,rfl,hx⟩;rcases hx with ⟨hnil,rfl,rfl,rfl⟩|⟨hpos,rfl,rfl,rfl⟩
 ·unfold sS fZ;((conv=>whnf);apply bm<;>intro m1);rotate_left
  ·have hil:i=m.length:=(by simp [aA,aC] at m1;omega);have ho:dS m f=[]:=(by unfold dS;rw [← hil,hnil,YF];rfl);rw [ho];(conv=>whnf);refine .inr ?_;(conv=>whnf);refine .inr ?_;(conv=>whnf);rfl
  have hil:i<m.length:=(by simp [aA,aC] at m1;omega);((conv=>whnf);apply bm<;>intro m2);rotate_left
  ·exfalso;simp [aA,aC] at m2;omega
  (conv=>whnf);refine nN (A2 m (i:=i) hil ?_) ?_
  ·show _+Int.toNat j*5=_;omega
  have hs:=UP m f i;rw [hnil,List.nil_append] at hs;generalize cH m i=E at *;by_cases h1:E.l=f∧E.r≠f
  ·have hf:vB m f (i+1)=[E.r]:=by rw [hs];unfold X2;rw [if_pos h1]
   repeat' (((conv=>whnf);apply bm<;>intro g))
   all_goals (conv=>whnf)
   all_goals first
    |(refine⟨m.length - (i+1),by omega,?_⟩
      refine aQ (P:=[(2000,.cells true false 1 (flat aP.fl [E.r]))]) (W:=fZ [] nP m nD nL c1 c2 n fo) (e0:=sS f (.slice (some ⟨2000,0,none⟩) 1 1) m.length c2 (j+1)) (n0:=2001) [(2000,2002)] ⟨i+1,j+1,by omega,by omega,rfl,.inr ⟨by rw [hf];exact Nat.one_pos,by rw [hf];rfl,by rw [hf];rfl,rfl⟩⟩ ?_ hok ?_ ?_ ?_ ?_ (by omega)
      ·unfold sS;((repeat' refine iE rfl rfl ?_);exact iN)
      ·exact aK (aK (aS (aK (fun _ _ h=>h) (hN _ (by decide))) (hN _ (by decide))) (hN _ (by decide))) (hN _ (by decide))
      ·exact List.forall_mem_cons.2 ⟨⟨.inl ⟨Nat.le_of_ble_eq_true rfl,Nat.le_of_ble_eq_true rfl,Nat.le_of_ble_eq_true rfl⟩,_,rfl,aU (aH _ _) rfl⟩,fun _ h=>by cases h⟩
      ·show ∀ k∈[2000],∀ k'∈[2000],_;decide
      exact fun p h=>by rcases List.mem_cons.1 h with rfl|h;exact Nat.le_refl _;cases h)
    |(exfalso;clear hs;simp [aA,aC,aF] at *;first|omega|(simp_all;done)|(simp_all;omega))
  by_cases h2:E.r=f∧E.l≠f
  ·have hf:vB m f (i+1)=[E.l]:=by rw [hs];unfold X2;rw [if_neg h1,if_pos h2]
   repeat' (((conv=>whnf);apply bm<;>intro g))
   all_goals (conv=>whnf)
   all_goals first
    |(refine⟨m.length - (i+1),by omega,?_⟩
      refine aQ (P:=[(2000,.cells true false 1 (flat aP.fl [E.l]))]) (W:=fZ [] nP m nD nL c1 c2 n fo) (e0:=sS f (.slice (some ⟨2000,0,none⟩) 1 1) m.length c2 (j+1)) (n0:=2001) [(2000,2002)] ⟨i+1,j+1,by omega,by omega,rfl,.inr ⟨by rw [hf];exact Nat.one_pos,by rw [hf];rfl,by rw [hf];rfl,rfl⟩⟩ ?_ hok ?_ ?_ ?_ ?_ (by omega)
      ·unfold sS;((repeat' refine iE rfl rfl ?_);exact iN)
      ·exact aK (aK (aS (aK (fun _ _ h=>h) (hN _ (by decide))) (hN _ (by decide))) (hN _ (by decide))) (hN _ (by decide))
      ·exact List.forall_mem_cons.2 ⟨⟨.inl ⟨Nat.le_of_ble_eq_true rfl,Nat.le_of_ble_eq_true rfl,Nat.le_of_ble_eq_true rfl⟩,_,rfl,aU (aH _ _) rfl⟩,fun _ h=>by cases h⟩
      ·show ∀ k∈[2000],∀ k'∈[2000],_;decide
      exact fun p h=>by rcases List.mem_cons.1 h with rfl|h;exact Nat.le_refl _;cases h)
    |(exfalso;clear hs;simp [aA,aC,aF] at *;first|omega|(simp_all;done)|(simp_all;omega))
  have hf:vB m f (i+1)=[]:=by rw [hs];unfold X2;rw [if_neg h1,if_neg h2]
  repeat' (((conv=>whnf);apply bm<;>intro g))
  all_goals (conv=>whnf)
  all_goals first
   |(refine⟨m.length - (i+1),by omega,?_⟩
     refine aQ (P:=[]) (W:=fZ [] nP m nD nL c1 c2 n fo) (e0:=sS f (.slice none 0 0) m.length c2 (j+1)) (n0:=2000) [] ⟨i+1,j+1,by omega,by omega,rfl,.inl ⟨hf,rfl,rfl,rfl⟩⟩ ?_ hok ?_ (fun _ h=>by cases h) (fun _ h=>by cases h) (fun _ h=>by cases h) (by omega)
     ·unfold sS;((repeat' refine iE rfl rfl ?_);exact iN)
     exact aS (aK (fun _ _ h=>h) (hN _ (by decide))) (hN _ (by decide)))
   |(exfalso;clear hs;simp [aA,aC,aF] at *;first|omega|(simp_all;done)|(simp_all;omega))
 unfold sS fZ;have hlen:(flat aP.fl (vB m f i)).length=(vB m f i).length:=(by rw [a7];show _*1=_;omega);have hle:=MF m f i;((conv=>whnf);apply bm<;>intro m1);rotate_left
 ·have hil:i=m.length:=(by simp [aA,aC] at m1;omega);have ho:dS m f=jC (j7 (vB m f i)) (j7 (vB m f i)).length:=(by unfold dS;rw [← hil]);rw [ho];(conv=>whnf);refine .inl ⟨vB m f i,rfl,rfl,by omega,hpos,?_⟩;have hsl:=v7 (vB m f i);generalize j7 (vB m f i)=Z at *;rw [← hsl];(conv=>whnf);refine .inl ⟨Z,rfl,rfl,rfl,rfl,by omega,by omega,?_⟩;(conv=>whnf);have hd:0<(jC Z Z.length).length:=XE Z (by omega);exact iR aP (e:=none) (nx:=0) hd rfl
 have hil:i<m.length:=(by simp [aA,aC] at m1;omega);((conv=>whnf);apply bm<;>intro m2);rotate_left
 ·exfalso;simp [aA,aC] at m2;omega
 (conv=>whnf);refine nN (A2 m (i:=i) hil ?_) ?_
 ·show _+Int.toNat j*5=_;omega
 have hs:=UP m f i;generalize vB m f i=X at *;generalize cH m i=E at *;by_cases h1:E.l=f∧E.r≠f
 ·have hf:vB m f (i+1)=X++[E.r]:=by rw [hs];unfold X2;rw [if_pos h1]
  repeat' (((conv=>whnf);apply bm<;>intro g))
  all_goals (conv=>whnf)
  all_goals first
   |(refine⟨m.length - (i+1),by omega,?_⟩
     refine aQ (P:=[(2000,.cells true false 1 (flat aP.fl (X++[E.r])))]) (W:=fZ [] nP m nD nL c1 c2 n fo) (e0:=sS f (.slice (some ⟨2000,0,none⟩) (X.length+1) (X.length+1)) m.length c2 (j+1)) (n0:=2001) [(2000,2003)] ⟨i+1,j+1,by omega,by omega,rfl,.inr ⟨by rw [hf,List.length_append];exact Nat.succ_pos _,by rw [hf,List.length_append];rfl,by rw [hf];rfl,rfl⟩⟩ ?_ hok ?_ ?_ ?_ ?_ (by omega)
     ·unfold sS;((repeat' refine iE rfl rfl ?_);exact iN)
     ·exact aK (bA (aK (aS (aK (ext_cons (fun _ _ h=>h) (hN _ (by decide))) (hN _ (by decide))) (hN _ (by decide))) (hN _ (by decide))) (hN _ (by decide))) (hN _ (by decide))
     ·exact List.forall_mem_cons.2 ⟨⟨.inl ⟨Nat.le_of_ble_eq_true rfl,Nat.le_of_ble_eq_true rfl,Nat.le_of_ble_eq_true rfl⟩,_,rfl,aU (aH aP _) (cL aP X _ rfl)⟩,fun _ h=>by cases h⟩
     ·show ∀ k∈[2000],∀ k'∈[2000],_;decide
     exact fun p h=>by rcases List.mem_cons.1 h with rfl|h;exact Nat.le_refl _;cases h)
   |exact jA (s:=1) (by omega) (by omega) (by assumption)
   |(exfalso;rename_i g;have:=Nat.le_of_ble_eq_true g;omega)
   |(exfalso;clear hs;simp [aA,aC,aF] at *;first|omega|(simp_all;done)|(simp_all;omega))
 by_cases h2:E.r=f∧E.l≠f
 ·have hf:vB m f (i+1)=X++[E.l]:=by rw [hs];unfold X2;rw [if_neg h1,if_pos h2]
  repeat' (((conv=>whnf);apply bm<;>intro g))
  all_goals (conv=>whnf)
  all_goals first
   |(refine⟨m.length - (i+1),by omega,?_⟩
     refine aQ (P:=[(2000,.cells true false 1 (flat aP.fl (X++[E.l])))]) (W:=fZ [] nP m nD nL c1 c2 n fo) (e0:=sS f (.slice (some ⟨2000,0,none⟩) (X.length+1) (X.length+1)) m.length c2 (j+1)) (n0:=2001) [(2000,2003)] ⟨i+1,j+1,by omega,by omega,rfl,.inr ⟨by rw [hf,List.length_append];exact Nat.succ_pos _,by rw [hf,List.length_append];rfl,by rw [hf];rfl,rfl⟩⟩ ?_ hok ?_ ?_ ?_ ?_ (by omega)
     ·unfold sS;((repeat' refine iE rfl rfl ?_);exact iN)
     ·exact aK (bA (aK (aS (aK (ext_cons (fun _ _ h=>h) (hN _ (by decide))) (hN _ (by decide))) (hN _ (by decide))) (hN _ (by decide))) (hN _ (by decide))) (hN _ (by decide))
     ·exact List.forall_mem_cons.2 ⟨⟨.inl ⟨Nat.le_of_ble_eq_true rfl,Nat.le_of_ble_eq_true rfl,Nat.le_of_ble_eq_true rfl⟩,_,rfl,aU (aH aP _) (cL aP X _ rfl)⟩,fun _ h=>by cases h⟩
     ·show ∀ k∈[2000],∀ k'∈[2000],_;decide
     exact fun p h=>by rcases List.mem_cons.1 h with rfl|h;exact Nat.le_refl _;cases h)
   |exact jA (s:=1) (by omega) (by omega) (by assumption)
   |(exfalso;rename_i g;have:=Nat.le_of_ble_eq_true g;omega)
   |(exfalso;clear hs;simp [aA,aC,aF] at *;first|omega|(simp_all;done)|(simp_all;omega))
 have hf:vB m f (i+1)=X:=by rw [hs];unfold X2;rw [if_neg h1,if_neg h2,List.append_nil]
 repeat' (((conv=>whnf);apply bm<;>intro g))
 all_goals (conv=>whnf)
 all_goals first
  |(refine⟨m.length - (i+1),by omega,?_⟩
    refine aQ (P:=[(2000,.cells true false 1 (flat aP.fl X))]) (W:=fZ [] nP m nD nL c1 c2 n fo) (e0:=sS f (.slice (some ⟨2000,0,none⟩) X.length X.length) m.length c2 (j+1)) (n0:=2001) [] ⟨i+1,j+1,by omega,by omega,rfl,.inr ⟨by rw [hf];exact hpos,by rw [hf];rfl,by rw [hf];rfl,rfl⟩⟩ ?_ hok ?_ ?_ ?_ (fun _ h=>by cases h) (by omega)
    ·unfold sS;((repeat' refine iE rfl rfl ?_);exact iN)
    ·exact aS (aK (ext_cons (fun _ _ h=>h) (hN _ (by decide))) (hN _ (by decide))) (hN _ (by decide))
    ·exact List.forall_mem_cons.2 ⟨⟨.inl ⟨Nat.le_of_ble_eq_true rfl,Nat.le_of_ble_eq_true rfl,Nat.le_of_ble_eq_true rfl⟩,_,rfl,aN (aH _ _)⟩,fun _ h=>by cases h⟩
    show ∀ k∈[2000],∀ k'∈[2000],_;decide)
  |(exfalso;clear hs;simp [aA,aC,aF] at *;first|omega|(simp_all;done)|(simp_all;omega))
end Go.Aw
end
