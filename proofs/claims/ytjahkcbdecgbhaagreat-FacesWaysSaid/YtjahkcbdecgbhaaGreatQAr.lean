/-
  Parts of a proof. No condition.
-/
import Derived.Test.YtjahkcbdecgbhaaGreatQAo
import Derived.Test.YtjahkcbdecgbhaaGreatQAp
import Derived.Test.YtjahkcbdecgbhaaGreatQAq
set_option linter.unusedSimpArgs false
set_option linter.unusedVariables false
noncomputable section
namespace Go.Aw
set_option maxRecDepth 100000
def aCc:List Value→Option (Bool × List (Int × Int) × Option Int)
 |[u,v]=>(match aCq u with|some s=>(match aCq v with|some t=>some (iM s&&iM t,qN s t,none)|none=>none)|none=>none)
 |_=>none
theorem ZV {args:List Value}{l:List (Int × Int)}{e:Option Int}(hs:aCc args=some (true,l,e)):∃ s t,args=[sgv s,sgv t]∧(iM s&&iM t)=true∧l=qN s t∧e=none:=by
 unfold aCc at hs;split at hs
 ·split at hs
  ·rename_i s e1;split at hs
   ·rename_i t e2;injection hs with hs;injection hs with h1 h2;injection h2 with h2 h3;exact⟨s,t,by rw [MW e1,MW e2],h1,h2.symm,h3.symm⟩
   ·cases hs
  ·cases hs
 ·cases hs
def eE (v:Value)(j:Int):List (Nat × Value):=[(2,.pointer (some ⟨0,0,none⟩)),(3,.pointer (some ⟨1,0,none⟩)),(5,v),(6,.slice (some ⟨2,0,none⟩) 4 4),(7,iv j)]
def MR (s:Sg):List Value:=[iv s.1.1,iv s.1.2,iv s.2.1,iv s.2.2]
def hE (s t:Sg)(ps:List (Int × Int)):Heap:=[(0,.cells true false 1 (MR s)),(1,.cells true false 1 (MR t)),(2,.cells true false 2 (flat aT.fl ps))]
def F4 (s t:Sg)(ps out:List (Int × Int)):Heap:=[(0,.cells true false 1 (MR s)),(1,.cells true false 1 (MR t)),(2,.cells true false 2 (flat aT.fl ps)),(3,.cells true false 2 (flat aT.fl out))]
def eI (v:Value)(j:Int)(b1 b2 b:Bool)(k:Int):List (Nat × Value):=[(2,.pointer (some ⟨0,0,none⟩)),(3,.pointer (some ⟨1,0,none⟩)),(5,v),(6,.slice (some ⟨2,0,none⟩) 4 4),(7,iv j),(8,.bool b1),(9,.bool b2),(10,.bool b),(11,iv k)]
theorem aA7 (p q:Int × Int)(l:List (Int × Int)):mK p (l++[q])=(mK p l || jW q p):=by
 induction l with
 |nil=>simp [mK]
 |cons a r ih=>simp only [List.cons_append,mK,ih,Bool.or_assoc]
theorem F8 {p:Int × Int}{l:List (Int × Int)}{k:Nat}(h:k<l.length):mK p (l.take (k+1))=(mK p (l.take k) || jW (jG l k) p):=by
 rw [List.take_add_one,List.getElem?_eq_getElem h,n9 h,← aA7];rfl
theorem ZE {s t:Sg}(l out:List (Int × Int)):(l.foldl (l8 s t) out).length≤out.length+l.length:=by
 induction l generalizing out with
 |nil=>simp
 |cons a r ih =>
  have:=ih (l8 s t out a);have h2:(l8 s t out a).length≤out.length+1:=by
   unfold l8;split <;> simp
  simp only [List.foldl_cons,List.length_cons];omega
theorem PG {s t:Sg}{l:List (Int × Int)}(h:l.length≤4):(l.foldl (l8 s t) []).length≤4:=by
 have:=ZE (s:=s) (t:=t) l [];simp at this;omega
theorem Z4 (l:List (Int × Int))(p:Int × Int):List.take (l.length*2) (List.drop 0 (flat aT.fl l))++[iv p.1,iv p.2]=flat aT.fl (l++[p]):=by
 rw [pB,List.drop_zero,List.take_of_length_le (by rw [a7];exact Nat.le_refl _)];rfl
def X70:Nat × XF:=(264,fX aT aCc)
theorem x70:cT Go.Proofs.Tryz.prog X70.1 X70.2:=aJr aT (aL (xl:=[X67]) (.cons x67 .nil)) fun args l e hs=>by
 obtain⟨s,t,rfl,hw,rfl,rfl⟩:=ZV hs;refine⟨rfl,?_⟩;clear hs;obtain⟨⟨ax,ay⟩,⟨bx,b2⟩⟩:=s;obtain⟨⟨cx,cy⟩,⟨dx,dy⟩⟩:=t;obtain⟨ps,hps⟩:∃ ps:List (Int × Int),ps=[(ax,ay),(bx,b2),(cx,cy),(dx,dy)]:=⟨_,rfl⟩;(conv=>whnf)
 refine⟨fun n e h nx=>∃ (i:Nat) (j:Int) (out:List (Int × Int)),j=i∧i≤4∧n=4 - i∧out=(ps.take i).foldl (l8 ((ax,ay),(bx,b2)) ((cx,cy),(dx,dy))) [] ∧
  ((out=[]∧e=eE (.slice none 0 0) j∧h=hE ((ax,ay),(bx,b2)) ((cx,cy),(dx,dy)) ps∧nx=3)∨(0<out.length∧e=eE (.slice (some ⟨3,0,none⟩) out.length out.length) j∧h=F4 ((ax,ay),(bx,b2)) ((cx,cy),(dx,dy)) ps out∧nx=4)),⟨4,?_⟩,?_⟩
 ·subst hps;refine aO (e0:=eE (.slice none 0 0) 0) (h0:=hE ((ax,ay),(bx,b2)) ((cx,cy),(dx,dy)) [(ax,ay),(bx,b2),(cx,cy),(dx,dy)]) (n0:=3) ⟨0,0,[],rfl,by decide,rfl,rfl,.inl ⟨rfl,rfl,rfl,rfl⟩⟩ ?_ ?_ (by decide)
  ·unfold eE;((repeat' refine iE rfl rfl ?_);exact iN)
  unfold hE;((repeat'(first|refine iF rfl rfl ?_|refine iJ rfl rfl rfl rfl ?_));exact iN)
 have hl4:ps.length=4:=(by rw [hps];rfl);simp only [Bool.and_eq_true] at hw;have hww:∀ p∈ps,wide p=true:=by
  have h1:=hw.1;have h2:=hw.2;simp only [iM,Bool.and_eq_true] at h1 h2;subst hps;exact List.forall_mem_cons.2 ⟨h1.1,List.forall_mem_cons.2 ⟨h1.2,List.forall_mem_cons.2 ⟨h2.1,List.forall_mem_cons.2 ⟨h2.2,fun _ h=>(by cases h)⟩⟩⟩⟩
 rintro n e h nx ⟨i,j,out,hj,hi,rfl,ho,⟨ho0,rfl,rfl,rfl⟩|⟨hol,rfl,rfl,rfl⟩⟩
 ·unfold eE hE;((conv=>whnf);apply bm<;>intro g1);rotate_left
  ·(conv=>whnf);have h4:i=4:=(by simp only [gJ,fQ,decide_eq_false_iff_not] at g1;omega);subst h4;have:qN ((ax,ay),(bx,b2)) ((cx,cy),(dx,dy))=[]:=by
    rw [← ho0,ho,hps];rfl
   rw [this];rfl
  have hlt:i<ps.length:=(by simp [aA,aC] at g1;omega);have hwp:wide (jG ps i)=true:=(by rw [n9 hlt];exact hww _ (List.getElem_mem hlt));((conv=>whnf);apply bm<;>intro g2);rotate_left
  ·exfalso;simp only [gJ,AN,kX,fQ,Bool.eq_false_iff,ne_eq,Bool.and_eq_true,decide_eq_true_eq] at g1 g2;omega
  (conv=>whnf);refine nN (P6 ps hlt ?_) ?_
  ·simp [aA,aC];omega
  ((conv=>whnf);apply bm<;>intro g3);rotate_left
  ·exfalso;simp only [hwp,Bool.true_and] at g3;rw [show iM _=true from hw.1] at g3;cases g3
  ((conv=>whnf);apply bm<;>intro g4);rotate_left
  ·exfalso;rw [g4] at g2;cases g2
  (conv=>whnf);refine nN (P6 ps hlt ?_) ?_
  ·simp [aA,aC];omega
  ((conv=>whnf);apply bm<;>intro g5);rotate_left
  ·exfalso;simp only [hwp,Bool.true_and] at g5;rw [show iM _=true from hw.2] at g5;cases g5
  (conv=>whnf);refine⟨fun n e h nx=>n=0∧e=eI (.slice none 0 0) j (pQ (jG ps i) ((ax,ay),(bx,b2))) (pQ (jG ps i) ((cx,cy),(dx,dy))) false 0∧h=hE ((ax,ay),(bx,b2)) ((cx,cy),(dx,dy)) ps∧nx=3,⟨0,?_⟩,?_⟩
  ·refine aO (e0:=eI (.slice none 0 0) j (pQ (jG ps i) ((ax,ay),(bx,b2))) (pQ (jG ps i) ((cx,cy),(dx,dy))) false 0) (h0:=hE ((ax,ay),(bx,b2)) ((cx,cy),(dx,dy)) ps) (n0:=3) ⟨rfl,rfl,rfl,rfl⟩ ?_ ?_ (by decide)
   ·unfold eI;((repeat' refine iE rfl rfl ?_);exact iN)
   unfold hE;((repeat'(first|refine iF rfl rfl ?_|refine iJ rfl rfl rfl rfl ?_));exact iN)
  rintro n e h nx ⟨rfl,rfl,rfl,rfl⟩;have hat:ps.take (i+1)=ps.take i++[jG ps i]:=by
   rw [n9 hlt,List.take_add_one,List.getElem?_eq_getElem hlt];rfl
  have ho':(ps.take (i+1)).foldl (l8 ((ax,ay),(bx,b2)) ((cx,cy),(dx,dy))) []=l8 ((ax,ay),(bx,b2)) ((cx,cy),(dx,dy)) [] (jG ps i):=by
   rw [hat,List.foldl_append,← ho,ho0];rfl
  unfold eI hE
  repeat' first
   |((conv=>whnf)
     refine nN (P6 ps hlt ?_) ?_
     ·simp [aA,aC];omega)
   |(((conv=>whnf);apply bm<;>intro g))
  all_goals (conv=>whnf)
  ·clear g1 g2 g3 g4 g5;rename_i ga gb _;refine⟨4 - (i+1),by omega,?_⟩
   refine gN (e0:=eE (.slice (some ⟨3,0,none⟩) 1 1) (j+1)) (h0:=F4 ((ax,ay),(bx,b2)) ((cx,cy),(dx,dy)) ps [jG ps i]) (n0:=4) 3 4 (by decide) (by decide)
    ⟨i+1,j+1,[jG ps i],by omega,by omega,rfl,?_,.inr ⟨Nat.one_pos,rfl,rfl,rfl⟩⟩ ?_ ?_ ?_
   ·simp only [jB,beq_iff_eq] at ga gb;rw [ho',l8,if_pos ⟨ga,gb,rfl⟩];rfl
   ·unfold eE;((repeat' refine iE rfl rfl ?_);exact iN)
   ·unfold F4;((repeat'(first|refine iF rfl rfl ?_|refine iJ rfl rfl rfl rfl ?_));exact iN)
   unfold F4;((repeat' refine iK rfl ?_);exact iN)
  ·exfalso;simp only [kD,eV,aF,Bool.eq_false_iff,ne_eq,Bool.and_eq_true,decide_eq_true_eq] at g;omega
  ·exfalso;rw [g] at g2;cases g2
  ·clear g1 g2 g3 g4 g5;rename_i ga gb;refine⟨4 - (i+1),by omega,?_⟩;refine aO (e0:=eE (.slice none 0 0) (j+1)) (h0:=hE ((ax,ay),(bx,b2)) ((cx,cy),(dx,dy)) ps) (n0:=3) ⟨i+1,j+1,[],by omega,by omega,rfl,?_,.inl ⟨rfl,rfl,rfl,rfl⟩⟩ ?_ ?_ (by decide)
   ·simp only [jB,beq_eq_false_iff_ne,ne_eq] at gb;rw [ho',l8,if_neg fun h=>gb h.2.1]
   ·unfold eE;((repeat' refine iE rfl rfl ?_);exact iN)
   unfold hE;((repeat'(first|refine iF rfl rfl ?_|refine iJ rfl rfl rfl rfl ?_));exact iN)
  ·exfalso;simp only [kD,eV,aF,Bool.eq_false_iff,ne_eq,Bool.and_eq_true,decide_eq_true_eq] at g;omega
  ·clear g1 g2 g3 g4 g5;rename_i ga;refine⟨4 - (i+1),by omega,?_⟩;refine aO (e0:=eE (.slice none 0 0) (j+1)) (h0:=hE ((ax,ay),(bx,b2)) ((cx,cy),(dx,dy)) ps) (n0:=3) ⟨i+1,j+1,[],by omega,by omega,rfl,?_,.inl ⟨rfl,rfl,rfl,rfl⟩⟩ ?_ ?_ (by decide)
   ·simp only [jB,beq_eq_false_iff_ne,ne_eq] at ga;rw [ho',l8,if_neg fun h=>ga h.1]
   ·unfold eE;((repeat' refine iE rfl rfl ?_);exact iN)
   unfold hE;((repeat'(first|refine iF rfl rfl ?_|refine iJ rfl rfl rfl rfl ?_));exact iN)
  exfalso;simp only [kD,eV,aF,Bool.eq_false_iff,ne_eq,Bool.and_eq_true,decide_eq_true_eq] at g;omega
 have out_len:out.length≤4:=(by rw [ho];exact PG (by rw [List.length_take];omega));unfold eE F4;((conv=>whnf);apply bm<;>intro g1);rotate_left
 ·(conv=>whnf);have h4:i=4:=(by simp only [gJ,fQ,decide_eq_false_iff_not] at g1;omega);subst h4;have:qN ((ax,ay),(bx,b2)) ((cx,cy),(dx,dy))=out:=by
   rw [ho,hps];rfl
  rw [this];exact iR (q:=3) (h:=F4 ((ax,ay),(bx,b2)) ((cx,cy),(dx,dy)) ps out) (nx:=4) (e:=none) aT hol rfl
 have hlt:i<ps.length:=(by simp [aA,aC] at g1;omega);have hwp:wide (jG ps i)=true:=(by rw [n9 hlt];exact hww _ (List.getElem_mem hlt));((conv=>whnf);apply bm<;>intro g2);rotate_left
 ·exfalso;simp only [gJ,AN,kX,fQ,Bool.eq_false_iff,ne_eq,Bool.and_eq_true,decide_eq_true_eq] at g1 g2;omega
 (conv=>whnf);refine nN (P6 ps hlt ?_) ?_
 ·simp [aA,aC];omega
 ((conv=>whnf);apply bm<;>intro g3);rotate_left
 ·exfalso;simp only [hwp,Bool.true_and] at g3;rw [show iM _=true from hw.1] at g3;cases g3
 ((conv=>whnf);apply bm<;>intro g4);rotate_left
 ·exfalso;rw [g4] at g2;cases g2
 (conv=>whnf);refine nN (P6 ps hlt ?_) ?_
 ·simp [aA,aC];omega
 ((conv=>whnf);apply bm<;>intro g5);rotate_left
 ·exfalso;simp only [hwp,Bool.true_and] at g5;rw [show iM _=true from hw.2] at g5;cases g5
 (conv=>whnf);refine⟨fun n e h nx=>∃ (k:Nat) (jk:Int),jk=k∧k≤out.length∧n=out.length - k∧e=eI (.slice (some ⟨3,0,none⟩) out.length out.length) j (pQ (jG ps i) ((ax,ay),(bx,b2))) (pQ (jG ps i) ((cx,cy),(dx,dy))) (mK (jG ps i) (out.take k)) jk∧h=F4 ((ax,ay),(bx,b2)) ((cx,cy),(dx,dy)) ps out∧nx=4,⟨out.length,?_⟩,?_⟩
 ·refine aO (e0:=eI (.slice (some ⟨3,0,none⟩) out.length out.length) j (pQ (jG ps i) ((ax,ay),(bx,b2))) (pQ (jG ps i) ((cx,cy),(dx,dy))) false 0) (h0:=F4 ((ax,ay),(bx,b2)) ((cx,cy),(dx,dy)) ps out) (n0:=4) ⟨0,0,rfl,Nat.zero_le _,rfl,rfl,rfl,rfl⟩ ?_ ?_ (by decide)
  ·unfold eI;((repeat' refine iE rfl rfl ?_);exact iN)
  unfold F4;((repeat'(first|refine iF rfl rfl ?_|refine iJ rfl rfl rfl rfl ?_));exact iN)
 rintro n e h nx ⟨k,jk,hjk,hk,rfl,rfl,rfl,rfl⟩;have hat:ps.take (i+1)=ps.take i++[jG ps i]:=by
  rw [n9 hlt,List.take_add_one,List.getElem?_eq_getElem hlt];rfl
 have ho':(ps.take (i+1)).foldl (l8 ((ax,ay),(bx,b2)) ((cx,cy),(dx,dy))) []=l8 ((ax,ay),(bx,b2)) ((cx,cy),(dx,dy)) out (jG ps i):=by
  rw [hat,List.foldl_append,← ho];rfl
 unfold eI F4;((conv=>whnf);apply bm<;>intro f1)
 ·have hltk:k<out.length:=by simp [aA,aC] at f1;omega
  repeat' first
   |((conv=>whnf)
     refine nN (P6 out hltk ?_) ?_
     ·simp [aA,aC];omega)
   |((conv=>whnf)
     refine nN (P6 ps hlt ?_) ?_
     ·simp [aA,aC];omega)
   |(((conv=>whnf);apply bm<;>intro g))
  all_goals (conv=>whnf)
  ·clear g1 g2 g3 g4 g5;rename_i ga _ _;refine⟨out.length - (k+1),by omega,?_⟩;refine aO (e0:=eI (.slice (some ⟨3,0,none⟩) out.length out.length) j (pQ (jG ps i) ((ax,ay),(bx,b2))) (pQ (jG ps i) ((cx,cy),(dx,dy))) (jW (jG out k) (jG ps i)) (jk+1)) (h0:=F4 ((ax,ay),(bx,b2)) ((cx,cy),(dx,dy)) ps out) (n0:=4) ⟨k+1,jk+1,by omega,hltk,rfl,?_,rfl,rfl⟩ ?_ ?_ (by decide)
   ·simp only [jB,beq_iff_eq,beq_eq_false_iff_ne,ne_eq,Bool.not_eq_false] at ga;rw [F8 hltk,ga];rfl
   ·unfold eI;((repeat' refine iE rfl rfl ?_);exact iN)
   unfold F4;((repeat'(first|refine iF rfl rfl ?_|refine iJ rfl rfl rfl rfl ?_));exact iN)
  ·exfalso;have:=out_len;simp only [kD,eV,aF,Bool.eq_false_iff,ne_eq,Bool.and_eq_true,decide_eq_true_eq] at g;omega
  ·exfalso;rw [g] at g2;cases g2
  ·exfalso;simp only [gJ,AN,kX,fQ,Bool.eq_false_iff,ne_eq,Bool.and_eq_true,decide_eq_true_eq] at g;omega
  ·clear g1 g2 g3 g4 g5;rename_i ga;refine⟨out.length - (k+1),by omega,?_⟩;refine aO (e0:=eI (.slice (some ⟨3,0,none⟩) out.length out.length) j (pQ (jG ps i) ((ax,ay),(bx,b2))) (pQ (jG ps i) ((cx,cy),(dx,dy))) true (jk+1)) (h0:=F4 ((ax,ay),(bx,b2)) ((cx,cy),(dx,dy)) ps out) (n0:=4) ⟨k+1,jk+1,by omega,hltk,rfl,?_,rfl,rfl⟩ ?_ ?_ (by decide)
   ·simp only [jB,beq_iff_eq,beq_eq_false_iff_ne,ne_eq,Bool.not_eq_false] at ga;rw [F8 hltk,ga];rfl
   ·unfold eI;((repeat' refine iE rfl rfl ?_);exact iN)
   unfold F4;((repeat'(first|refine iF rfl rfl ?_|refine iJ rfl rfl rfl rfl ?_));exact iN)
  exfalso;simp only [kD,eV,aF,Bool.eq_false_iff,ne_eq,Bool.and_eq_true,decide_eq_true_eq] at g;omega
 have hkk:k=out.length:=by simp only [gJ,fQ,decide_eq_false_iff_not] at f1;omega
 repeat' first
  |((conv=>whnf)
    refine nN (P6 ps hlt ?_) ?_
    ·simp [aA,aC];omega)
  |(((conv=>whnf);apply bm<;>intro g))
 all_goals (conv=>whnf)
 ·exfalso;rename_i gc _;have:=Nat.le_of_ble_eq_true gc;omega
 ·exfalso;rename_i gc _;have:=Nat.le_of_ble_eq_true gc;omega
 ·exfalso;rename_i gc;have:=Nat.le_of_ble_eq_true gc;omega
 ·clear g1 g2 g3 g4 g5;rename_i ga gb gx _ _ _;refine⟨4 - (i+1),by omega,?_⟩
  refine gN (e0:=eE (.slice (some ⟨3,0,none⟩) (out.length+1) (out.length+1)) (j+1)) (h0:=F4 ((ax,ay),(bx,b2)) ((cx,cy),(dx,dy)) ps (out++[jG ps i])) (n0:=4) 3 5 (by decide) (by decide)
   ⟨i+1,j+1,out++[jG ps i],by omega,by omega,rfl,?_,.inr ⟨by rw [List.length_append];exact Nat.succ_pos _,by rw [List.length_append];rfl,rfl,rfl⟩⟩ ?_ ?_ ?_
  ·simp only [jB,gQ,beq_iff_eq,Bool.not_eq_true'] at ga gb gx;rw [ho',l8,if_pos ⟨ga,gb,by rw [hkk,List.take_length] at gx;exact gx⟩]
  ·unfold eE;((repeat' refine iE rfl rfl ?_);exact iN)
  ·unfold F4;((repeat'(first|refine iW rfl rfl (aU (aH aT _) (Z4 out _)) ?_|refine iF rfl rfl ?_|refine iJ rfl rfl rfl rfl ?_));exact iN)
  unfold F4;((repeat' refine iK rfl ?_);exact iN)
 ·exfalso;simp only [kD,eV,aF,Bool.eq_false_iff,ne_eq,Bool.and_eq_true,decide_eq_true_eq] at g;omega
 ·exfalso;have hf:(flat aT.fl out).length=out.length*2:=a7 aT out;have hol4:out.length≤4:=(by rw [ho];exact PG (by rw [List.length_take];omega));simp only [kX,hf] at g;revert g;simp;omega
 ·exfalso;rw [g] at g2;cases g2
 ·clear g1 g2 g3 g4 g5;rename_i gx;refine⟨4 - (i+1),by omega,?_⟩;refine aO (e0:=eE (.slice (some ⟨3,0,none⟩) out.length out.length) (j+1)) (h0:=F4 ((ax,ay),(bx,b2)) ((cx,cy),(dx,dy)) ps out) (n0:=4) ⟨i+1,j+1,out,by omega,by omega,rfl,?_,.inr ⟨hol,rfl,rfl,rfl⟩⟩ ?_ ?_ (by decide)
  ·simp only [jB,gQ,beq_eq_false_iff_ne,ne_eq,Bool.not_eq_false'] at gx;rw [ho',l8,if_neg fun h=>by rw [hkk,List.take_length] at gx;rw [gx] at h;exact absurd h.2.2 (by decide)]
  ·unfold eE;((repeat' refine iE rfl rfl ?_);exact iN)
  unfold F4;((repeat'(first|refine iF rfl rfl ?_|refine iJ rfl rfl rfl rfl ?_));exact iN)
 ·exfalso;simp only [kD,eV,aF,Bool.eq_false_iff,ne_eq,Bool.and_eq_true,decide_eq_true_eq] at g;omega
 ·clear g1 g2 g3 g4 g5;rename_i gx;refine⟨4 - (i+1),by omega,?_⟩;refine aO (e0:=eE (.slice (some ⟨3,0,none⟩) out.length out.length) (j+1)) (h0:=F4 ((ax,ay),(bx,b2)) ((cx,cy),(dx,dy)) ps out) (n0:=4) ⟨i+1,j+1,out,by omega,by omega,rfl,?_,.inr ⟨hol,rfl,rfl,rfl⟩⟩ ?_ ?_ (by decide)
  ·simp only [jB,gQ,beq_eq_false_iff_ne,ne_eq,Bool.not_eq_false'] at gx;rw [ho',l8,if_neg fun h=>gx h.2.1]
  ·unfold eE;((repeat' refine iE rfl rfl ?_);exact iN)
  unfold F4;((repeat'(first|refine iF rfl rfl ?_|refine iJ rfl rfl rfl rfl ?_));exact iN)
 ·exfalso;simp only [kD,eV,aF,Bool.eq_false_iff,ne_eq,Bool.and_eq_true,decide_eq_true_eq] at g;omega
 ·clear g1 g2 g3 g4 g5;rename_i gx;refine⟨4 - (i+1),by omega,?_⟩;refine aO (e0:=eE (.slice (some ⟨3,0,none⟩) out.length out.length) (j+1)) (h0:=F4 ((ax,ay),(bx,b2)) ((cx,cy),(dx,dy)) ps out) (n0:=4) ⟨i+1,j+1,out,by omega,by omega,rfl,?_,.inr ⟨hol,rfl,rfl,rfl⟩⟩ ?_ ?_ (by decide)
  ·simp only [jB,gQ,beq_eq_false_iff_ne,ne_eq,Bool.not_eq_false'] at gx;rw [ho',l8,if_neg fun h=>gx h.1]
  ·unfold eE;((repeat' refine iE rfl rfl ?_);exact iN)
  unfold F4;((repeat'(first|refine iF rfl rfl ?_|refine iJ rfl rfl rfl rfl ?_));exact iN)
 exfalso;simp only [kD,eV,aF,Bool.eq_false_iff,ne_eq,Bool.and_eq_true,decide_eq_true_eq] at g;omega
attribute [local irreducible] qN
def J4 (s t:Sg):List (Int × Int)→Int
 |[]=>if bE s.1 s.2 t.1*bE s.1 s.2 t.2<0∧bE t.1 t.2 s.1*bE t.1 t.2 s.2<0 then 3 else 0
 |[p]=>if (jW p s.1=true∨jW p s.2=true)∧(jW p t.1=true∨jW p t.2=true) then 1 else 2
 |_::_::_=>4
theorem aEO (s t:Sg):oS s t=J4 s t (qN s t):=rfl
theorem aCy {s t:Sg}{l:List (Int × Int)}(h:qN s t=l):oS s t=J4 s t l:=by
 rw [aEO,h]
def X72:Nat × XF:=(243,gX (s2 cS cS fun s t=>(iM s&&iM t,u8 (oS s t))))
theorem x72:cT Go.Proofs.Tryz.prog X72.1 X72.2:=x2 cS cS (xl:=[X70,X57]) (.cons x70 (.cons x57 .nil)) (fun _ _=>rfl) fun s t hp=>by
 obtain⟨⟨ax,ay⟩,⟨bx,b2⟩⟩:=s;obtain⟨⟨cx,cy⟩,⟨dx,dy⟩⟩:=t;have l1:=mA (ax,ay) (bx,b2) (cx,cy);have l2:=mA (ax,ay) (bx,b2) (dx,dy);have l3:=mA (cx,cy) (dx,dy) (ax,ay);have l4:=mA (cx,cy) (dx,dy) (bx,b2);have m1:=wL (A:=1) (B:=1) l1.1 l1.2 l2.1 l2.2;have m2:=wL (A:=1) (B:=1) l3.1 l3.2 l4.1 l4.2;have hp':=hp;simp only [iM,Bool.and_eq_true] at hp;unfold dF;((conv=>whnf);apply bm<;>intro g);rotate_left
 ·exfalso;rw [show _=true from hp'] at g;cases g
 (conv=>whnf);generalize he:qN _ _=L;have hm:oS ((ax,ay),(bx,b2)) ((cx,cy),(dx,dy))=J4 ((ax,ay),(bx,b2)) ((cx,cy),(dx,dy)) L:=aCy he;clear he g hp';rcases L with _|⟨p,_|⟨q,r⟩⟩
 ·repeat' ((conv=>whnf);apply bm<;>intro g)
  all_goals (conv=>whnf)
  all_goals (clear l1 l2 l3 l4)
  all_goals (try (show u8 _=u8 (oS ((ax,ay),(bx,b2)) ((cx,cy),(dx,dy)));rw [hm];clear hm))
  all_goals (simp only [LN,gJ,eV,jB,fQ,aF,DH,Bool.and_eq_true,beq_iff_eq,beq_eq_false_iff_ne,ne_eq,decide_eq_true_eq,decide_eq_false_iff_not,not_and,Bool.not_eq_true',Bool.not_eq_false'] at *)
  all_goals first
   |(simp only [J4,u8];simp_all;done)
   |(simp_all;done)
   |(simp only [Bool.and_eq_false_iff,decide_eq_false_iff_not] at *;omega)
   |(rw [J4,if_neg fun h=>g h.1];done)
 ·repeat' ((conv=>whnf);apply bm<;>intro g)
  all_goals (conv=>whnf)
  all_goals (clear l1 l2 l3 l4 m1 m2 hp)
  all_goals (show u8 _=u8 (oS ((ax,ay),(bx,b2)) ((cx,cy),(dx,dy)));rw [hm];clear hm)
  all_goals (simp only [tM,kX,LN,gJ,eV,jB,fQ,aF,DH,beq_iff_eq,beq_eq_false_iff_ne,ne_eq] at *)
  all_goals (simp only [J4,u8];simp_all [jW] <;> omega)
 ((conv=>whnf);apply bm<;>intro g)
 ·(conv=>whnf);show u8 _=u8 (oS ((ax,ay),(bx,b2)) ((cx,cy),(dx,dy)));rw [hm];rfl
 exfalso;simp [gJ,fQ] at g;omega
def fT (s t:Sg):Int:=if eH s=true∧eH t=true then sE s t else 0
def X22:Nat × XF:=(198,gX (s2 cS cS fun s t=>(true,u8 (fT s t))))
theorem x22:cT Go.Proofs.Tryz.prog X22.1 X22.2:=x2 cS cS (xl:=[X64,X68]) (.cons x64 (.cons x68 .nil)) (fun _ _=>rfl) fun s t _=>by
 obtain⟨⟨ax,ay⟩,⟨bx,b2⟩⟩:=s;obtain⟨⟨cx,cy⟩,⟨dx,dy⟩⟩:=t;unfold dF
 repeat' ((conv=>whnf);apply bm<;>intro g)
 all_goals (conv=>whnf)
 all_goals (simp only [jB,gQ,DH,Bool.not_eq_true',Bool.not_eq_false',beq_iff_eq,beq_eq_false_iff_ne,ne_eq,Bool.not_eq_false,Bool.not_eq_true] at *)
 all_goals first
  |(show u8 _=u8 _;simp [fT, *];done)
  |(simp_all [uK];done)
  |trace_state
def X25:Nat × XF:=(213,gX (s2 cS cS fun s t=>(true,u8 (fT s t))))
theorem x25:cT Go.Proofs.Tryz.prog X25.1 X25.2:=x2 cS cS (xl:=[X66,X72]) (.cons x66 (.cons x72 .nil)) (fun _ _=>rfl) fun s t _=>by
 have e:=XP s t;obtain⟨⟨ax,ay⟩,⟨bx,b2⟩⟩:=s;obtain⟨⟨cx,cy⟩,⟨dx,dy⟩⟩:=t;unfold dF
 repeat' ((conv=>whnf);apply bm<;>intro g)
 all_goals (conv=>whnf)
 all_goals (simp only [jB,gQ,DH,Bool.not_eq_true',Bool.not_eq_false',beq_iff_eq,beq_eq_false_iff_ne,ne_eq,Bool.not_eq_false,Bool.not_eq_true] at *)
 all_goals first
  |(show u8 _=u8 _;simp [fT, *];done)
  |(simp_all [uK];done)
  |trace_state
def aHQ:Nat × XF:=(170,gX (s2 cP cP fun a b=>(true,iv (lA a b))))
theorem aJG:cT Go.Proofs.Tryz.prog aHQ.1 aHQ.2:=x2 cP cP (xl:=[UO,aCD]) (.cons ZI (.cons aGR .nil)) (fun _ _=>rfl) fun a b _=>by
 obtain⟨ax,ay⟩:=a;obtain⟨bx,b_y⟩:=b;unfold dF
 conv=>whnf
 refine⟨[jL ax bx,jL ay b_y],⟨rfl,_,_,_,_,rfl,rfl⟩,?_⟩
 conv=>whnf
 rfl
section
variable {α β γ δ:Type}(a:Cd α)(b:Cd β)(c:Cd γ)(d:Cd δ)
def s4 (F:α→β→γ→δ→Bool × Value):List Value→Option (Bool × Value)
 |[u,v,w,t]=>(match a.dec u with|some x=>(match b.dec v with|some y=>(match c.dec w with|some z=>(match d.dec t with|some s=>some (F x y z s)|none=>none)|none=>none)|none=>none)|none=>none)
 |_=>none
theorem aHn {F:α→β→γ→δ→Bool × Value}{args:List Value}{r:Bool × Value}(h:s4 a b c d F args=some r):∃ x y z s,args=[a.enc x,b.enc y,c.enc z,d.enc s]∧F x y z s=r:=by
 unfold s4 at h;split at h
 ·split at h
  ·rename_i x e;split at h
   ·rename_i y e2;split at h
    ·rename_i z e3;split at h
     ·rename_i s e4;injection h with h;exact⟨x,y,z,s,by rw [a.ok _ _ e,b.ok _ _ e2,c.ok _ _ e3,d.ok _ _ e4],h⟩
     ·cases h
    ·cases h
   ·cases h
  ·cases h
 ·cases h
theorem x4' {xl:List (Nat × XF)}(hx:pF xl){f:Nat}{F:α→β→γ→δ→Bool × Value}(hg:∀ x y z s,gT (F x y z s).2=true)(h:∀ x y z s,(F x y z s).1=true→dF xl f [a.enc x,b.enc y,c.enc z,d.enc s] (F x y z s).2):cT Go.Proofs.Tryz.prog f (gX (s4 a b c d F)) :=
 sX (aL hx) fun args v hs=>by
  obtain⟨x,y,z,s,rfl,e⟩:=aHn a b c d hs;have h1:(F x y z s).1=true:=(by rw [e]);have h2:(F x y z s).2=v:=(by rw [e]);subst h2;exact⟨by simp [eT,a.gr,b.gr,c.gr,d.gr],hg x y z s,h x y z s h1⟩
end
theorem aFN {b:Bool}(h:aA.A.eqB b false=true):b=false:=by cases b <;> first|rfl|cases h
theorem aGl {b:Bool}(h:aA.A.eqB b false=false):b=true:=by cases b <;> first|rfl|cases h
def mxI (a b:Int):Int:=if b > a then b else a
def mnI (a b:Int):Int:=if b<a then b else a
def apI (a b c d:Int):Bool:=decide (mxI a b<mnI c d) || decide (mxI c d<mnI a b)
def aID:Nat × XF:=(228,gX (s4 cI cI cI cI fun a b c d=>(true,.bool (apI a b c d))))
theorem aLe:cT Go.Proofs.Tryz.prog aID.1 aID.2:=x4' cI cI cI cI (xl:=[]) .nil (fun _ _ _ _=>rfl) fun a b c d _=>by
 unfold dF
 repeat' (conv=>whnf
          apply bm<;>intro h)
 all_goals (conv=>whnf)
 all_goals (show _=Value.bool (apI a b c d))
 ·have h1:decide (mxI a b<mnI c d)=false:=aFN h;unfold apI;rw [h1];rfl
 have h1:decide (mxI a b<mnI c d)=true:=aGl h;unfold apI;rw [h1];rfl
def BW (s t:Sg):Bool:=apI s.1.1 s.2.1 t.1.1 t.2.1 || apI s.1.2 s.2.2 t.1.2 t.2.2
def aIu:Nat × XF:=(197,gX (s2 cS cS fun s t=>(true,.bool (BW s t))))
theorem aMq:cT Go.Proofs.Tryz.prog aIu.1 aIu.2:=x2 cS cS (xl:=[aID]) (.cons aLe .nil) (fun _ _=>rfl) fun s t _=>by
 obtain⟨⟨ax,ay⟩,⟨bx,b2⟩⟩:=s;obtain⟨⟨cx,cy⟩,⟨dx,dy⟩⟩:=t;unfold dF
 repeat' (conv=>whnf
          apply bm<;>intro h)
 all_goals (conv=>whnf)
 ·have h1:apI ax bx cx dx=false:=aFN h;show _=Value.bool (BW _ _);unfold BW;rw [h1];rfl
 have h1:apI ax bx cx dx=true:=aGl h;show _=Value.bool (BW _ _);unfold BW;rw [h1];rfl
def FB (s t:Sg):Int:=if BW s t=true then 0 else fT s t
def U2:Nat × XF:=(119,gX (s2 cS cS fun s t=>(true,u8 (FB s t))))
theorem aG5:cT Go.Proofs.Tryz.prog U2.1 U2.2:=x2 cS cS (xl:=[aIu,X22]) (.cons aMq (.cons x22 .nil)) (fun _ _=>rfl) fun s t _=>by
 obtain⟨⟨ax,ay⟩,⟨bx,b2⟩⟩:=s;obtain⟨⟨cx,cy⟩,⟨dx,dy⟩⟩:=t;unfold dF
 repeat' (conv=>whnf
          apply bm<;>intro h)
 all_goals (conv=>whnf)
 ·have h1:BW ((ax,ay),(bx,b2)) ((cx,cy),(dx,dy))=true:=h;show _=u8 _;simp only [FB,h1,if_true];rfl
 have h1:BW ((ax,ay),(bx,b2)) ((cx,cy),(dx,dy))=false:=h;show _=u8 _;simp only [FB,h1];rfl
def gC (a b:Int × Int):Bool:=decide (a.1<b.1) || (decide (a.1=b.1)&&decide (a.2<b.2))
def aIH:Nat × XF:=(212,gX (s2 cP cP fun a b=>(true,.bool (gC a b))))
theorem aLX:cT Go.Proofs.Tryz.prog aIH.1 aIH.2:=x2 cP cP (xl:=[]) .nil (fun _ _=>rfl) fun a b _=>by
 obtain⟨ax,ay⟩:=a;obtain⟨bx,b_y⟩:=b;unfold dF
 repeat' ((conv=>whnf);apply bm<;>intro h)
 all_goals (conv=>whnf)
 all_goals (simp only [gJ,tM,jB,gQ,beq_iff_eq,beq_eq_false_iff_ne,ne_eq,Bool.not_eq_false,Bool.not_eq_true,decide_eq_true_eq,decide_eq_false_iff_not] at *)
 all_goals (show _=Value.bool (gC _ _);unfold gC;simp_all)
def aHr (a b c:Int × Int):Int:=(b.1 - a.1)*(c.1 - a.1)+(b.2 - a.2)*(c.2 - a.2)
def aEj:Nat × XF:=(217,gX (s3 cP cP cP fun a b c=>(wide a&&wide b&&wide c,iv (bG a b c))))
theorem aJj:cT Go.Proofs.Tryz.prog aEj.1 aEj.2:=x3 cP cP cP (xl:=[]) .nil (fun _ _ _=>rfl) fun a b c hp=>by
 obtain⟨ax,ay⟩:=a;obtain⟨bx,b_y⟩:=b;obtain⟨cx,cy⟩:=c;simp only [wide,Bool.and_eq_true,decide_eq_true_eq] at hp;have m1:=wL (a:=bx - ax) (b:=cy - ay) (A:=2000000) (B:=2000000) (by omega) (by omega) (by omega) (by omega);have m2:=wL (a:=b_y - ay) (b:=cx - ax) (A:=2000000) (B:=2000000) (by omega) (by omega) (by omega) (by omega);unfold dF
 repeat' (conv=>whnf
          apply bm<;>intro h)
 all_goals (conv=>whnf)
 all_goals (simp [aA,aC,aF] at *)
 all_goals first|omega|simp [bG,iv]
def aHY:Nat × XF:=(245,gX (s3 cP cP cP fun a b c=>(wide a&&wide b&&wide c,iv (aHr a b c))))
theorem aLf:cT Go.Proofs.Tryz.prog aHY.1 aHY.2:=x3 cP cP cP (xl:=[]) .nil (fun _ _ _=>rfl) fun a b c hp=>by
 obtain⟨ax,ay⟩:=a;obtain⟨bx,b_y⟩:=b;obtain⟨cx,cy⟩:=c;simp only [wide,Bool.and_eq_true,decide_eq_true_eq] at hp;have m1:=wL (a:=bx - ax) (b:=cx - ax) (A:=2000000) (B:=2000000) (by omega) (by omega) (by omega) (by omega);have m2:=wL (a:=b_y - ay) (b:=cy - ay) (A:=2000000) (B:=2000000) (by omega) (by omega) (by omega) (by omega);unfold dF
 repeat' (conv=>whnf
          apply bm<;>intro h)
 all_goals (conv=>whnf)
 all_goals (simp [aA,aC,aF] at *)
 all_goals first|omega|simp [aHr,iv]
def CF (v u w:Int × Int):Int:=if bG v u w<0 then 0 else if 0<bG v u w then 2 else if aHr v u w<0 then 1 else 3
def aIe:Nat × XF:=(216,gX (s3 cP cP cP fun a b c=>(wide a&&wide b&&wide c,iv (CF a b c))))
theorem aMi:cT Go.Proofs.Tryz.prog aIe.1 aIe.2:=x3 cP cP cP (xl:=[aEj,aHY]) (.cons aJj (.cons aLf .nil)) (fun _ _ _=>rfl) fun a b c hp=>by
 obtain⟨ax,ay⟩:=a;obtain⟨bx,b_y⟩:=b;obtain⟨cx,cy⟩:=c;simp only [Bool.and_eq_true] at hp;unfold dF
 repeat' ((conv=>whnf);apply bm<;>intro h)
 all_goals (conv=>whnf)
 all_goals (simp only [gJ,DH,decide_eq_true_eq,decide_eq_false_iff_not] at *)
 all_goals first
  |(show iv _=iv (CF _ _ _);unfold CF;(repeat' split) <;> first|rfl|omega)
  |(simp_all;done)
  |trace_state
def qS (v u w x:Int × Int):Bool:=if CF v u w=CF v u x then decide (bG v w x<0) else decide (CF v u w<CF v u x)
def aGN:Nat × XF:=(164,gX (s4 cP cP cP cP fun a b c d=>(wide a&&wide b&&wide c&&wide d,.bool (qS a b c d))))
theorem aMZ:cT Go.Proofs.Tryz.prog aGN.1 aGN.2:=x4' cP cP cP cP (xl:=[aIe,aEj]) (.cons aMi (.cons aJj .nil)) (fun _ _ _ _=>rfl) fun a b c d hp=>by
 obtain⟨ax,ay⟩:=a;obtain⟨bx,b_y⟩:=b;obtain⟨cx,cy⟩:=c;obtain⟨dx,dy⟩:=d;simp only [Bool.and_eq_true] at hp;unfold dF
 repeat' ((conv=>whnf);apply bm<;>intro h)
 all_goals (conv=>whnf)
 all_goals (simp only [gJ,tM,gQ,DH,Bool.not_eq_true',Bool.not_eq_false',decide_eq_true_eq,decide_eq_false_iff_not] at *)
 all_goals first
  |(show _=Value.bool (qS _ _ _ _);unfold qS;(repeat' split) <;> first|rfl|(simp_all;done)|omega)
  |(simp_all;done)
  |trace_state
abbrev Pt:=Int × Int
structure Ed where
 a:Int
 b:Int
 l:Int
 r:Int
 n:Int
def aW:El Ed:=⟨fun e=>[iv e.a,iv e.b,iv e.l,iv e.r,iv e.n],5,fun _=>rfl,fun _=>rfl,by decide⟩
def cH (m:List Ed)(i:Nat):Ed:=m.getD i ⟨0,0,0,0,0⟩
theorem LS {m:List Ed}{i:Nat}(h:i<m.length):cH m i=m[i]:=by
 unfold cH;rw [List.getD_eq_getElem?_getD,List.getElem?_eq_getElem h];rfl
theorem A2 (m:List Ed){i o:Nat}(hi:i<m.length)(ho:o=i*5):nU (flat aW.fl m) o 5=some [iv (cH m i).a,iv (cH m i).b,iv (cH m i).l,iv (cH m i).r,iv (cH m i).n]:=by
 rw [LS hi];exact zP aW m hi ho
theorem OO (m:List Ed)(k:Nat){i o:Nat}{v:Value}(hi:i<m.length)(hk:(aW.fl (cH m i))[k]? = some v)(hk5:k<5)(ho:o=i*5+k):nth (flat aW.fl m) o=some v:=by
 rw [LS hi] at hk;exact oG aW m hi hk hk5 ho
theorem jP (l:List Pt){i o:Nat}(hi:i<l.length)(ho:o=i*2):nU (flat aT.fl l) o 2=some [iv (jG l i).1,iv (jG l i).2]:=by
 rw [n9 hi];exact zP aT l hi ho
theorem aJ {α:Type}(E:El α){l:List α}{k c:Nat}{wr g:Bool}{sz:Nat}{h:Heap}(hk:look h k=some (.cells wr g sz (flat E.fl l))):iQ E h (.slice (some ⟨k,0,none⟩) l.length c) l :=
 ⟨rfl,wr,g,sz,_,hk,by rw [List.drop_zero,List.take_length]⟩
def cG (m:List Ed)(d:Int):Int:=if d % 2=0 then (cH m (d / 2).toNat).a else (cH m (d / 2).toNat).b
def iH (m:List Ed)(d:Int):Int:=cG m (d+1 - 2*(d % 2))
abbrev MS:=List Pt→List Ed→Int→List Value→Option (Bool × Value)
def pD (m:List Ed)(d:Int):Bool:=decide (0≤d)&&decide (d<2*m.length)&&decide (m.length≤1000000)
def sMD (F:List Pt→List Ed→Int→Int→Bool × Value):MS:=fun l m n r=>match r with
 |[.int .i64 d]=>some (F l m n d)
 |_=>none
theorem AV {F:List Pt→List Ed→Int→Int→Bool × Value}{l:List Pt}{m:List Ed}{n:Int}{r:List Value}{v:Value}(h:sMD F l m n r=some (true,v)):∃ d,r=[iv d]∧(F l m n d).1=true∧(F l m n d).2=v:=by
 unfold sMD at h;split at h
 ·rename_i d;injection h with h;exact⟨d,rfl,by rw [h],by rw [h]⟩
 ·cases h
def X87:Nat × XF:=(87,mX aT aW (sMD fun l m n d=>(pD m d,iv (cG m d))))
theorem x87:cT Go.Proofs.Tryz.prog X87.1 X87.2:=uG aT aW (aL (xl:=[]) .nil) fun l m n r v hs=>by
 obtain⟨d,rfl,hd,rfl⟩:=AV hs;simp only [pD,Bool.and_eq_true,decide_eq_true_eq] at hd;have q1:d.tdiv 2=d / 2:=Int.tdiv_eq_ediv_of_nonneg hd.1.1;have q2:d.tmod 2=d % 2:=Int.tmod_eq_emod_of_nonneg hd.1.1;refine⟨rfl,rfl,fun c1 c2=>?_⟩;((conv=>whnf);apply bm<;>intro h1)
 ·((conv=>whnf);apply bm<;>intro h2)
  ·(conv=>whnf);refine nN (A2 m (i:=(d / 2).toNat) (by omega) ?_) ?_
   ·show _+Int.toNat (d.tdiv 2)*5=_;rw [q1];omega
   ((conv=>whnf);apply bm<;>intro h4)
   ·(conv=>whnf);have h4:decide (d.tmod 2=0)=true:=h4;simp only [q2,decide_eq_true_eq] at h4;simp only [cG,if_pos h4]
   (conv=>whnf);have h4:decide (d.tmod 2=0)=false:=h4;simp only [q2,decide_eq_false_iff_not] at h4;simp only [cG,if_neg h4]
  simp only [aA,aC,q1] at h2;simp at h2;have:=h2 (by omega);omega
 simp only [aA,aC,q1,aF] at h1;simp at h1;omega
theorem aDe {m:List Ed}{d:Int}(h:pD m d=true):pD m (d+1 - 2*(d % 2))=true:=by
 simp only [pD,Bool.and_eq_true,decide_eq_true_eq] at *;omega
def aDw:Nat × XF:=(163,mX aT aW (sMD fun l m n d=>(pD m d,iv (iH m d))))
theorem aJs:cT Go.Proofs.Tryz.prog aDw.1 aDw.2:=uG aT aW (aL (xl:=[X87]) (.cons x87 .nil)) fun l m n r v hs=>by
 obtain⟨d,rfl,hd,rfl⟩:=AV hs;have hd2:=aDe hd;simp only [pD,Bool.and_eq_true,decide_eq_true_eq] at hd;have q2:d.tmod 2=d % 2:=Int.tmod_eq_emod_of_nonneg hd.1.1;refine⟨rfl,rfl,fun c1 c2=>?_⟩
 repeat' ((conv=>whnf);apply bm<;>intro h1)
 all_goals try (simp only [aA,aC,aF,q2] at h1;simp at h1;omega)
 (conv=>whnf);have e:d+1 - 2*(d.tmod 2)=d+1 - 2*(d % 2):=(by rw [q2]);refine⟨l,m,aB2 aT rfl,aJ aW rfl,?_⟩;((conv=>whnf);apply bm<;>intro h2)
 ·(conv=>whnf);show iv (cG m (d+1 - 2*(d.tmod 2)))=iv (iH m d);rw [e];rfl
 have h2:pD m (d+1 - 2*(d.tmod 2))=false:=h2;rw [e,hd2] at h2;cases h2
end Go.Aw
end
