/-
  Parts of a proof. No condition.
-/
import Derived.Test.YtjahkcbdecgbhaaGreatQAo
import Derived.Test.YtjahkcbdecgbhaaGreatQAp
import Derived.Test.YtjahkcbdecgbhaaGreatQAq
set_option linter.unusedSimpArgs false
set_option linter.unusedVariables false
noncomputable section
namespace Go.Aw
set_option maxRecDepth 100000
def aB1:List Value→Option (Bool × List (Int × Int) × Option Int)
 |[u,v]=>(match aBX u with|some s=>(match aBX v with|some t=>some (gV s&&gV t,pO s t,none)|none=>none)|none=>none)
 |_=>none
theorem XE {args:List Value}{l:List (Int × Int)}{e:Option Int}(hs:aB1 args=some (true,l,e)):∃ s t,args=[sgv s,sgv t]∧(gV s&&gV t)=true∧l=pO s t∧e=none:=by
 unfold aB1 at hs;split at hs
 ·split at hs
  ·rename_i s e1;split at hs
   ·rename_i t e2;injection hs with hs;injection hs with h1 h2;injection h2 with h2 h3;exact⟨s,t,by rw [LA e1,LA e2],h1,h2.symm,h3.symm⟩
   ·cases hs
  ·cases hs
 ·cases hs
def eE (v:Value)(j:Int):List (Nat × Value):=[(2,.pointer (some ⟨0,0,none⟩)),(3,.pointer (some ⟨1,0,none⟩)),(5,v),(6,.slice (some ⟨2,0,none⟩) 4 4),(7,iv j)]
def J9 (s:Sg):List Value:=[iv s.1.1,iv s.1.2,iv s.2.1,iv s.2.2]
def hE (s t:Sg)(ps:List (Int × Int)):Heap:=[(0,.cells true false 1 (J9 s)),(1,.cells true false 1 (J9 t)),(2,.cells true false 2 (flat aQ.fl ps))]
def FJ (s t:Sg)(ps out:List (Int × Int)):Heap:=[(0,.cells true false 1 (J9 s)),(1,.cells true false 1 (J9 t)),(2,.cells true false 2 (flat aQ.fl ps)),(3,.cells true false 2 (flat aQ.fl out))]
def eI (v:Value)(j:Int)(b1 b2 b:Bool)(k:Int):List (Nat × Value):=[(2,.pointer (some ⟨0,0,none⟩)),(3,.pointer (some ⟨1,0,none⟩)),(5,v),(6,.slice (some ⟨2,0,none⟩) 4 4),(7,iv j),(8,.bool b1),(9,.bool b2),(10,.bool b),(11,iv k)]
theorem XC (p q:Int × Int)(l:List (Int × Int)):mC p (l++[q])=(mC p l || jI q p):=by
 induction l with
 |nil=>simp [mC]
 |cons a r ih=>simp only [List.cons_append,mC,ih,Bool.or_assoc]
theorem FD {p:Int × Int}{l:List (Int × Int)}{k:Nat}(h:k<l.length):mC p (l.take (k+1))=(mC p (l.take k) || jI (fT l k) p):=by
 rw [List.take_add_one,List.getElem?_eq_getElem h,lW h,← XC];rfl
theorem WY {s t:Sg}(l out:List (Int × Int)):(l.foldl (lO s t) out).length≤out.length+l.length:=by
 induction l generalizing out with
 |nil=>simp
 |cons a r ih =>
  have:=ih (lO s t out a);have h2:(lO s t out a).length≤out.length+1:=by
   unfold lO;split <;> simp
  simp only [List.foldl_cons,List.length_cons];omega
theorem NF {s t:Sg}{l:List (Int × Int)}(h:l.length≤4):(l.foldl (lO s t) []).length≤4:=by
 have:=WY (s:=s) (t:=t) l [];simp at this;omega
theorem WO (l:List (Int × Int))(p:Int × Int):List.take (l.length*2) (List.drop 0 (flat aQ.fl l))++[iv p.1,iv p.2]=flat aQ.fl (l++[p]):=by
 rw [s8,List.drop_zero,List.take_of_length_le (by rw [bE];exact Nat.le_refl _)];rfl
def X70:Nat × XF:=(264,fX aQ aB1)
theorem x70:cO Go.Proofs.Tryz.prog X70.1 X70.2:=aID aQ (aL (xl:=[X67]) (.cons x67 .nil)) fun args l e hs=>by
 obtain⟨s,t,rfl,hw,rfl,rfl⟩:=XE hs;refine⟨rfl,?_⟩;clear hs;obtain⟨⟨ax,ay⟩,⟨bx,b2⟩⟩:=s;obtain⟨⟨cx,cy⟩,⟨dx,dy⟩⟩:=t;obtain⟨ps,hps⟩:∃ ps:List (Int × Int),ps=[(ax,ay),(bx,b2),(cx,cy),(dx,dy)]:=⟨_,rfl⟩;(conv=>whnf)
 refine⟨fun n e h nx=>∃ (i:Nat) (j:Int) (out:List (Int × Int)),j=i∧i≤4∧n=4 - i∧out=(ps.take i).foldl (lO ((ax,ay),(bx,b2)) ((cx,cy),(dx,dy))) [] ∧
  ((out=[]∧e=eE (.slice none 0 0) j∧h=hE ((ax,ay),(bx,b2)) ((cx,cy),(dx,dy)) ps∧nx=3)∨(0<out.length∧e=eE (.slice (some ⟨3,0,none⟩) out.length out.length) j∧h=FJ ((ax,ay),(bx,b2)) ((cx,cy),(dx,dy)) ps out∧nx=4)),⟨4,?_⟩,?_⟩
 ·subst hps;refine aK (e0:=eE (.slice none 0 0) 0) (h0:=hE ((ax,ay),(bx,b2)) ((cx,cy),(dx,dy)) [(ax,ay),(bx,b2),(cx,cy),(dx,dy)]) (n0:=3) ⟨0,0,[],rfl,by decide,rfl,rfl,.inl ⟨rfl,rfl,rfl,rfl⟩⟩ ?_ ?_ (by decide)
  ·unfold eE;((repeat' refine iE rfl rfl ?_);exact iN)
  ·unfold hE;((repeat'(first|refine iF rfl rfl ?_|refine iJ rfl rfl rfl rfl ?_));exact iN)
 ·have hl4:ps.length=4:=(by rw [hps];rfl);simp only [Bool.and_eq_true] at hw;have hww:∀ p∈ps,wide p=true:=by
   have h1:=hw.1;have h2:=hw.2;simp only [gV,Bool.and_eq_true] at h1 h2;subst hps;exact List.forall_mem_cons.2 ⟨h1.1,List.forall_mem_cons.2 ⟨h1.2,List.forall_mem_cons.2 ⟨h2.1,List.forall_mem_cons.2 ⟨h2.2,fun _ h=>(by cases h)⟩⟩⟩⟩
  rintro n e h nx ⟨i,j,out,hj,hi,rfl,ho,⟨ho0,rfl,rfl,rfl⟩|⟨hol,rfl,rfl,rfl⟩⟩
  ·unfold eE hE;((conv=>whnf);refine bm (fun g1=>?_) (fun g1=>?_))
   ·have hlt:i<ps.length:=(by simp [aA,aC] at g1;omega);have hwp:wide (fT ps i)=true:=(by rw [lW hlt];exact hww _ (List.getElem_mem hlt));((conv=>whnf);refine bm (fun g2=>?_) (fun g2=>?_))
    ·(conv=>whnf);refine oA (MR ps hlt ?_) ?_
     ·simp [aA,aC];omega
     ((conv=>whnf);refine bm (fun g3=>?_) (fun g3=>?_))
     ·((conv=>whnf);refine bm (fun g4=>?_) (fun g4=>?_))
      ·(conv=>whnf);refine oA (MR ps hlt ?_) ?_
       ·simp [aA,aC];omega
       ((conv=>whnf);refine bm (fun g5=>?_) (fun g5=>?_))
       ·(conv=>whnf);refine⟨fun n e h nx=>n=0∧e=eI (.slice none 0 0) j (oS (fT ps i) ((ax,ay),(bx,b2))) (oS (fT ps i) ((cx,cy),(dx,dy))) false 0∧h=hE ((ax,ay),(bx,b2)) ((cx,cy),(dx,dy)) ps∧nx=3,⟨0,?_⟩,?_⟩
        ·refine aK (e0:=eI (.slice none 0 0) j (oS (fT ps i) ((ax,ay),(bx,b2))) (oS (fT ps i) ((cx,cy),(dx,dy))) false 0) (h0:=hE ((ax,ay),(bx,b2)) ((cx,cy),(dx,dy)) ps) (n0:=3) ⟨rfl,rfl,rfl,rfl⟩ ?_ ?_ (by decide)
         ·unfold eI;((repeat' refine iE rfl rfl ?_);exact iN)
         ·unfold hE;((repeat'(first|refine iF rfl rfl ?_|refine iJ rfl rfl rfl rfl ?_));exact iN)
        ·rintro n e h nx ⟨rfl,rfl,rfl,rfl⟩;have hat:ps.take (i+1)=ps.take i++[fT ps i]:=by
          rw [lW hlt,List.take_add_one,List.getElem?_eq_getElem hlt];rfl
         have ho':(ps.take (i+1)).foldl (lO ((ax,ay),(bx,b2)) ((cx,cy),(dx,dy))) []=lO ((ax,ay),(bx,b2)) ((cx,cy),(dx,dy)) [] (fT ps i):=by
          rw [hat,List.foldl_append,← ho,ho0];rfl
         unfold eI hE
         repeat' first
          |((conv=>whnf)
            refine oA (MR ps hlt ?_) ?_
            ·simp [aA,aC];omega)
          |(((conv=>whnf);refine bm (fun g=>?_) (fun g=>?_)))
         all_goals (conv=>whnf)
         ·clear g1 g2 g3 g4 g5;rename_i ga gb _;refine⟨4 - (i+1),by omega,?_⟩
          refine iY (e0:=eE (.slice (some ⟨3,0,none⟩) 1 1) (j+1)) (h0:=FJ ((ax,ay),(bx,b2)) ((cx,cy),(dx,dy)) ps [fT ps i]) (n0:=4) 3 4 (by decide) (by decide)
           ⟨i+1,j+1,[fT ps i],by omega,by omega,rfl,?_,.inr ⟨Nat.one_pos,rfl,rfl,rfl⟩⟩ ?_ ?_ ?_
          ·simp only [iQ,beq_iff_eq] at ga gb;rw [ho',lO,if_pos ⟨ga,gb,rfl⟩];rfl
          ·unfold eE;((repeat' refine iE rfl rfl ?_);exact iN)
          ·unfold FJ;((repeat'(first|refine iF rfl rfl ?_|refine iJ rfl rfl rfl rfl ?_));exact iN)
          ·unfold FJ;((repeat' refine iK rfl ?_);exact iN)
         ·exfalso;simp only [oZ,jA,aH,Bool.eq_false_iff,ne_eq,Bool.and_eq_true,decide_eq_true_eq] at g;omega
         ·exfalso;rw [g] at g2;cases g2
         ·clear g1 g2 g3 g4 g5;rename_i ga gb;refine⟨4 - (i+1),by omega,?_⟩;refine aK (e0:=eE (.slice none 0 0) (j+1)) (h0:=hE ((ax,ay),(bx,b2)) ((cx,cy),(dx,dy)) ps) (n0:=3) ⟨i+1,j+1,[],by omega,by omega,rfl,?_,.inl ⟨rfl,rfl,rfl,rfl⟩⟩ ?_ ?_ (by decide)
          ·simp only [iQ,beq_eq_false_iff_ne,ne_eq] at gb;rw [ho',lO,if_neg fun h=>gb h.2.1]
          ·unfold eE;((repeat' refine iE rfl rfl ?_);exact iN)
          ·unfold hE;((repeat'(first|refine iF rfl rfl ?_|refine iJ rfl rfl rfl rfl ?_));exact iN)
         ·exfalso;simp only [oZ,jA,aH,Bool.eq_false_iff,ne_eq,Bool.and_eq_true,decide_eq_true_eq] at g;omega
         ·clear g1 g2 g3 g4 g5;rename_i ga;refine⟨4 - (i+1),by omega,?_⟩;refine aK (e0:=eE (.slice none 0 0) (j+1)) (h0:=hE ((ax,ay),(bx,b2)) ((cx,cy),(dx,dy)) ps) (n0:=3) ⟨i+1,j+1,[],by omega,by omega,rfl,?_,.inl ⟨rfl,rfl,rfl,rfl⟩⟩ ?_ ?_ (by decide)
          ·simp only [iQ,beq_eq_false_iff_ne,ne_eq] at ga;rw [ho',lO,if_neg fun h=>ga h.1]
          ·unfold eE;((repeat' refine iE rfl rfl ?_);exact iN)
          ·unfold hE;((repeat'(first|refine iF rfl rfl ?_|refine iJ rfl rfl rfl rfl ?_));exact iN)
         ·exfalso;simp only [oZ,jA,aH,Bool.eq_false_iff,ne_eq,Bool.and_eq_true,decide_eq_true_eq] at g;omega
       ·exfalso;simp only [hwp,Bool.true_and] at g5;rw [show gV _=true from hw.2] at g5;cases g5
      ·exfalso;rw [g4] at g2;cases g2
     ·exfalso;simp only [hwp,Bool.true_and] at g3;rw [show gV _=true from hw.1] at g3;cases g3
    ·exfalso;simp only [nK,VL,uK,o6,Bool.eq_false_iff,ne_eq,Bool.and_eq_true,decide_eq_true_eq] at g1 g2;omega
   ·(conv=>whnf);have h4:i=4:=(by simp only [nK,o6,decide_eq_false_iff_not] at g1;omega);subst h4;have:pO ((ax,ay),(bx,b2)) ((cx,cy),(dx,dy))=[]:=by
     rw [← ho0,ho,hps];rfl
    rw [this];rfl
  ·have out_len:out.length≤4:=(by rw [ho];exact NF (by rw [List.length_take];omega));unfold eE FJ;((conv=>whnf);refine bm (fun g1=>?_) (fun g1=>?_))
   ·have hlt:i<ps.length:=(by simp [aA,aC] at g1;omega);have hwp:wide (fT ps i)=true:=(by rw [lW hlt];exact hww _ (List.getElem_mem hlt));((conv=>whnf);refine bm (fun g2=>?_) (fun g2=>?_))
    ·(conv=>whnf);refine oA (MR ps hlt ?_) ?_
     ·simp [aA,aC];omega
     ((conv=>whnf);refine bm (fun g3=>?_) (fun g3=>?_))
     ·((conv=>whnf);refine bm (fun g4=>?_) (fun g4=>?_))
      ·(conv=>whnf);refine oA (MR ps hlt ?_) ?_
       ·simp [aA,aC];omega
       ((conv=>whnf);refine bm (fun g5=>?_) (fun g5=>?_))
       ·(conv=>whnf);refine⟨fun n e h nx=>∃ (k:Nat) (jk:Int),jk=k∧k≤out.length∧n=out.length - k∧e=eI (.slice (some ⟨3,0,none⟩) out.length out.length) j (oS (fT ps i) ((ax,ay),(bx,b2))) (oS (fT ps i) ((cx,cy),(dx,dy))) (mC (fT ps i) (out.take k)) jk∧h=FJ ((ax,ay),(bx,b2)) ((cx,cy),(dx,dy)) ps out∧nx=4,⟨out.length,?_⟩,?_⟩
        ·refine aK (e0:=eI (.slice (some ⟨3,0,none⟩) out.length out.length) j (oS (fT ps i) ((ax,ay),(bx,b2))) (oS (fT ps i) ((cx,cy),(dx,dy))) false 0) (h0:=FJ ((ax,ay),(bx,b2)) ((cx,cy),(dx,dy)) ps out) (n0:=4) ⟨0,0,rfl,Nat.zero_le _,rfl,rfl,rfl,rfl⟩ ?_ ?_ (by decide)
         ·unfold eI;((repeat' refine iE rfl rfl ?_);exact iN)
         ·unfold FJ;((repeat'(first|refine iF rfl rfl ?_|refine iJ rfl rfl rfl rfl ?_));exact iN)
        ·rintro n e h nx ⟨k,jk,hjk,hk,rfl,rfl,rfl,rfl⟩;have hat:ps.take (i+1)=ps.take i++[fT ps i]:=by
          rw [lW hlt,List.take_add_one,List.getElem?_eq_getElem hlt];rfl
         have ho':(ps.take (i+1)).foldl (lO ((ax,ay),(bx,b2)) ((cx,cy),(dx,dy))) []=lO ((ax,ay),(bx,b2)) ((cx,cy),(dx,dy)) out (fT ps i):=by
          rw [hat,List.foldl_append,← ho];rfl
         unfold eI FJ;((conv=>whnf);refine bm (fun f1=>?_) (fun f1=>?_))
         ·have hltk:k<out.length:=by simp [aA,aC] at f1;omega
          repeat' first
           |((conv=>whnf)
             refine oA (MR out hltk ?_) ?_
             ·simp [aA,aC];omega)
           |((conv=>whnf)
             refine oA (MR ps hlt ?_) ?_
             ·simp [aA,aC];omega)
           |(((conv=>whnf);refine bm (fun g=>?_) (fun g=>?_)))
          all_goals (conv=>whnf)
          ·clear g1 g2 g3 g4 g5;rename_i ga _ _;refine⟨out.length - (k+1),by omega,?_⟩;refine aK (e0:=eI (.slice (some ⟨3,0,none⟩) out.length out.length) j (oS (fT ps i) ((ax,ay),(bx,b2))) (oS (fT ps i) ((cx,cy),(dx,dy))) (jI (fT out k) (fT ps i)) (jk+1)) (h0:=FJ ((ax,ay),(bx,b2)) ((cx,cy),(dx,dy)) ps out) (n0:=4) ⟨k+1,jk+1,by omega,hltk,rfl,?_,rfl,rfl⟩ ?_ ?_ (by decide)
           ·simp only [iQ,beq_iff_eq,beq_eq_false_iff_ne,ne_eq,Bool.not_eq_false] at ga;rw [FD hltk,ga];rfl
           ·unfold eI;((repeat' refine iE rfl rfl ?_);exact iN)
           ·unfold FJ;((repeat'(first|refine iF rfl rfl ?_|refine iJ rfl rfl rfl rfl ?_));exact iN)
          ·exfalso;have:=out_len;simp only [oZ,jA,aH,Bool.eq_false_iff,ne_eq,Bool.and_eq_true,decide_eq_true_eq] at g;omega
          ·exfalso;rw [g] at g2;cases g2
          ·exfalso;simp only [nK,VL,uK,o6,Bool.eq_false_iff,ne_eq,Bool.and_eq_true,decide_eq_true_eq] at g;omega
          ·clear g1 g2 g3 g4 g5;rename_i ga;refine⟨out.length - (k+1),by omega,?_⟩;refine aK (e0:=eI (.slice (some ⟨3,0,none⟩) out.length out.length) j (oS (fT ps i) ((ax,ay),(bx,b2))) (oS (fT ps i) ((cx,cy),(dx,dy))) true (jk+1)) (h0:=FJ ((ax,ay),(bx,b2)) ((cx,cy),(dx,dy)) ps out) (n0:=4) ⟨k+1,jk+1,by omega,hltk,rfl,?_,rfl,rfl⟩ ?_ ?_ (by decide)
           ·simp only [iQ,beq_iff_eq,beq_eq_false_iff_ne,ne_eq,Bool.not_eq_false] at ga;rw [FD hltk,ga];rfl
           ·unfold eI;((repeat' refine iE rfl rfl ?_);exact iN)
           ·unfold FJ;((repeat'(first|refine iF rfl rfl ?_|refine iJ rfl rfl rfl rfl ?_));exact iN)
          ·exfalso;simp only [oZ,jA,aH,Bool.eq_false_iff,ne_eq,Bool.and_eq_true,decide_eq_true_eq] at g;omega
         ·have hkk:k=out.length:=by simp only [nK,o6,decide_eq_false_iff_not] at f1;omega
          repeat' first
           |((conv=>whnf)
             refine oA (MR ps hlt ?_) ?_
             ·simp [aA,aC];omega)
           |(((conv=>whnf);refine bm (fun g=>?_) (fun g=>?_)))
          all_goals (conv=>whnf)
          ·exfalso;rename_i gc _;have:=Nat.le_of_ble_eq_true gc;omega
          ·exfalso;rename_i gc _;have:=Nat.le_of_ble_eq_true gc;omega
          ·exfalso;rename_i gc;have:=Nat.le_of_ble_eq_true gc;omega
          ·clear g1 g2 g3 g4 g5;rename_i ga gb gx _ _ _;refine⟨4 - (i+1),by omega,?_⟩
           refine iY (e0:=eE (.slice (some ⟨3,0,none⟩) (out.length+1) (out.length+1)) (j+1)) (h0:=FJ ((ax,ay),(bx,b2)) ((cx,cy),(dx,dy)) ps (out++[fT ps i])) (n0:=4) 3 5 (by decide) (by decide)
            ⟨i+1,j+1,out++[fT ps i],by omega,by omega,rfl,?_,.inr ⟨by rw [List.length_append];exact Nat.succ_pos _,by rw [List.length_append];rfl,rfl,rfl⟩⟩ ?_ ?_ ?_
           ·simp only [iQ,lJ,beq_iff_eq,Bool.not_eq_true'] at ga gb gx;rw [ho',lO,if_pos ⟨ga,gb,by rw [hkk,List.take_length] at gx;exact gx⟩]
           ·unfold eE;((repeat' refine iE rfl rfl ?_);exact iN)
           ·unfold FJ;((repeat'(first|refine iW rfl rfl (aW (aF aQ _) (WO out _)) ?_|refine iF rfl rfl ?_|refine iJ rfl rfl rfl rfl ?_));exact iN)
           ·unfold FJ;((repeat' refine iK rfl ?_);exact iN)
          ·exfalso;simp only [oZ,jA,aH,Bool.eq_false_iff,ne_eq,Bool.and_eq_true,decide_eq_true_eq] at g;omega
          ·exfalso;have hf:(flat aQ.fl out).length=out.length*2:=bE aQ out;have hol4:out.length≤4:=(by rw [ho];exact NF (by rw [List.length_take];omega));simp only [uK,hf] at g;revert g;simp;omega
          ·exfalso;rw [g] at g2;cases g2
          ·clear g1 g2 g3 g4 g5;rename_i gx;refine⟨4 - (i+1),by omega,?_⟩;refine aK (e0:=eE (.slice (some ⟨3,0,none⟩) out.length out.length) (j+1)) (h0:=FJ ((ax,ay),(bx,b2)) ((cx,cy),(dx,dy)) ps out) (n0:=4) ⟨i+1,j+1,out,by omega,by omega,rfl,?_,.inr ⟨hol,rfl,rfl,rfl⟩⟩ ?_ ?_ (by decide)
           ·simp only [iQ,lJ,beq_eq_false_iff_ne,ne_eq,Bool.not_eq_false'] at gx;rw [ho',lO,if_neg fun h=>by rw [hkk,List.take_length] at gx;rw [gx] at h;exact absurd h.2.2 (by decide)]
           ·unfold eE;((repeat' refine iE rfl rfl ?_);exact iN)
           ·unfold FJ;((repeat'(first|refine iF rfl rfl ?_|refine iJ rfl rfl rfl rfl ?_));exact iN)
          ·exfalso;simp only [oZ,jA,aH,Bool.eq_false_iff,ne_eq,Bool.and_eq_true,decide_eq_true_eq] at g;omega
          ·clear g1 g2 g3 g4 g5;rename_i gx;refine⟨4 - (i+1),by omega,?_⟩;refine aK (e0:=eE (.slice (some ⟨3,0,none⟩) out.length out.length) (j+1)) (h0:=FJ ((ax,ay),(bx,b2)) ((cx,cy),(dx,dy)) ps out) (n0:=4) ⟨i+1,j+1,out,by omega,by omega,rfl,?_,.inr ⟨hol,rfl,rfl,rfl⟩⟩ ?_ ?_ (by decide)
           ·simp only [iQ,lJ,beq_eq_false_iff_ne,ne_eq,Bool.not_eq_false'] at gx;rw [ho',lO,if_neg fun h=>gx h.2.1]
           ·unfold eE;((repeat' refine iE rfl rfl ?_);exact iN)
           ·unfold FJ;((repeat'(first|refine iF rfl rfl ?_|refine iJ rfl rfl rfl rfl ?_));exact iN)
          ·exfalso;simp only [oZ,jA,aH,Bool.eq_false_iff,ne_eq,Bool.and_eq_true,decide_eq_true_eq] at g;omega
          ·clear g1 g2 g3 g4 g5;rename_i gx;refine⟨4 - (i+1),by omega,?_⟩;refine aK (e0:=eE (.slice (some ⟨3,0,none⟩) out.length out.length) (j+1)) (h0:=FJ ((ax,ay),(bx,b2)) ((cx,cy),(dx,dy)) ps out) (n0:=4) ⟨i+1,j+1,out,by omega,by omega,rfl,?_,.inr ⟨hol,rfl,rfl,rfl⟩⟩ ?_ ?_ (by decide)
           ·simp only [iQ,lJ,beq_eq_false_iff_ne,ne_eq,Bool.not_eq_false'] at gx;rw [ho',lO,if_neg fun h=>gx h.1]
           ·unfold eE;((repeat' refine iE rfl rfl ?_);exact iN)
           ·unfold FJ;((repeat'(first|refine iF rfl rfl ?_|refine iJ rfl rfl rfl rfl ?_));exact iN)
          ·exfalso;simp only [oZ,jA,aH,Bool.eq_false_iff,ne_eq,Bool.and_eq_true,decide_eq_true_eq] at g;omega
       ·exfalso;simp only [hwp,Bool.true_and] at g5;rw [show gV _=true from hw.2] at g5;cases g5
      ·exfalso;rw [g4] at g2;cases g2
     ·exfalso;simp only [hwp,Bool.true_and] at g3;rw [show gV _=true from hw.1] at g3;cases g3
    ·exfalso;simp only [nK,VL,uK,o6,Bool.eq_false_iff,ne_eq,Bool.and_eq_true,decide_eq_true_eq] at g1 g2;omega
   ·(conv=>whnf);have h4:i=4:=(by simp only [nK,o6,decide_eq_false_iff_not] at g1;omega);subst h4;have:pO ((ax,ay),(bx,b2)) ((cx,cy),(dx,dy))=out:=by
     rw [ho,hps];rfl
    rw [this];exact kY (q:=3) (h:=FJ ((ax,ay),(bx,b2)) ((cx,cy),(dx,dy)) ps out) (nx:=4) (e:=none) aQ hol rfl
attribute [local irreducible] pO
def JD (s t:Sg):List (Int × Int)→Int
 |[]=>if bB s.1 s.2 t.1*bB s.1 s.2 t.2<0∧bB t.1 t.2 s.1*bB t.1 t.2 s.2<0 then 3 else 0
 |[p]=>if (jI p s.1=true∨jI p s.2=true)∧(jI p t.1=true∨jI p t.2=true) then 1 else 2
 |_::_::_=>4
theorem aEn (s t:Sg):oP s t=JD s t (pO s t):=rfl
theorem Z8 {s t:Sg}{l:List (Int × Int)}(h:pO s t=l):oP s t=JD s t l:=by
 rw [aEn,h]
def X72:Nat × XF:=(243,gX (s2 cS cS fun s t=>(gV s&&gV t,u8 (oP s t))))
theorem x72:cO Go.Proofs.Tryz.prog X72.1 X72.2:=x2 cS cS (xl:=[X70,X57]) (.cons x70 (.cons x57 .nil)) (fun _ _=>rfl) fun s t hp=>by
 obtain⟨⟨ax,ay⟩,⟨bx,b2⟩⟩:=s;obtain⟨⟨cx,cy⟩,⟨dx,dy⟩⟩:=t;have l1:=lR (ax,ay) (bx,b2) (cx,cy);have l2:=lR (ax,ay) (bx,b2) (dx,dy);have l3:=lR (cx,cy) (dx,dy) (ax,ay);have l4:=lR (cx,cy) (dx,dy) (bx,b2);have m1:=qE (A:=1) (B:=1) l1.1 l1.2 l2.1 l2.2;have m2:=qE (A:=1) (B:=1) l3.1 l3.2 l4.1 l4.2;have hp':=hp;simp only [gV,Bool.and_eq_true] at hp;unfold cV;((conv=>whnf);refine bm (fun g=>?_) (fun g=>?_))
 ·(conv=>whnf);generalize he:pO _ _=L;have hm:oP ((ax,ay),(bx,b2)) ((cx,cy),(dx,dy))=JD ((ax,ay),(bx,b2)) ((cx,cy),(dx,dy)) L:=Z8 he;clear he g hp';rcases L with _|⟨p,_|⟨q,r⟩⟩
  ·repeat' ((conv=>whnf);refine bm (fun g=>?_) (fun g=>?_))
   all_goals (conv=>whnf)
   all_goals (clear l1 l2 l3 l4)
   all_goals (try (show u8 _=u8 (oP ((ax,ay),(bx,b2)) ((cx,cy),(dx,dy)));rw [hm];clear hm))
   all_goals (simp only [LG,nK,jA,iQ,o6,aH,B7,Bool.and_eq_true,beq_iff_eq,beq_eq_false_iff_ne,ne_eq,decide_eq_true_eq,decide_eq_false_iff_not,not_and,Bool.not_eq_true',Bool.not_eq_false'] at *)
   all_goals first
    |(simp only [JD,u8];simp_all;done)
    |(simp_all;done)
    |(simp only [Bool.and_eq_false_iff,decide_eq_false_iff_not] at *;omega)
    |(rw [JD,if_neg fun h=>g h.1];done)
  ·repeat' ((conv=>whnf);refine bm (fun g=>?_) (fun g=>?_))
   all_goals (conv=>whnf)
   all_goals (clear l1 l2 l3 l4 m1 m2 hp)
   all_goals (show u8 _=u8 (oP ((ax,ay),(bx,b2)) ((cx,cy),(dx,dy)));rw [hm];clear hm)
   all_goals (simp only [IL,uK,LG,nK,jA,iQ,o6,aH,B7,beq_iff_eq,beq_eq_false_iff_ne,ne_eq] at *)
   all_goals (simp only [JD,u8];simp_all [jI] <;> omega)
  ·((conv=>whnf);refine bm (fun g=>?_) (fun g=>?_))
   ·(conv=>whnf);show u8 _=u8 (oP ((ax,ay),(bx,b2)) ((cx,cy),(dx,dy)));rw [hm];rfl
   ·exfalso;simp [nK,o6] at g;omega
 ·exfalso;rw [show _=true from hp'] at g;cases g
def eZ (s t:Sg):Int:=if dV s=true∧dV t=true then jQ s t else 0
def X22:Nat × XF:=(198,gX (s2 cS cS fun s t=>(true,u8 (eZ s t))))
theorem x22:cO Go.Proofs.Tryz.prog X22.1 X22.2:=x2 cS cS (xl:=[X64,X68]) (.cons x64 (.cons x68 .nil)) (fun _ _=>rfl) fun s t _=>by
 obtain⟨⟨ax,ay⟩,⟨bx,b2⟩⟩:=s;obtain⟨⟨cx,cy⟩,⟨dx,dy⟩⟩:=t;unfold cV
 repeat' ((conv=>whnf);refine bm (fun g=>?_) (fun g=>?_))
 all_goals (conv=>whnf)
 all_goals (simp only [iQ,lJ,B7,Bool.not_eq_true',Bool.not_eq_false',beq_iff_eq,beq_eq_false_iff_ne,ne_eq,Bool.not_eq_false,Bool.not_eq_true] at *)
 all_goals first
  |(show u8 _=u8 _;simp [eZ, *];done)
  |(simp_all [r9];done)
  |trace_state
def X25:Nat × XF:=(213,gX (s2 cS cS fun s t=>(true,u8 (eZ s t))))
theorem x25:cO Go.Proofs.Tryz.prog X25.1 X25.2:=x2 cS cS (xl:=[X66,X72]) (.cons x66 (.cons x72 .nil)) (fun _ _=>rfl) fun s t _=>by
 have e:=VA s t;obtain⟨⟨ax,ay⟩,⟨bx,b2⟩⟩:=s;obtain⟨⟨cx,cy⟩,⟨dx,dy⟩⟩:=t;unfold cV
 repeat' ((conv=>whnf);refine bm (fun g=>?_) (fun g=>?_))
 all_goals (conv=>whnf)
 all_goals (simp only [iQ,lJ,B7,Bool.not_eq_true',Bool.not_eq_false',beq_iff_eq,beq_eq_false_iff_ne,ne_eq,Bool.not_eq_false,Bool.not_eq_true] at *)
 all_goals first
  |(show u8 _=u8 _;simp [eZ, *];done)
  |(simp_all [r9];done)
  |trace_state
def aH0:Nat × XF:=(170,gX (s2 cP cP fun a b=>(true,iv (jM a b))))
theorem aJl:cO Go.Proofs.Tryz.prog aH0.1 aH0.2:=x2 cP cP (xl:=[O8,Z6]) (.cons RV (.cons aFB .nil)) (fun _ _=>rfl) fun a b _=>by
 obtain⟨ax,ay⟩:=a;obtain⟨bx,b_y⟩:=b;unfold cV
 conv=>whnf
 refine⟨[gH ax bx,gH ay b_y],⟨rfl,_,_,_,_,rfl,rfl⟩,?_⟩
 conv=>whnf
 rfl
section
variable {α β γ δ:Type}(a:Cd α)(b:Cd β)(c:Cd γ)(d:Cd δ)
def s4 (F:α→β→γ→δ→Bool × Value):List Value→Option (Bool × Value)
 |[u,v,w,t]=>(match a.dec u with|some x=>(match b.dec v with|some y=>(match c.dec w with|some z=>(match d.dec t with|some s=>some (F x y z s)|none=>none)|none=>none)|none=>none)|none=>none)
 |_=>none
theorem aHt {F:α→β→γ→δ→Bool × Value}{args:List Value}{r:Bool × Value}(h:s4 a b c d F args=some r):∃ x y z s,args=[a.enc x,b.enc y,c.enc z,d.enc s]∧F x y z s=r:=by
 unfold s4 at h;split at h
 ·split at h
  ·rename_i x e;split at h
   ·rename_i y e2;split at h
    ·rename_i z e3;split at h
     ·rename_i s e4;injection h with h;exact⟨x,y,z,s,by rw [a.ok _ _ e,b.ok _ _ e2,c.ok _ _ e3,d.ok _ _ e4],h⟩
     ·cases h
    ·cases h
   ·cases h
  ·cases h
 ·cases h
theorem x4' {xl:List (Nat × XF)}(hx:kM xl){f:Nat}{F:α→β→γ→δ→Bool × Value}(hg:∀ x y z s,gT (F x y z s).2=true)(h:∀ x y z s,(F x y z s).1=true→cV xl f [a.enc x,b.enc y,c.enc z,d.enc s] (F x y z s).2):cO Go.Proofs.Tryz.prog f (gX (s4 a b c d F)) :=
 vM (aL hx) fun args v hs=>by
  obtain⟨x,y,z,s,rfl,e⟩:=aHt a b c d hs;have h1:(F x y z s).1=true:=(by rw [e]);have h2:(F x y z s).2=v:=(by rw [e]);subst h2;exact⟨by simp [eH,a.gr,b.gr,c.gr,d.gr],hg x y z s,h x y z s h1⟩
end
theorem aEy {b:Bool}(h:aA.A.eqB b false=true):b=false:=by cases b <;> first|rfl|cases h
theorem aFm {b:Bool}(h:aA.A.eqB b false=false):b=true:=by cases b <;> first|rfl|cases h
def mxI (a b:Int):Int:=if b > a then b else a
def mnI (a b:Int):Int:=if b<a then b else a
def apI (a b c d:Int):Bool:=decide (mxI a b<mnI c d) || decide (mxI c d<mnI a b)
def aG1:Nat × XF:=(228,gX (s4 cI cI cI cI fun a b c d=>(true,.bool (apI a b c d))))
theorem aLs:cO Go.Proofs.Tryz.prog aG1.1 aG1.2:=x4' cI cI cI cI (xl:=[]) .nil (fun _ _ _ _=>rfl) fun a b c d _=>by
 unfold cV
 repeat' (conv=>whnf
          refine bm (fun h=>?_) (fun h=>?_))
 all_goals (conv=>whnf)
 all_goals (show _=Value.bool (apI a b c d))
 ·have h1:decide (mxI a b<mnI c d)=false:=aEy h;unfold apI;rw [h1];rfl
 ·have h1:decide (mxI a b<mnI c d)=true:=aFm h;unfold apI;rw [h1];rfl
def zY (s t:Sg):Bool:=apI s.1.1 s.2.1 t.1.1 t.2.1 || apI s.1.2 s.2.2 t.1.2 t.2.2
def aFu:Nat × XF:=(197,gX (s2 cS cS fun s t=>(true,.bool (zY s t))))
theorem aLX:cO Go.Proofs.Tryz.prog aFu.1 aFu.2:=x2 cS cS (xl:=[aG1]) (.cons aLs .nil) (fun _ _=>rfl) fun s t _=>by
 obtain⟨⟨ax,ay⟩,⟨bx,b2⟩⟩:=s;obtain⟨⟨cx,cy⟩,⟨dx,dy⟩⟩:=t;unfold cV
 repeat' (conv=>whnf
          refine bm (fun h=>?_) (fun h=>?_))
 all_goals (conv=>whnf)
 ·have h1:apI ax bx cx dx=false:=aEy h;show _=Value.bool (zY _ _);unfold zY;rw [h1];rfl
 ·have h1:apI ax bx cx dx=true:=aFm h;show _=Value.bool (zY _ _);unfold zY;rw [h1];rfl
def D5 (s t:Sg):Int:=if zY s t=true then 0 else eZ s t
def UF:Nat × XF:=(119,gX (s2 cS cS fun s t=>(true,u8 (D5 s t))))
theorem aEF:cO Go.Proofs.Tryz.prog UF.1 UF.2:=x2 cS cS (xl:=[aFu,X22]) (.cons aLX (.cons x22 .nil)) (fun _ _=>rfl) fun s t _=>by
 obtain⟨⟨ax,ay⟩,⟨bx,b2⟩⟩:=s;obtain⟨⟨cx,cy⟩,⟨dx,dy⟩⟩:=t;unfold cV
 repeat' (conv=>whnf
          refine bm (fun h=>?_) (fun h=>?_))
 all_goals (conv=>whnf)
 ·have h1:zY ((ax,ay),(bx,b2)) ((cx,cy),(dx,dy))=true:=h;show _=u8 _;simp only [D5,h1,if_true];rfl
 ·have h1:zY ((ax,ay),(bx,b2)) ((cx,cy),(dx,dy))=false:=h;show _=u8 _;simp only [D5,h1];rfl
def fQ (a b:Int × Int):Bool:=decide (a.1<b.1) || (decide (a.1=b.1)&&decide (a.2<b.2))
def aGK:Nat × XF:=(212,gX (s2 cP cP fun a b=>(true,.bool (fQ a b))))
theorem aL6:cO Go.Proofs.Tryz.prog aGK.1 aGK.2:=x2 cP cP (xl:=[]) .nil (fun _ _=>rfl) fun a b _=>by
 obtain⟨ax,ay⟩:=a;obtain⟨bx,b_y⟩:=b;unfold cV
 repeat' ((conv=>whnf);refine bm (fun h=>?_) (fun h=>?_))
 all_goals (conv=>whnf)
 all_goals (simp only [nK,IL,iQ,lJ,beq_iff_eq,beq_eq_false_iff_ne,ne_eq,Bool.not_eq_false,Bool.not_eq_true,decide_eq_true_eq,decide_eq_false_iff_not] at *)
 all_goals (show _=Value.bool (fQ _ _);unfold fQ;simp_all)
def aFp (a b c:Int × Int):Int:=(b.1 - a.1)*(c.1 - a.1)+(b.2 - a.2)*(c.2 - a.2)
def aEv:Nat × XF:=(217,gX (s3 cP cP cP fun a b c=>(wide a&&wide b&&wide c,iv (bA a b c))))
theorem aIZ:cO Go.Proofs.Tryz.prog aEv.1 aEv.2:=x3 cP cP cP (xl:=[]) .nil (fun _ _ _=>rfl) fun a b c hp=>by
 obtain⟨ax,ay⟩:=a;obtain⟨bx,b_y⟩:=b;obtain⟨cx,cy⟩:=c;simp only [wide,Bool.and_eq_true,decide_eq_true_eq] at hp;have m1:=qE (a:=bx - ax) (b:=cy - ay) (A:=2000000) (B:=2000000) (by omega) (by omega) (by omega) (by omega);have m2:=qE (a:=b_y - ay) (b:=cx - ax) (A:=2000000) (B:=2000000) (by omega) (by omega) (by omega) (by omega);unfold cV
 repeat' (conv=>whnf
          refine bm (fun h=>?_) (fun h=>?_))
 all_goals (conv=>whnf)
 all_goals (simp [aA,aC,aH] at *)
 all_goals first|omega|simp [bA,iv]
def aGI:Nat × XF:=(245,gX (s3 cP cP cP fun a b c=>(wide a&&wide b&&wide c,iv (aFp a b c))))
theorem aKW:cO Go.Proofs.Tryz.prog aGI.1 aGI.2:=x3 cP cP cP (xl:=[]) .nil (fun _ _ _=>rfl) fun a b c hp=>by
 obtain⟨ax,ay⟩:=a;obtain⟨bx,b_y⟩:=b;obtain⟨cx,cy⟩:=c;simp only [wide,Bool.and_eq_true,decide_eq_true_eq] at hp;have m1:=qE (a:=bx - ax) (b:=cx - ax) (A:=2000000) (B:=2000000) (by omega) (by omega) (by omega) (by omega);have m2:=qE (a:=b_y - ay) (b:=cy - ay) (A:=2000000) (B:=2000000) (by omega) (by omega) (by omega) (by omega);unfold cV
 repeat' (conv=>whnf
          refine bm (fun h=>?_) (fun h=>?_))
 all_goals (conv=>whnf)
 all_goals (simp [aA,aC,aH] at *)
 all_goals first|omega|simp [aFp,iv]
def BU (v u w:Int × Int):Int:=if bA v u w<0 then 0 else if 0<bA v u w then 2 else if aFp v u w<0 then 1 else 3
def aH7:Nat × XF:=(216,gX (s3 cP cP cP fun a b c=>(wide a&&wide b&&wide c,iv (BU a b c))))
theorem aL9:cO Go.Proofs.Tryz.prog aH7.1 aH7.2:=x3 cP cP cP (xl:=[aEv,aGI]) (.cons aIZ (.cons aKW .nil)) (fun _ _ _=>rfl) fun a b c hp=>by
 obtain⟨ax,ay⟩:=a;obtain⟨bx,b_y⟩:=b;obtain⟨cx,cy⟩:=c;simp only [Bool.and_eq_true] at hp;unfold cV
 repeat' ((conv=>whnf);refine bm (fun h=>?_) (fun h=>?_))
 all_goals (conv=>whnf)
 all_goals (simp only [nK,B7,decide_eq_true_eq,decide_eq_false_iff_not] at *)
 all_goals first
  |(show iv _=iv (BU _ _ _);unfold BU;(repeat' split) <;> first|rfl|omega)
  |(simp_all;done)
  |trace_state
def pY (v u w x:Int × Int):Bool:=if BU v u w=BU v u x then decide (bA v w x<0) else decide (BU v u w<BU v u x)
def aH1:Nat × XF:=(164,gX (s4 cP cP cP cP fun a b c d=>(wide a&&wide b&&wide c&&wide d,.bool (pY a b c d))))
theorem aM6:cO Go.Proofs.Tryz.prog aH1.1 aH1.2:=x4' cP cP cP cP (xl:=[aH7,aEv]) (.cons aL9 (.cons aIZ .nil)) (fun _ _ _ _=>rfl) fun a b c d hp=>by
 obtain⟨ax,ay⟩:=a;obtain⟨bx,b_y⟩:=b;obtain⟨cx,cy⟩:=c;obtain⟨dx,dy⟩:=d;simp only [Bool.and_eq_true] at hp;unfold cV
 repeat' ((conv=>whnf);refine bm (fun h=>?_) (fun h=>?_))
 all_goals (conv=>whnf)
 all_goals (simp only [nK,IL,lJ,B7,Bool.not_eq_true',Bool.not_eq_false',decide_eq_true_eq,decide_eq_false_iff_not] at *)
 all_goals first
  |(show _=Value.bool (pY _ _ _ _);unfold pY;(repeat' split) <;> first|rfl|(simp_all;done)|omega)
  |(simp_all;done)
  |trace_state
abbrev Pt:=Int × Int
structure Ed where
 a:Int
 b:Int
 l:Int
 r:Int
 n:Int
def aU:El Ed:=⟨fun e=>[iv e.a,iv e.b,iv e.l,iv e.r,iv e.n],5,fun _=>rfl,fun _=>rfl,by decide⟩
def cC (m:List Ed)(i:Nat):Ed:=m.getD i ⟨0,0,0,0,0⟩
theorem K3 {m:List Ed}{i:Nat}(h:i<m.length):cC m i=m[i]:=by
 unfold cC;rw [List.getD_eq_getElem?_getD,List.getElem?_eq_getElem h];rfl
theorem EX (m:List Ed){i o:Nat}(hi:i<m.length)(ho:o=i*5):nO (flat aU.fl m) o 5=some [iv (cC m i).a,iv (cC m i).b,iv (cC m i).l,iv (cC m i).r,iv (cC m i).n]:=by
 rw [K3 hi];exact y5 aU m hi ho
theorem HU (m:List Ed)(k:Nat){i o:Nat}{v:Value}(hi:i<m.length)(hk:(aU.fl (cC m i))[k]? = some v)(hk5:k<5)(ho:o=i*5+k):nth (flat aU.fl m) o=some v:=by
 rw [K3 hi] at hk;exact lL aU m hi hk hk5 ho
theorem jE (l:List Pt){i o:Nat}(hi:i<l.length)(ho:o=i*2):nO (flat aQ.fl l) o 2=some [iv (fT l i).1,iv (fT l i).2]:=by
 rw [lW hi];exact y5 aQ l hi ho
theorem aI {α:Type}(E:El α){l:List α}{k c:Nat}{wr g:Bool}{sz:Nat}{h:Heap}(hk:look h k=some (.cells wr g sz (flat E.fl l))):gZ E h (.slice (some ⟨k,0,none⟩) l.length c) l :=
 ⟨rfl,wr,g,sz,_,hk,by rw [List.drop_zero,List.take_length]⟩
def cE (m:List Ed)(d:Int):Int:=if d % 2=0 then (cC m (d / 2).toNat).a else (cC m (d / 2).toNat).b
def gO (m:List Ed)(d:Int):Int:=cE m (d+1 - 2*(d % 2))
abbrev MS:=List Pt→List Ed→Int→List Value→Option (Bool × Value)
def pF (m:List Ed)(d:Int):Bool:=decide (0≤d)&&decide (d<2*m.length)&&decide (m.length≤1000000)
def sMD (F:List Pt→List Ed→Int→Int→Bool × Value):MS:=fun l m n r=>match r with
 |[.int .i64 d]=>some (F l m n d)
 |_=>none
theorem DJ {F:List Pt→List Ed→Int→Int→Bool × Value}{l:List Pt}{m:List Ed}{n:Int}{r:List Value}{v:Value}(h:sMD F l m n r=some (true,v)):∃ d,r=[iv d]∧(F l m n d).1=true∧(F l m n d).2=v:=by
 unfold sMD at h;split at h
 ·rename_i d;injection h with h;exact⟨d,rfl,by rw [h],by rw [h]⟩
 ·cases h
def X87:Nat × XF:=(87,mX aQ aU (sMD fun l m n d=>(pF m d,iv (cE m d))))
theorem x87:cO Go.Proofs.Tryz.prog X87.1 X87.2:=sY aQ aU (aL (xl:=[]) .nil) fun l m n r v hs=>by
 obtain⟨d,rfl,hd,rfl⟩:=DJ hs;simp only [pF,Bool.and_eq_true,decide_eq_true_eq] at hd;have q1:d.tdiv 2=d / 2:=Int.tdiv_eq_ediv_of_nonneg hd.1.1;have q2:d.tmod 2=d % 2:=Int.tmod_eq_emod_of_nonneg hd.1.1;refine⟨rfl,rfl,fun c1 c2=>?_⟩;((conv=>whnf);refine bm (fun h1=>?_) (fun h1=>?_))
 ·((conv=>whnf);refine bm (fun h2=>?_) (fun h2=>?_))
  ·(conv=>whnf);refine oA (EX m (i:=(d / 2).toNat) (by omega) ?_) ?_
   ·show _+Int.toNat (d.tdiv 2)*5=_;rw [q1];omega
   ((conv=>whnf);refine bm (fun h4=>?_) (fun h4=>?_))
   ·(conv=>whnf);have h4:decide (d.tmod 2=0)=true:=h4;simp only [q2,decide_eq_true_eq] at h4;simp only [cE,if_pos h4]
   ·(conv=>whnf);have h4:decide (d.tmod 2=0)=false:=h4;simp only [q2,decide_eq_false_iff_not] at h4;simp only [cE,if_neg h4]
  ·simp only [aA,aC,q1] at h2;simp at h2;have:=h2 (by omega);omega
 ·simp only [aA,aC,q1,aH] at h1;simp at h1;omega
theorem aAe {m:List Ed}{d:Int}(h:pF m d=true):pF m (d+1 - 2*(d % 2))=true:=by
 simp only [pF,Bool.and_eq_true,decide_eq_true_eq] at *;omega
def aEb:Nat × XF:=(163,mX aQ aU (sMD fun l m n d=>(pF m d,iv (gO m d))))
theorem aJF:cO Go.Proofs.Tryz.prog aEb.1 aEb.2:=sY aQ aU (aL (xl:=[X87]) (.cons x87 .nil)) fun l m n r v hs=>by
 obtain⟨d,rfl,hd,rfl⟩:=DJ hs;have hd2:=aAe hd;simp only [pF,Bool.and_eq_true,decide_eq_true_eq] at hd;have q2:d.tmod 2=d % 2:=Int.tmod_eq_emod_of_nonneg hd.1.1;refine⟨rfl,rfl,fun c1 c2=>?_⟩
 repeat' ((conv=>whnf);refine bm (fun h1=>?_) (fun h1=>?_))
 all_goals try (simp only [aA,aC,aH,q2] at h1;simp at h1;omega)
 (conv=>whnf);have e:d+1 - 2*(d.tmod 2)=d+1 - 2*(d % 2):=(by rw [q2]);refine⟨l,m,aAD aQ rfl,aI aU rfl,?_⟩;((conv=>whnf);refine bm (fun h2=>?_) (fun h2=>?_))
 ·(conv=>whnf);show iv (cE m (d+1 - 2*(d.tmod 2)))=iv (gO m d);rw [e];rfl
 ·have h2:pF m (d+1 - 2*(d.tmod 2))=false:=h2;rw [e,hd2] at h2;cases h2
end Go.Aw
end
