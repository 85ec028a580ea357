/-
  Parts of a proof. No condition.
-/
import Derived.Test.YtjahkcbdecgbhaaGreatQAo
import Derived.Test.YtjahkcbdecgbhaaGreatQAp
import Derived.Test.YtjahkcbdecgbhaaGreatQAq
set_option linter.unusedSimpArgs false
set_option linter.unusedVariables false
noncomputable section
namespace Go.Aw
set_option maxRecDepth 100000
def aC2:List Value→Option (Bool × List (Int × Int) × Option Int)
 |[u,v]=>(match aAY u with|some s=>(match aAY v with|some t=>some (iO s&&iO t,pW s t,none)|none=>none)|none=>none)
 |_=>none
theorem YL {args:List Value}{l:List (Int × Int)}{e:Option Int}(hs:aC2 args=some (true,l,e)):∃ s t,args=[sgv s,sgv t]∧(iO s&&iO t)=true∧l=pW s t∧e=none:=by
 unfold aC2 at hs;split at hs
 ·split at hs
  ·rename_i s e1;split at hs
   ·rename_i t e2;injection hs with hs;injection hs with h1 h2;injection h2 with h2 h3;exact⟨s,t,by rw [MV e1,MV e2],h1,h2.symm,h3.symm⟩
   ·cases hs
  ·cases hs
 ·cases hs
def eE (v:Value)(j:Int):List (Nat × Value):=[(2,.pointer (some ⟨0,0,none⟩)),(3,.pointer (some ⟨1,0,none⟩)),(5,v),(6,.slice (some ⟨2,0,none⟩) 4 4),(7,iv j)]
def LV (s:Sg):List Value:=[iv s.1.1,iv s.1.2,iv s.2.1,iv s.2.2]
def hE (s t:Sg)(ps:List (Int × Int)):Heap:=[(0,.cells true false 1 (LV s)),(1,.cells true false 1 (LV t)),(2,.cells true false 2 (flat aP.fl ps))]
def FB (s t:Sg)(ps out:List (Int × Int)):Heap:=[(0,.cells true false 1 (LV s)),(1,.cells true false 1 (LV t)),(2,.cells true false 2 (flat aP.fl ps)),(3,.cells true false 2 (flat aP.fl out))]
def eI (v:Value)(j:Int)(b1 b2 b:Bool)(k:Int):List (Nat × Value):=[(2,.pointer (some ⟨0,0,none⟩)),(3,.pointer (some ⟨1,0,none⟩)),(5,v),(6,.slice (some ⟨2,0,none⟩) 4 4),(7,iv j),(8,.bool b1),(9,.bool b2),(10,.bool b),(11,iv k)]
theorem YD (p q:Int × Int)(l:List (Int × Int)):mH p (l++[q])=(mH p l || jT q p):=by
 induction l with
 |nil=>simp [mH]
 |cons a r ih=>simp only [List.cons_append,mH,ih,Bool.or_assoc]
theorem FD {p:Int × Int}{l:List (Int × Int)}{k:Nat}(h:k<l.length):mH p (l.take (k+1))=(mH p (l.take k) || jT (iB l k) p):=by
 rw [List.take_add_one,List.getElem?_eq_getElem h,mO h,← YD];rfl
theorem X1 {s t:Sg}(l out:List (Int × Int)):(l.foldl (mB s t) out).length≤out.length+l.length:=by
 induction l generalizing out with
 |nil=>simp
 |cons a r ih =>
  have:=ih (mB s t out a);have h2:(mB s t out a).length≤out.length+1:=by
   unfold mB;split <;> simp
  simp only [List.foldl_cons,List.length_cons];omega
theorem PJ {s t:Sg}{l:List (Int × Int)}(h:l.length≤4):(l.foldl (mB s t) []).length≤4:=by
 have:=X1 (s:=s) (t:=t) l [];simp at this;omega
theorem ZG (l:List (Int × Int))(p:Int × Int):List.take (l.length*2) (List.drop 0 (flat aP.fl l))++[iv p.1,iv p.2]=flat aP.fl (l++[p]):=by
 rw [o8,List.drop_zero,List.take_of_length_le (by rw [bD];exact Nat.le_refl _)];rfl
def X70:Nat × XF:=(264,fX aP aC2)
theorem x70:cH Go.Proofs.Tryz.prog X70.1 X70.2:=aK9 aP (aL (xl:=[X67]) (.cons x67 .nil)) fun args l e hs=>by
 obtain⟨s,t,rfl,hw,rfl,rfl⟩:=YL hs;refine⟨rfl,?_⟩;clear hs;obtain⟨⟨ax,ay⟩,⟨bx,b2⟩⟩:=s;obtain⟨⟨cx,cy⟩,⟨dx,dy⟩⟩:=t;obtain⟨ps,hps⟩:∃ ps:List (Int × Int),ps=[(ax,ay),(bx,b2),(cx,cy),(dx,dy)]:=⟨_,rfl⟩;(conv=>whnf)
 refine⟨fun n e h nx=>∃ (i:Nat) (j:Int) (out:List (Int × Int)),j=i∧i≤4∧n=4 - i∧out=(ps.take i).foldl (mB ((ax,ay),(bx,b2)) ((cx,cy),(dx,dy))) [] ∧
  ((out=[]∧e=eE (.slice none 0 0) j∧h=hE ((ax,ay),(bx,b2)) ((cx,cy),(dx,dy)) ps∧nx=3)∨(0<out.length∧e=eE (.slice (some ⟨3,0,none⟩) out.length out.length) j∧h=FB ((ax,ay),(bx,b2)) ((cx,cy),(dx,dy)) ps out∧nx=4)),⟨4,?_⟩,?_⟩
 ·subst hps;refine aM (e0:=eE (.slice none 0 0) 0) (h0:=hE ((ax,ay),(bx,b2)) ((cx,cy),(dx,dy)) [(ax,ay),(bx,b2),(cx,cy),(dx,dy)]) (n0:=3) ⟨0,0,[],rfl,by decide,rfl,rfl,.inl ⟨rfl,rfl,rfl,rfl⟩⟩ ?_ ?_ (by decide)
  ·unfold eE;((repeat' refine iE rfl rfl ?_);exact iN)
  ·unfold hE;((repeat'(first|refine iF rfl rfl ?_|refine iJ rfl rfl rfl rfl ?_));exact iN)
 ·have hl4:ps.length=4:=(by rw [hps];rfl);simp only [Bool.and_eq_true] at hw;have hww:∀ p∈ps,wide p=true:=by
   have h1:=hw.1;have h2:=hw.2;simp only [iO,Bool.and_eq_true] at h1 h2;subst hps;exact List.forall_mem_cons.2 ⟨h1.1,List.forall_mem_cons.2 ⟨h1.2,List.forall_mem_cons.2 ⟨h2.1,List.forall_mem_cons.2 ⟨h2.2,fun _ h=>(by cases h)⟩⟩⟩⟩
  rintro n e h nx ⟨i,j,out,hj,hi,rfl,ho,⟨ho0,rfl,rfl,rfl⟩|⟨hol,rfl,rfl,rfl⟩⟩
  ·unfold eE hE;((conv=>whnf);refine bm (fun g1=>?_) (fun g1=>?_))
   ·have hlt:i<ps.length:=(by simp [aA,aB] at g1;omega);have hwp:wide (iB ps i)=true:=(by rw [mO hlt];exact hww _ (List.getElem_mem hlt));((conv=>whnf);refine bm (fun g2=>?_) (fun g2=>?_))
    ·(conv=>whnf);refine nV (PE ps hlt ?_) ?_
     ·simp [aA,aB];omega
     ((conv=>whnf);refine bm (fun g3=>?_) (fun g3=>?_))
     ·((conv=>whnf);refine bm (fun g4=>?_) (fun g4=>?_))
      ·(conv=>whnf);refine nV (PE ps hlt ?_) ?_
       ·simp [aA,aB];omega
       ((conv=>whnf);refine bm (fun g5=>?_) (fun g5=>?_))
       ·(conv=>whnf);refine⟨fun n e h nx=>n=0∧e=eI (.slice none 0 0) j (pD (iB ps i) ((ax,ay),(bx,b2))) (pD (iB ps i) ((cx,cy),(dx,dy))) false 0∧h=hE ((ax,ay),(bx,b2)) ((cx,cy),(dx,dy)) ps∧nx=3,⟨0,?_⟩,?_⟩
        ·refine aM (e0:=eI (.slice none 0 0) j (pD (iB ps i) ((ax,ay),(bx,b2))) (pD (iB ps i) ((cx,cy),(dx,dy))) false 0) (h0:=hE ((ax,ay),(bx,b2)) ((cx,cy),(dx,dy)) ps) (n0:=3) ⟨rfl,rfl,rfl,rfl⟩ ?_ ?_ (by decide)
         ·unfold eI;((repeat' refine iE rfl rfl ?_);exact iN)
         ·unfold hE;((repeat'(first|refine iF rfl rfl ?_|refine iJ rfl rfl rfl rfl ?_));exact iN)
        ·rintro n e h nx ⟨rfl,rfl,rfl,rfl⟩;have hat:ps.take (i+1)=ps.take i++[iB ps i]:=by
          rw [mO hlt,List.take_add_one,List.getElem?_eq_getElem hlt];rfl
         have ho':(ps.take (i+1)).foldl (mB ((ax,ay),(bx,b2)) ((cx,cy),(dx,dy))) []=mB ((ax,ay),(bx,b2)) ((cx,cy),(dx,dy)) [] (iB ps i):=by
          rw [hat,List.foldl_append,← ho,ho0];rfl
         unfold eI hE
         repeat' first
          |((conv=>whnf)
            refine nV (PE ps hlt ?_) ?_
            ·simp [aA,aB];omega)
          |(((conv=>whnf);refine bm (fun g=>?_) (fun g=>?_)))
         all_goals (conv=>whnf)
         ·clear g1 g2 g3 g4 g5;rename_i ga gb _;refine⟨4 - (i+1),by omega,?_⟩
          refine gM (e0:=eE (.slice (some ⟨3,0,none⟩) 1 1) (j+1)) (h0:=FB ((ax,ay),(bx,b2)) ((cx,cy),(dx,dy)) ps [iB ps i]) (n0:=4) 3 4 (by decide) (by decide)
           ⟨i+1,j+1,[iB ps i],by omega,by omega,rfl,?_,.inr ⟨Nat.one_pos,rfl,rfl,rfl⟩⟩ ?_ ?_ ?_
          ·simp only [iT,beq_iff_eq] at ga gb;rw [ho',mB,if_pos ⟨ga,gb,rfl⟩];rfl
          ·unfold eE;((repeat' refine iE rfl rfl ?_);exact iN)
          ·unfold FB;((repeat'(first|refine iF rfl rfl ?_|refine iJ rfl rfl rfl rfl ?_));exact iN)
          ·unfold FB;((repeat' refine iK rfl ?_);exact iN)
         ·exfalso;simp only [kA,eS,aI,Bool.eq_false_iff,ne_eq,Bool.and_eq_true,decide_eq_true_eq] at g;omega
         ·exfalso;rw [g] at g2;cases g2
         ·clear g1 g2 g3 g4 g5;rename_i ga gb;refine⟨4 - (i+1),by omega,?_⟩;refine aM (e0:=eE (.slice none 0 0) (j+1)) (h0:=hE ((ax,ay),(bx,b2)) ((cx,cy),(dx,dy)) ps) (n0:=3) ⟨i+1,j+1,[],by omega,by omega,rfl,?_,.inl ⟨rfl,rfl,rfl,rfl⟩⟩ ?_ ?_ (by decide)
          ·simp only [iT,beq_eq_false_iff_ne,ne_eq] at gb;rw [ho',mB,if_neg fun h=>gb h.2.1]
          ·unfold eE;((repeat' refine iE rfl rfl ?_);exact iN)
          ·unfold hE;((repeat'(first|refine iF rfl rfl ?_|refine iJ rfl rfl rfl rfl ?_));exact iN)
         ·exfalso;simp only [kA,eS,aI,Bool.eq_false_iff,ne_eq,Bool.and_eq_true,decide_eq_true_eq] at g;omega
         ·clear g1 g2 g3 g4 g5;rename_i ga;refine⟨4 - (i+1),by omega,?_⟩;refine aM (e0:=eE (.slice none 0 0) (j+1)) (h0:=hE ((ax,ay),(bx,b2)) ((cx,cy),(dx,dy)) ps) (n0:=3) ⟨i+1,j+1,[],by omega,by omega,rfl,?_,.inl ⟨rfl,rfl,rfl,rfl⟩⟩ ?_ ?_ (by decide)
          ·simp only [iT,beq_eq_false_iff_ne,ne_eq] at ga;rw [ho',mB,if_neg fun h=>ga h.1]
          ·unfold eE;((repeat' refine iE rfl rfl ?_);exact iN)
          ·unfold hE;((repeat'(first|refine iF rfl rfl ?_|refine iJ rfl rfl rfl rfl ?_));exact iN)
         ·exfalso;simp only [kA,eS,aI,Bool.eq_false_iff,ne_eq,Bool.and_eq_true,decide_eq_true_eq] at g;omega
       ·exfalso;simp only [hwp,Bool.true_and] at g5;rw [show iO _=true from hw.2] at g5;cases g5
      ·exfalso;rw [g4] at g2;cases g2
     ·exfalso;simp only [hwp,Bool.true_and] at g3;rw [show iO _=true from hw.1] at g3;cases g3
    ·exfalso;simp only [gL,zK,kW,fQ,Bool.eq_false_iff,ne_eq,Bool.and_eq_true,decide_eq_true_eq] at g1 g2;omega
   ·(conv=>whnf);have h4:i=4:=(by simp only [gL,fQ,decide_eq_false_iff_not] at g1;omega);subst h4;have:pW ((ax,ay),(bx,b2)) ((cx,cy),(dx,dy))=[]:=by
     rw [← ho0,ho,hps];rfl
    rw [this];rfl
  ·have out_len:out.length≤4:=(by rw [ho];exact PJ (by rw [List.length_take];omega));unfold eE FB;((conv=>whnf);refine bm (fun g1=>?_) (fun g1=>?_))
   ·have hlt:i<ps.length:=(by simp [aA,aB] at g1;omega);have hwp:wide (iB ps i)=true:=(by rw [mO hlt];exact hww _ (List.getElem_mem hlt));((conv=>whnf);refine bm (fun g2=>?_) (fun g2=>?_))
    ·(conv=>whnf);refine nV (PE ps hlt ?_) ?_
     ·simp [aA,aB];omega
     ((conv=>whnf);refine bm (fun g3=>?_) (fun g3=>?_))
     ·((conv=>whnf);refine bm (fun g4=>?_) (fun g4=>?_))
      ·(conv=>whnf);refine nV (PE ps hlt ?_) ?_
       ·simp [aA,aB];omega
       ((conv=>whnf);refine bm (fun g5=>?_) (fun g5=>?_))
       ·(conv=>whnf);refine⟨fun n e h nx=>∃ (k:Nat) (jk:Int),jk=k∧k≤out.length∧n=out.length - k∧e=eI (.slice (some ⟨3,0,none⟩) out.length out.length) j (pD (iB ps i) ((ax,ay),(bx,b2))) (pD (iB ps i) ((cx,cy),(dx,dy))) (mH (iB ps i) (out.take k)) jk∧h=FB ((ax,ay),(bx,b2)) ((cx,cy),(dx,dy)) ps out∧nx=4,⟨out.length,?_⟩,?_⟩
        ·refine aM (e0:=eI (.slice (some ⟨3,0,none⟩) out.length out.length) j (pD (iB ps i) ((ax,ay),(bx,b2))) (pD (iB ps i) ((cx,cy),(dx,dy))) false 0) (h0:=FB ((ax,ay),(bx,b2)) ((cx,cy),(dx,dy)) ps out) (n0:=4) ⟨0,0,rfl,Nat.zero_le _,rfl,rfl,rfl,rfl⟩ ?_ ?_ (by decide)
         ·unfold eI;((repeat' refine iE rfl rfl ?_);exact iN)
         ·unfold FB;((repeat'(first|refine iF rfl rfl ?_|refine iJ rfl rfl rfl rfl ?_));exact iN)
        ·rintro n e h nx ⟨k,jk,hjk,hk,rfl,rfl,rfl,rfl⟩;have hat:ps.take (i+1)=ps.take i++[iB ps i]:=by
          rw [mO hlt,List.take_add_one,List.getElem?_eq_getElem hlt];rfl
         have ho':(ps.take (i+1)).foldl (mB ((ax,ay),(bx,b2)) ((cx,cy),(dx,dy))) []=mB ((ax,ay),(bx,b2)) ((cx,cy),(dx,dy)) out (iB ps i):=by
          rw [hat,List.foldl_append,← ho];rfl
         unfold eI FB;((conv=>whnf);refine bm (fun f1=>?_) (fun f1=>?_))
         ·have hltk:k<out.length:=by simp [aA,aB] at f1;omega
          repeat' first
           |((conv=>whnf)
             refine nV (PE out hltk ?_) ?_
             ·simp [aA,aB];omega)
           |((conv=>whnf)
             refine nV (PE ps hlt ?_) ?_
             ·simp [aA,aB];omega)
           |(((conv=>whnf);refine bm (fun g=>?_) (fun g=>?_)))
          all_goals (conv=>whnf)
          ·clear g1 g2 g3 g4 g5;rename_i ga _ _;refine⟨out.length - (k+1),by omega,?_⟩;refine aM (e0:=eI (.slice (some ⟨3,0,none⟩) out.length out.length) j (pD (iB ps i) ((ax,ay),(bx,b2))) (pD (iB ps i) ((cx,cy),(dx,dy))) (jT (iB out k) (iB ps i)) (jk+1)) (h0:=FB ((ax,ay),(bx,b2)) ((cx,cy),(dx,dy)) ps out) (n0:=4) ⟨k+1,jk+1,by omega,hltk,rfl,?_,rfl,rfl⟩ ?_ ?_ (by decide)
           ·simp only [iT,beq_iff_eq,beq_eq_false_iff_ne,ne_eq,Bool.not_eq_false] at ga;rw [FD hltk,ga];rfl
           ·unfold eI;((repeat' refine iE rfl rfl ?_);exact iN)
           ·unfold FB;((repeat'(first|refine iF rfl rfl ?_|refine iJ rfl rfl rfl rfl ?_));exact iN)
          ·exfalso;have:=out_len;simp only [kA,eS,aI,Bool.eq_false_iff,ne_eq,Bool.and_eq_true,decide_eq_true_eq] at g;omega
          ·exfalso;rw [g] at g2;cases g2
          ·exfalso;simp only [gL,zK,kW,fQ,Bool.eq_false_iff,ne_eq,Bool.and_eq_true,decide_eq_true_eq] at g;omega
          ·clear g1 g2 g3 g4 g5;rename_i ga;refine⟨out.length - (k+1),by omega,?_⟩;refine aM (e0:=eI (.slice (some ⟨3,0,none⟩) out.length out.length) j (pD (iB ps i) ((ax,ay),(bx,b2))) (pD (iB ps i) ((cx,cy),(dx,dy))) true (jk+1)) (h0:=FB ((ax,ay),(bx,b2)) ((cx,cy),(dx,dy)) ps out) (n0:=4) ⟨k+1,jk+1,by omega,hltk,rfl,?_,rfl,rfl⟩ ?_ ?_ (by decide)
           ·simp only [iT,beq_iff_eq,beq_eq_false_iff_ne,ne_eq,Bool.not_eq_false] at ga;rw [FD hltk,ga];rfl
           ·unfold eI;((repeat' refine iE rfl rfl ?_);exact iN)
           ·unfold FB;((repeat'(first|refine iF rfl rfl ?_|refine iJ rfl rfl rfl rfl ?_));exact iN)
          ·exfalso;simp only [kA,eS,aI,Bool.eq_false_iff,ne_eq,Bool.and_eq_true,decide_eq_true_eq] at g;omega
         ·have hkk:k=out.length:=by simp only [gL,fQ,decide_eq_false_iff_not] at f1;omega
          repeat' first
           |((conv=>whnf)
             refine nV (PE ps hlt ?_) ?_
             ·simp [aA,aB];omega)
           |(((conv=>whnf);refine bm (fun g=>?_) (fun g=>?_)))
          all_goals (conv=>whnf)
          ·exfalso;rename_i gc _;have:=Nat.le_of_ble_eq_true gc;omega
          ·exfalso;rename_i gc _;have:=Nat.le_of_ble_eq_true gc;omega
          ·exfalso;rename_i gc;have:=Nat.le_of_ble_eq_true gc;omega
          ·clear g1 g2 g3 g4 g5;rename_i ga gb gx _ _ _;refine⟨4 - (i+1),by omega,?_⟩
           refine gM (e0:=eE (.slice (some ⟨3,0,none⟩) (out.length+1) (out.length+1)) (j+1)) (h0:=FB ((ax,ay),(bx,b2)) ((cx,cy),(dx,dy)) ps (out++[iB ps i])) (n0:=4) 3 5 (by decide) (by decide)
            ⟨i+1,j+1,out++[iB ps i],by omega,by omega,rfl,?_,.inr ⟨by rw [List.length_append];exact Nat.succ_pos _,by rw [List.length_append];rfl,rfl,rfl⟩⟩ ?_ ?_ ?_
           ·simp only [iT,gR,beq_iff_eq,Bool.not_eq_true'] at ga gb gx;rw [ho',mB,if_pos ⟨ga,gb,by rw [hkk,List.take_length] at gx;exact gx⟩]
           ·unfold eE;((repeat' refine iE rfl rfl ?_);exact iN)
           ·unfold FB;((repeat'(first|refine iW rfl rfl (aZ (aG aP _) (ZG out _)) ?_|refine iF rfl rfl ?_|refine iJ rfl rfl rfl rfl ?_));exact iN)
           ·unfold FB;((repeat' refine iK rfl ?_);exact iN)
          ·exfalso;simp only [kA,eS,aI,Bool.eq_false_iff,ne_eq,Bool.and_eq_true,decide_eq_true_eq] at g;omega
          ·exfalso;have hf:(flat aP.fl out).length=out.length*2:=bD aP out;have hol4:out.length≤4:=(by rw [ho];exact PJ (by rw [List.length_take];omega));simp only [kW,hf] at g;revert g;simp;omega
          ·exfalso;rw [g] at g2;cases g2
          ·clear g1 g2 g3 g4 g5;rename_i gx;refine⟨4 - (i+1),by omega,?_⟩;refine aM (e0:=eE (.slice (some ⟨3,0,none⟩) out.length out.length) (j+1)) (h0:=FB ((ax,ay),(bx,b2)) ((cx,cy),(dx,dy)) ps out) (n0:=4) ⟨i+1,j+1,out,by omega,by omega,rfl,?_,.inr ⟨hol,rfl,rfl,rfl⟩⟩ ?_ ?_ (by decide)
           ·simp only [iT,gR,beq_eq_false_iff_ne,ne_eq,Bool.not_eq_false'] at gx;rw [ho',mB,if_neg fun h=>by rw [hkk,List.take_length] at gx;rw [gx] at h;exact absurd h.2.2 (by decide)]
           ·unfold eE;((repeat' refine iE rfl rfl ?_);exact iN)
           ·unfold FB;((repeat'(first|refine iF rfl rfl ?_|refine iJ rfl rfl rfl rfl ?_));exact iN)
          ·exfalso;simp only [kA,eS,aI,Bool.eq_false_iff,ne_eq,Bool.and_eq_true,decide_eq_true_eq] at g;omega
          ·clear g1 g2 g3 g4 g5;rename_i gx;refine⟨4 - (i+1),by omega,?_⟩;refine aM (e0:=eE (.slice (some ⟨3,0,none⟩) out.length out.length) (j+1)) (h0:=FB ((ax,ay),(bx,b2)) ((cx,cy),(dx,dy)) ps out) (n0:=4) ⟨i+1,j+1,out,by omega,by omega,rfl,?_,.inr ⟨hol,rfl,rfl,rfl⟩⟩ ?_ ?_ (by decide)
           ·simp only [iT,gR,beq_eq_false_iff_ne,ne_eq,Bool.not_eq_false'] at gx;rw [ho',mB,if_neg fun h=>gx h.2.1]
           ·unfold eE;((repeat' refine iE rfl rfl ?_);exact iN)
           ·unfold FB;((repeat'(first|refine iF rfl rfl ?_|refine iJ rfl rfl rfl rfl ?_));exact iN)
          ·exfalso;simp only [kA,eS,aI,Bool.eq_false_iff,ne_eq,Bool.and_eq_true,decide_eq_true_eq] at g;omega
          ·clear g1 g2 g3 g4 g5;rename_i gx;refine⟨4 - (i+1),by omega,?_⟩;refine aM (e0:=eE (.slice (some ⟨3,0,none⟩) out.length out.length) (j+1)) (h0:=FB ((ax,ay),(bx,b2)) ((cx,cy),(dx,dy)) ps out) (n0:=4) ⟨i+1,j+1,out,by omega,by omega,rfl,?_,.inr ⟨hol,rfl,rfl,rfl⟩⟩ ?_ ?_ (by decide)
           ·simp only [iT,gR,beq_eq_false_iff_ne,ne_eq,Bool.not_eq_false'] at gx;rw [ho',mB,if_neg fun h=>gx h.1]
           ·unfold eE;((repeat' refine iE rfl rfl ?_);exact iN)
           ·unfold FB;((repeat'(first|refine iF rfl rfl ?_|refine iJ rfl rfl rfl rfl ?_));exact iN)
          ·exfalso;simp only [kA,eS,aI,Bool.eq_false_iff,ne_eq,Bool.and_eq_true,decide_eq_true_eq] at g;omega
       ·exfalso;simp only [hwp,Bool.true_and] at g5;rw [show iO _=true from hw.2] at g5;cases g5
      ·exfalso;rw [g4] at g2;cases g2
     ·exfalso;simp only [hwp,Bool.true_and] at g3;rw [show iO _=true from hw.1] at g3;cases g3
    ·exfalso;simp only [gL,zK,kW,fQ,Bool.eq_false_iff,ne_eq,Bool.and_eq_true,decide_eq_true_eq] at g1 g2;omega
   ·(conv=>whnf);have h4:i=4:=(by simp only [gL,fQ,decide_eq_false_iff_not] at g1;omega);subst h4;have:pW ((ax,ay),(bx,b2)) ((cx,cy),(dx,dy))=out:=by
     rw [ho,hps];rfl
    rw [this];exact gP (q:=3) (h:=FB ((ax,ay),(bx,b2)) ((cx,cy),(dx,dy)) ps out) (nx:=4) (e:=none) aP hol rfl
attribute [local irreducible] pW
def JY (s t:Sg):List (Int × Int)→Int
 |[]=>if bB s.1 s.2 t.1*bB s.1 s.2 t.2<0∧bB t.1 t.2 s.1*bB t.1 t.2 s.2<0 then 3 else 0
 |[p]=>if (jT p s.1=true∨jT p s.2=true)∧(jT p t.1=true∨jT p t.2=true) then 1 else 2
 |_::_::_=>4
theorem aF5 (s t:Sg):oW s t=JY s t (pW s t):=rfl
theorem aBL {s t:Sg}{l:List (Int × Int)}(h:pW s t=l):oW s t=JY s t l:=by
 rw [aF5,h]
def X72:Nat × XF:=(243,gX (s2 cS cS fun s t=>(iO s&&iO t,u8 (oW s t))))
theorem x72:cH Go.Proofs.Tryz.prog X72.1 X72.2:=x2 cS cS (xl:=[X70,X57]) (.cons x70 (.cons x57 .nil)) (fun _ _=>rfl) fun s t hp=>by
 obtain⟨⟨ax,ay⟩,⟨bx,b2⟩⟩:=s;obtain⟨⟨cx,cy⟩,⟨dx,dy⟩⟩:=t;have l1:=lY (ax,ay) (bx,b2) (cx,cy);have l2:=lY (ax,ay) (bx,b2) (dx,dy);have l3:=lY (cx,cy) (dx,dy) (ax,ay);have l4:=lY (cx,cy) (dx,dy) (bx,b2);have m1:=vT (A:=1) (B:=1) l1.1 l1.2 l2.1 l2.2;have m2:=vT (A:=1) (B:=1) l3.1 l3.2 l4.1 l4.2;have hp':=hp;simp only [iO,Bool.and_eq_true] at hp;unfold c9;((conv=>whnf);refine bm (fun g=>?_) (fun g=>?_))
 ·(conv=>whnf);generalize he:pW _ _=L;have hm:oW ((ax,ay),(bx,b2)) ((cx,cy),(dx,dy))=JY ((ax,ay),(bx,b2)) ((cx,cy),(dx,dy)) L:=aBL he;clear he g hp';rcases L with _|⟨p,_|⟨q,r⟩⟩
  ·repeat' ((conv=>whnf);refine bm (fun g=>?_) (fun g=>?_))
   all_goals (conv=>whnf)
   all_goals (clear l1 l2 l3 l4)
   all_goals (try (show u8 _=u8 (oW ((ax,ay),(bx,b2)) ((cx,cy),(dx,dy)));rw [hm];clear hm))
   all_goals (simp only [LK,gL,eS,iT,fQ,aI,DC,Bool.and_eq_true,beq_iff_eq,beq_eq_false_iff_ne,ne_eq,decide_eq_true_eq,decide_eq_false_iff_not,not_and,Bool.not_eq_true',Bool.not_eq_false'] at *)
   all_goals first
    |(simp only [JY,u8];simp_all;done)
    |(simp_all;done)
    |(simp only [Bool.and_eq_false_iff,decide_eq_false_iff_not] at *;omega)
    |(rw [JY,if_neg fun h=>g h.1];done)
  ·repeat' ((conv=>whnf);refine bm (fun g=>?_) (fun g=>?_))
   all_goals (conv=>whnf)
   all_goals (clear l1 l2 l3 l4 m1 m2 hp)
   all_goals (show u8 _=u8 (oW ((ax,ay),(bx,b2)) ((cx,cy),(dx,dy)));rw [hm];clear hm)
   all_goals (simp only [tS,kW,LK,gL,eS,iT,fQ,aI,DC,beq_iff_eq,beq_eq_false_iff_ne,ne_eq] at *)
   all_goals (simp only [JY,u8];simp_all [jT] <;> omega)
  ·((conv=>whnf);refine bm (fun g=>?_) (fun g=>?_))
   ·(conv=>whnf);show u8 _=u8 (oW ((ax,ay),(bx,b2)) ((cx,cy),(dx,dy)));rw [hm];rfl
   ·exfalso;simp [gL,fQ] at g;omega
 ·exfalso;rw [show _=true from hp'] at g;cases g
def fV (s t:Sg):Int:=if eD s=true∧eD t=true then r9 s t else 0
def X22:Nat × XF:=(198,gX (s2 cS cS fun s t=>(true,u8 (fV s t))))
theorem x22:cH Go.Proofs.Tryz.prog X22.1 X22.2:=x2 cS cS (xl:=[X64,X68]) (.cons x64 (.cons x68 .nil)) (fun _ _=>rfl) fun s t _=>by
 obtain⟨⟨ax,ay⟩,⟨bx,b2⟩⟩:=s;obtain⟨⟨cx,cy⟩,⟨dx,dy⟩⟩:=t;unfold c9
 repeat' ((conv=>whnf);refine bm (fun g=>?_) (fun g=>?_))
 all_goals (conv=>whnf)
 all_goals (simp only [iT,gR,DC,Bool.not_eq_true',Bool.not_eq_false',beq_iff_eq,beq_eq_false_iff_ne,ne_eq,Bool.not_eq_false,Bool.not_eq_true] at *)
 all_goals first
  |(show u8 _=u8 _;simp [fV, *];done)
  |(simp_all [sO];done)
  |trace_state
def X25:Nat × XF:=(213,gX (s2 cS cS fun s t=>(true,u8 (fV s t))))
theorem x25:cH Go.Proofs.Tryz.prog X25.1 X25.2:=x2 cS cS (xl:=[X66,X72]) (.cons x66 (.cons x72 .nil)) (fun _ _=>rfl) fun s t _=>by
 have e:=VN s t;obtain⟨⟨ax,ay⟩,⟨bx,b2⟩⟩:=s;obtain⟨⟨cx,cy⟩,⟨dx,dy⟩⟩:=t;unfold c9
 repeat' ((conv=>whnf);refine bm (fun g=>?_) (fun g=>?_))
 all_goals (conv=>whnf)
 all_goals (simp only [iT,gR,DC,Bool.not_eq_true',Bool.not_eq_false',beq_iff_eq,beq_eq_false_iff_ne,ne_eq,Bool.not_eq_false,Bool.not_eq_true] at *)
 all_goals first
  |(show u8 _=u8 _;simp [fV, *];done)
  |(simp_all [sO];done)
  |trace_state
def aIy:Nat × XF:=(170,gX (s2 cP cP fun a b=>(true,iv (kY a b))))
theorem aKI:cH Go.Proofs.Tryz.prog aIy.1 aIy.2:=x2 cP cP (xl:=[RM,aAl]) (.cons Y5 (.cons aIz .nil)) (fun _ _=>rfl) fun a b _=>by
 obtain⟨ax,ay⟩:=a;obtain⟨bx,b_y⟩:=b;unfold c9
 conv=>whnf
 refine⟨[jG ax bx,jG ay b_y],⟨rfl,_,_,_,_,rfl,rfl⟩,?_⟩
 conv=>whnf
 rfl
section
variable {α β γ δ:Type}(a:Cd α)(b:Cd β)(c:Cd γ)(d:Cd δ)
def s4 (F:α→β→γ→δ→Bool × Value):List Value→Option (Bool × Value)
 |[u,v,w,t]=>(match a.dec u with|some x=>(match b.dec v with|some y=>(match c.dec w with|some z=>(match d.dec t with|some s=>some (F x y z s)|none=>none)|none=>none)|none=>none)|none=>none)
 |_=>none
theorem aHc {F:α→β→γ→δ→Bool × Value}{args:List Value}{r:Bool × Value}(h:s4 a b c d F args=some r):∃ x y z s,args=[a.enc x,b.enc y,c.enc z,d.enc s]∧F x y z s=r:=by
 unfold s4 at h;split at h
 ·split at h
  ·rename_i x e;split at h
   ·rename_i y e2;split at h
    ·rename_i z e3;split at h
     ·rename_i s e4;injection h with h;exact⟨x,y,z,s,by rw [a.ok _ _ e,b.ok _ _ e2,c.ok _ _ e3,d.ok _ _ e4],h⟩
     ·cases h
    ·cases h
   ·cases h
  ·cases h
 ·cases h
theorem x4' {xl:List (Nat × XF)}(hx:nZ xl){f:Nat}{F:α→β→γ→δ→Bool × Value}(hg:∀ x y z s,gT (F x y z s).2=true)(h:∀ x y z s,(F x y z s).1=true→c9 xl f [a.enc x,b.enc y,c.enc z,d.enc s] (F x y z s).2):cH Go.Proofs.Tryz.prog f (gX (s4 a b c d F)) :=
 tQ (aL hx) fun args v hs=>by
  obtain⟨x,y,z,s,rfl,e⟩:=aHc a b c d hs;have h1:(F x y z s).1=true:=(by rw [e]);have h2:(F x y z s).2=v:=(by rw [e]);subst h2;exact⟨by simp [dW,a.gr,b.gr,c.gr,d.gr],hg x y z s,h x y z s h1⟩
end
theorem aGk {b:Bool}(h:aA.A.eqB b false=true):b=false:=by cases b <;> first|rfl|cases h
theorem aFZ {b:Bool}(h:aA.A.eqB b false=false):b=true:=by cases b <;> first|rfl|cases h
def mxI (a b:Int):Int:=if b > a then b else a
def mnI (a b:Int):Int:=if b<a then b else a
def apI (a b c d:Int):Bool:=decide (mxI a b<mnI c d) || decide (mxI c d<mnI a b)
def aI5:Nat × XF:=(228,gX (s4 cI cI cI cI fun a b c d=>(true,.bool (apI a b c d))))
theorem aMr:cH Go.Proofs.Tryz.prog aI5.1 aI5.2:=x4' cI cI cI cI (xl:=[]) .nil (fun _ _ _ _=>rfl) fun a b c d _=>by
 unfold c9
 repeat' (conv=>whnf
          refine bm (fun h=>?_) (fun h=>?_))
 all_goals (conv=>whnf)
 all_goals (show _=Value.bool (apI a b c d))
 ·have h1:decide (mxI a b<mnI c d)=false:=aGk h;unfold apI;rw [h1];rfl
 ·have h1:decide (mxI a b<mnI c d)=true:=aFZ h;unfold apI;rw [h1];rfl
def AX (s t:Sg):Bool:=apI s.1.1 s.2.1 t.1.1 t.2.1 || apI s.1.2 s.2.2 t.1.2 t.2.2
def aHh:Nat × XF:=(197,gX (s2 cS cS fun s t=>(true,.bool (AX s t))))
theorem aLJ:cH Go.Proofs.Tryz.prog aHh.1 aHh.2:=x2 cS cS (xl:=[aI5]) (.cons aMr .nil) (fun _ _=>rfl) fun s t _=>by
 obtain⟨⟨ax,ay⟩,⟨bx,b2⟩⟩:=s;obtain⟨⟨cx,cy⟩,⟨dx,dy⟩⟩:=t;unfold c9
 repeat' (conv=>whnf
          refine bm (fun h=>?_) (fun h=>?_))
 all_goals (conv=>whnf)
 ·have h1:apI ax bx cx dx=false:=aGk h;show _=Value.bool (AX _ _);unfold AX;rw [h1];rfl
 ·have h1:apI ax bx cx dx=true:=aFZ h;show _=Value.bool (AX _ _);unfold AX;rw [h1];rfl
def GZ (s t:Sg):Int:=if AX s t=true then 0 else fV s t
def P7:Nat × XF:=(119,gX (s2 cS cS fun s t=>(true,u8 (GZ s t))))
theorem aCb:cH Go.Proofs.Tryz.prog P7.1 P7.2:=x2 cS cS (xl:=[aHh,X22]) (.cons aLJ (.cons x22 .nil)) (fun _ _=>rfl) fun s t _=>by
 obtain⟨⟨ax,ay⟩,⟨bx,b2⟩⟩:=s;obtain⟨⟨cx,cy⟩,⟨dx,dy⟩⟩:=t;unfold c9
 repeat' (conv=>whnf
          refine bm (fun h=>?_) (fun h=>?_))
 all_goals (conv=>whnf)
 ·have h1:AX ((ax,ay),(bx,b2)) ((cx,cy),(dx,dy))=true:=h;show _=u8 _;simp only [GZ,h1,if_true];rfl
 ·have h1:AX ((ax,ay),(bx,b2)) ((cx,cy),(dx,dy))=false:=h;show _=u8 _;simp only [GZ,h1];rfl
def gH (a b:Int × Int):Bool:=decide (a.1<b.1) || (decide (a.1=b.1)&&decide (a.2<b.2))
def aIH:Nat × XF:=(212,gX (s2 cP cP fun a b=>(true,.bool (gH a b))))
theorem aLS:cH Go.Proofs.Tryz.prog aIH.1 aIH.2:=x2 cP cP (xl:=[]) .nil (fun _ _=>rfl) fun a b _=>by
 obtain⟨ax,ay⟩:=a;obtain⟨bx,b_y⟩:=b;unfold c9
 repeat' ((conv=>whnf);refine bm (fun h=>?_) (fun h=>?_))
 all_goals (conv=>whnf)
 all_goals (simp only [gL,tS,iT,gR,beq_iff_eq,beq_eq_false_iff_ne,ne_eq,Bool.not_eq_false,Bool.not_eq_true,decide_eq_true_eq,decide_eq_false_iff_not] at *)
 all_goals (show _=Value.bool (gH _ _);unfold gH;simp_all)
def aIf (a b c:Int × Int):Int:=(b.1 - a.1)*(c.1 - a.1)+(b.2 - a.2)*(c.2 - a.2)
def aDH:Nat × XF:=(217,gX (s3 cP cP cP fun a b c=>(wide a&&wide b&&wide c,iv (bE a b c))))
theorem aJU:cH Go.Proofs.Tryz.prog aDH.1 aDH.2:=x3 cP cP cP (xl:=[]) .nil (fun _ _ _=>rfl) fun a b c hp=>by
 obtain⟨ax,ay⟩:=a;obtain⟨bx,b_y⟩:=b;obtain⟨cx,cy⟩:=c;simp only [wide,Bool.and_eq_true,decide_eq_true_eq] at hp;have m1:=vT (a:=bx - ax) (b:=cy - ay) (A:=2000000) (B:=2000000) (by omega) (by omega) (by omega) (by omega);have m2:=vT (a:=b_y - ay) (b:=cx - ax) (A:=2000000) (B:=2000000) (by omega) (by omega) (by omega) (by omega);unfold c9
 repeat' (conv=>whnf
          refine bm (fun h=>?_) (fun h=>?_))
 all_goals (conv=>whnf)
 all_goals (simp [aA,aB,aI] at *)
 all_goals first|omega|simp [bE,iv]
def aJ0:Nat × XF:=(245,gX (s3 cP cP cP fun a b c=>(wide a&&wide b&&wide c,iv (aIf a b c))))
theorem aMj:cH Go.Proofs.Tryz.prog aJ0.1 aJ0.2:=x3 cP cP cP (xl:=[]) .nil (fun _ _ _=>rfl) fun a b c hp=>by
 obtain⟨ax,ay⟩:=a;obtain⟨bx,b_y⟩:=b;obtain⟨cx,cy⟩:=c;simp only [wide,Bool.and_eq_true,decide_eq_true_eq] at hp;have m1:=vT (a:=bx - ax) (b:=cx - ax) (A:=2000000) (B:=2000000) (by omega) (by omega) (by omega) (by omega);have m2:=vT (a:=b_y - ay) (b:=cy - ay) (A:=2000000) (B:=2000000) (by omega) (by omega) (by omega) (by omega);unfold c9
 repeat' (conv=>whnf
          refine bm (fun h=>?_) (fun h=>?_))
 all_goals (conv=>whnf)
 all_goals (simp [aA,aB,aI] at *)
 all_goals first|omega|simp [aIf,iv]
def CA (v u w:Int × Int):Int:=if bE v u w<0 then 0 else if 0<bE v u w then 2 else if aIf v u w<0 then 1 else 3
def aID:Nat × XF:=(216,gX (s3 cP cP cP fun a b c=>(wide a&&wide b&&wide c,iv (CA a b c))))
theorem aLK:cH Go.Proofs.Tryz.prog aID.1 aID.2:=x3 cP cP cP (xl:=[aDH,aJ0]) (.cons aJU (.cons aMj .nil)) (fun _ _ _=>rfl) fun a b c hp=>by
 obtain⟨ax,ay⟩:=a;obtain⟨bx,b_y⟩:=b;obtain⟨cx,cy⟩:=c;simp only [Bool.and_eq_true] at hp;unfold c9
 repeat' ((conv=>whnf);refine bm (fun h=>?_) (fun h=>?_))
 all_goals (conv=>whnf)
 all_goals (simp only [gL,DC,decide_eq_true_eq,decide_eq_false_iff_not] at *)
 all_goals first
  |(show iv _=iv (CA _ _ _);unfold CA;(repeat' split) <;> first|rfl|omega)
  |(simp_all;done)
  |trace_state
def pX (v u w x:Int × Int):Bool:=if CA v u w=CA v u x then decide (bE v w x<0) else decide (CA v u w<CA v u x)
def aIq:Nat × XF:=(164,gX (s4 cP cP cP cP fun a b c d=>(wide a&&wide b&&wide c&&wide d,.bool (pX a b c d))))
theorem aMQ:cH Go.Proofs.Tryz.prog aIq.1 aIq.2:=x4' cP cP cP cP (xl:=[aID,aDH]) (.cons aLK (.cons aJU .nil)) (fun _ _ _ _=>rfl) fun a b c d hp=>by
 obtain⟨ax,ay⟩:=a;obtain⟨bx,b_y⟩:=b;obtain⟨cx,cy⟩:=c;obtain⟨dx,dy⟩:=d;simp only [Bool.and_eq_true] at hp;unfold c9
 repeat' ((conv=>whnf);refine bm (fun h=>?_) (fun h=>?_))
 all_goals (conv=>whnf)
 all_goals (simp only [gL,tS,gR,DC,Bool.not_eq_true',Bool.not_eq_false',decide_eq_true_eq,decide_eq_false_iff_not] at *)
 all_goals first
  |(show _=Value.bool (pX _ _ _ _);unfold pX;(repeat' split) <;> first|rfl|(simp_all;done)|omega)
  |(simp_all;done)
  |trace_state
abbrev Pt:=Int × Int
structure Ed where
 a:Int
 b:Int
 l:Int
 r:Int
 n:Int
def aS:El Ed:=⟨fun e=>[iv e.a,iv e.b,iv e.l,iv e.r,iv e.n],5,fun _=>rfl,fun _=>rfl,by decide⟩
def cO (m:List Ed)(i:Nat):Ed:=m.getD i ⟨0,0,0,0,0⟩
theorem LN {m:List Ed}{i:Nat}(h:i<m.length):cO m i=m[i]:=by
 unfold cO;rw [List.getD_eq_getElem?_getD,List.getElem?_eq_getElem h];rfl
theorem BS (m:List Ed){i o:Nat}(hi:i<m.length)(ho:o=i*5):nR (flat aS.fl m) o 5=some [iv (cO m i).a,iv (cO m i).b,iv (cO m i).l,iv (cO m i).r,iv (cO m i).n]:=by
 rw [LN hi];exact zY aS m hi ho
theorem IV (m:List Ed)(k:Nat){i o:Nat}{v:Value}(hi:i<m.length)(hk:(aS.fl (cO m i))[k]? = some v)(hk5:k<5)(ho:o=i*5+k):nth (flat aS.fl m) o=some v:=by
 rw [LN hi] at hk;exact l9 aS m hi hk hk5 ho
theorem jO (l:List Pt){i o:Nat}(hi:i<l.length)(ho:o=i*2):nR (flat aP.fl l) o 2=some [iv (iB l i).1,iv (iB l i).2]:=by
 rw [mO hi];exact zY aP l hi ho
theorem aC {α:Type}(E:El α){l:List α}{k c:Nat}{wr g:Bool}{sz:Nat}{h:Heap}(hk:look h k=some (.cells wr g sz (flat E.fl l))):eO E h (.slice (some ⟨k,0,none⟩) l.length c) l :=
 ⟨rfl,wr,g,sz,_,hk,by rw [List.drop_zero,List.take_length]⟩
def bS (m:List Ed)(d:Int):Int:=if d % 2=0 then (cO m (d / 2).toNat).a else (cO m (d / 2).toNat).b
def iH (m:List Ed)(d:Int):Int:=bS m (d+1 - 2*(d % 2))
abbrev MS:=List Pt→List Ed→Int→List Value→Option (Bool × Value)
def mE (m:List Ed)(d:Int):Bool:=decide (0≤d)&&decide (d<2*m.length)&&decide (m.length≤1000000)
def sMD (F:List Pt→List Ed→Int→Int→Bool × Value):MS:=fun l m n r=>match r with
 |[.int .i64 d]=>some (F l m n d)
 |_=>none
theorem uV {F:List Pt→List Ed→Int→Int→Bool × Value}{l:List Pt}{m:List Ed}{n:Int}{r:List Value}{v:Value}(h:sMD F l m n r=some (true,v)):∃ d,r=[iv d]∧(F l m n d).1=true∧(F l m n d).2=v:=by
 unfold sMD at h;split at h
 ·rename_i d;injection h with h;exact⟨d,rfl,by rw [h],by rw [h]⟩
 ·cases h
def X87:Nat × XF:=(87,mX aP aS (sMD fun l m n d=>(mE m d,iv (bS m d))))
theorem x87:cH Go.Proofs.Tryz.prog X87.1 X87.2:=rY aP aS (aL (xl:=[]) .nil) fun l m n r v hs=>by
 obtain⟨d,rfl,hd,rfl⟩:=uV hs;simp only [mE,Bool.and_eq_true,decide_eq_true_eq] at hd;have q1:d.tdiv 2=d / 2:=Int.tdiv_eq_ediv_of_nonneg hd.1.1;have q2:d.tmod 2=d % 2:=Int.tmod_eq_emod_of_nonneg hd.1.1;refine⟨rfl,rfl,fun c1 c2=>?_⟩;((conv=>whnf);refine bm (fun h1=>?_) (fun h1=>?_))
 ·((conv=>whnf);refine bm (fun h2=>?_) (fun h2=>?_))
  ·(conv=>whnf);refine nV (BS m (i:=(d / 2).toNat) (by omega) ?_) ?_
   ·show _+Int.toNat (d.tdiv 2)*5=_;rw [q1];omega
   ((conv=>whnf);refine bm (fun h4=>?_) (fun h4=>?_))
   ·(conv=>whnf);have h4:decide (d.tmod 2=0)=true:=h4;simp only [q2,decide_eq_true_eq] at h4;simp only [bS,if_pos h4]
   ·(conv=>whnf);have h4:decide (d.tmod 2=0)=false:=h4;simp only [q2,decide_eq_false_iff_not] at h4;simp only [bS,if_neg h4]
  ·simp only [aA,aB,q1] at h2;simp at h2;have:=h2 (by omega);omega
 ·simp only [aA,aB,q1,aI] at h1;simp at h1;omega
theorem aCD {m:List Ed}{d:Int}(h:mE m d=true):mE m (d+1 - 2*(d % 2))=true:=by
 simp only [mE,Bool.and_eq_true,decide_eq_true_eq] at *;omega
def aEH:Nat × XF:=(163,mX aP aS (sMD fun l m n d=>(mE m d,iv (iH m d))))
theorem aKE:cH Go.Proofs.Tryz.prog aEH.1 aEH.2:=rY aP aS (aL (xl:=[X87]) (.cons x87 .nil)) fun l m n r v hs=>by
 obtain⟨d,rfl,hd,rfl⟩:=uV hs;have hd2:=aCD hd;simp only [mE,Bool.and_eq_true,decide_eq_true_eq] at hd;have q2:d.tmod 2=d % 2:=Int.tmod_eq_emod_of_nonneg hd.1.1;refine⟨rfl,rfl,fun c1 c2=>?_⟩
 repeat' ((conv=>whnf);refine bm (fun h1=>?_) (fun h1=>?_))
 all_goals try (simp only [aA,aB,aI,q2] at h1;simp at h1;omega)
 (conv=>whnf);have e:d+1 - 2*(d.tmod 2)=d+1 - 2*(d % 2):=(by rw [q2]);refine⟨l,m,aBH aP rfl,aC aS rfl,?_⟩;((conv=>whnf);refine bm (fun h2=>?_) (fun h2=>?_))
 ·(conv=>whnf);show iv (bS m (d+1 - 2*(d.tmod 2)))=iv (iH m d);rw [e];rfl
 ·have h2:mE m (d+1 - 2*(d.tmod 2))=false:=h2;rw [e,hd2] at h2;cases h2
end Go.Aw
end
