/-
  Parts of a proof. No condition.
-/
import Derived.Test.YtmkcjbpekejgdaaGreatQAy
set_option linter.unusedSimpArgs false
set_option linter.unusedVariables false
namespace Go.Aw
theorem kind_sym (a b c d:Int):kindS a b c d=kindS c d a b:=by
 unfold kindS
 simp only [Or.comm (a:=0<c*d),And.comm (a:=c=0∨d=0),Or.comm (a:=c=0∨d=0)]
def back (t:Sg):Sg:=(t.2,t.1)
theorem ends_key (s:Sg)(hs:rightG s=true):rightS (endsS s).1=true∧rightS (endsS s).2=true∧key (endsS s).1<key (endsS s).2:=by
 obtain⟨r1,r2,ns⟩:=right_two hs
 have n12:key s.1≠key s.2:=(eqP_keyf r1 r2).1 ((eqP_f _ _).2 ns)
 unfold endsS
 simp only [ord_key r1 r2,cmp_gt]
 by_cases h:key s.2<key s.1
 ·rw [if_pos h];exact⟨r2,r1,h⟩
 ·rw [if_neg h];exact⟨r1,r2,by simp only;omega⟩
theorem low_key (s t:Sg)(hs:rightG s=true)(ht:rightG t=true):rightS (lowS s t)=true∧key (lowS s t)=max (key (endsS s).1) (key (endsS t).1):=by
 obtain⟨ra1,ra2,_⟩:=ends_key s hs
 obtain⟨rb1,rb2,_⟩:=ends_key t ht
 unfold lowS
 simp only [ord_key ra1 rb1,cmp_lt]
 by_cases hk:key (endsS s).1<key (endsS t).1
 ·rw [if_pos hk];exact⟨rb1,by omega⟩
 ·rw [if_neg hk];exact⟨ra1,by omega⟩
theorem high_key (s t:Sg)(hs:rightG s=true)(ht:rightG t=true):rightS (highS s t)=true∧key (highS s t)=min (key (endsS s).2) (key (endsS t).2):=by
 obtain⟨ra1,ra2,_⟩:=ends_key s hs
 obtain⟨rb1,rb2,_⟩:=ends_key t ht
 unfold highS
 simp only [ord_key rb2 ra2,cmp_lt]
 by_cases hk:key (endsS t).2<key (endsS s).2
 ·rw [if_pos hk];exact⟨rb2,by omega⟩
 ·rw [if_neg hk];exact⟨ra2,by omega⟩
theorem meet_sym (s t:Sg)(hs:rightG s=true)(ht:rightG t=true):meetS t s=meetS s t:=by
 have ns:=(right_two hs).2.2
 have nt:=(right_two ht).2.2
 unfold meetS
 by_cases h:turnS s.1 s.2 t.1=0∧turnS s.1 s.2 t.2=0
 ·rw [if_pos h,if_pos (same_line t s ns h),ord_key (low_key t s ht hs).1 (high_key t s ht hs).1,ord_key (low_key s t hs ht).1 (high_key s t hs ht).1,(low_key t s ht hs).2,(high_key t s ht hs).2,(low_key s t hs ht).2,(high_key s t hs ht).2,Int.max_comm,Int.min_comm]
 ·rw [if_neg h,if_neg fun h'=>h (same_line s t nt h'),kind_sym]
end Go.Aw

noncomputable section
namespace Go.Aw
set_option maxRecDepth 100000
def edgeS (l:List (Int × Int))(i:Nat):Sg:=(at2 l i,at2 l ((i+1) % l.length))
def SEdge (l:List (Int × Int)):List Value→Option (Bool × Value)
 |[.int .i64 j]=>some (decide (0≤j)&&decide (j<l.length)&&decide (l.length≤1000000000),sgv (edgeS l j.toNat))
 |_=>none
theorem SEdge_inv {l:List (Int × Int)}{r:List Value}{v:Value}(hs:SEdge l r=some (true,v)):∃ (i:Nat) (j:Int),j=i∧r=[iv j]∧i<l.length∧l.length≤1000000000∧v=sgv (edgeS l i):=by
 unfold SEdge at hs
 split at hs
 ·rename_i j
  injection hs with hs;injection hs with h1 h2
  simp only [Bool.and_eq_true,decide_eq_true_eq] at h1
  refine⟨j.toNat,j,by omega,rfl,by omega,h1.2,h2.symm⟩
 ·cases hs
theorem cA_rem (a b:Int):cfgS.A.rem a b=a.tmod b:=rfl
theorem tmod_nat {i n:Nat}:((i:Int)+1).tmod (n:Int)=((i+1) % n:Nat):=by
 rw [show (i:Int)+1=((i+1:Nat):Int) from rfl]
 exact (Int.ofNat_tmod (i+1) n).symm
def X81:Nat × XF:=(57,lX elP SEdge)
theorem x81:XOK Go.Proofs.Tryz.prog X81.1 X81.2:=lX_ok elP (body_calls (xl:=[]) .nil) fun l r v hs=>by
 obtain⟨i,j,hj,rfl,hlt,hlen,rfl⟩:=SEdge_inv hs
 refine⟨rfl,rfl,fun c=>?_⟩
 have h0:0<l.length:=by omega
 have hm:(i+1) % l.length<l.length:=Nat.mod_lt _ h0
 have ht:(j+1).tmod (l.length:Int)=((i+1) % l.length:Nat):=by rw [hj];exact tmod_nat
 unfold edgeS
 ((conv=>whnf);refine bm (fun g=>?_) (fun g=>?_))
 ·(conv=>whnf)
  refine boL (getP l hlt ?_) ?_
  ·simp [cfgS,std];omega
  ((conv=>whnf);refine bm (fun g1=>?_) (fun g1=>?_))
  ·((conv=>whnf);refine bm (fun g2=>?_) (fun g2=>?_))
   ·((conv=>whnf);refine bm (fun g3=>?_) (fun g3=>?_))
    ·(conv=>whnf)
     refine boL (getP l hm ?_) ?_
     ·show 0+((j+1).tmod (l.length:Int)).toNat*2=_
      rw [ht,Int.toNat_natCast,Nat.zero_add]
     (conv=>whnf)
     rfl
    ·simp only [cA_rem,cA_lt,cA_le,cA_andB,cA_num,cA_add,Bool.eq_false_iff,ne_eq,Bool.and_eq_true,decide_eq_true_eq] at g3;omega
   ·simp only [cA_notB,cA_eq,cA_num,Bool.not_eq_false',decide_eq_true_eq] at g2;omega
  ·simp only [cA_add,cA_fits,fitsK,Bool.eq_false_iff,ne_eq,Bool.and_eq_true,decide_eq_true_eq] at g1;omega
 ·simp only [cA_lt,cA_le,cA_andB,cA_num,Bool.eq_false_iff,ne_eq,Bool.and_eq_true,decide_eq_true_eq] at g;omega
def X84:Nat × XF:=(61,lX elP SEdge)
theorem x84:XOK Go.Proofs.Tryz.prog X84.1 X84.2:=lX_ok elP (body_calls (xl:=[]) .nil) fun l r v hs=>by
 obtain⟨i,j,hj,rfl,hlt,hlen,rfl⟩:=SEdge_inv hs
 refine⟨rfl,rfl,fun c=>?_⟩
 have h0:0<l.length:=by omega
 have hm:(i+1) % l.length<l.length:=Nat.mod_lt _ h0
 have ht:(j+1).tmod (l.length:Int)=((i+1) % l.length:Nat):=by rw [hj];exact tmod_nat
 unfold edgeS
 ((conv=>whnf);refine bm (fun g=>?_) (fun g=>?_))
 ·(conv=>whnf)
  refine boL (getP l hlt ?_) ?_
  ·simp [cfgS,std];omega
  ((conv=>whnf);refine bm (fun g1=>?_) (fun g1=>?_))
  ·((conv=>whnf);refine bm (fun g2=>?_) (fun g2=>?_))
   ·((conv=>whnf);refine bm (fun g3=>?_) (fun g3=>?_))
    ·(conv=>whnf)
     refine boL (getP l hm ?_) ?_
     ·show 0+((j+1).tmod (l.length:Int)).toNat*2=_
      rw [ht,Int.toNat_natCast,Nat.zero_add]
     (conv=>whnf)
     rfl
    ·simp only [cA_rem,cA_lt,cA_le,cA_andB,cA_num,cA_add,Bool.eq_false_iff,ne_eq,Bool.and_eq_true,decide_eq_true_eq] at g3;omega
   ·simp only [cA_notB,cA_eq,cA_num,Bool.not_eq_false',decide_eq_true_eq] at g2;omega
  ·simp only [cA_add,cA_fits,fitsK,Bool.eq_false_iff,ne_eq,Bool.and_eq_true,decide_eq_true_eq] at g1;omega
 ·simp only [cA_lt,cA_le,cA_andB,cA_num,Bool.eq_false_iff,ne_eq,Bool.and_eq_true,decide_eq_true_eq] at g;omega
end Go.Aw
end

noncomputable section
namespace Go.Aw
set_option maxRecDepth 100000
theorem sEta (s:Sg):(s.1,s.2)=s:=rfl
def wantS (i k n:Nat):Int:=if k=i+1∨(i=0∧k=n - 1) then 1 else 0
def okE (l:List (Int × Int))(i k:Nat):Prop:=meetS (edgeS l i) (edgeS l k)=wantS i k l.length
def simpleP (l:List (Int × Int)):Prop:=∀ i k,i<k→k<l.length→okE l i k
open Classical in
def simpleB (l:List (Int × Int)):Bool:=decide (simpleP l)
def goodP (l:List (Int × Int)):Prop:=3≤l.length∧l.length≤200∧l.all rightS=true∧l.Nodup
open Classical in
def goodL (l:List (Int × Int)):Bool:=decide (goodP l)
theorem goodL_iff {l:List (Int × Int)}:goodL l=true↔goodP l:=by simp [goodL]
theorem simpleB_iff {l:List (Int × Int)}:simpleB l=true↔simpleP l:=by simp [simpleB]
theorem simpleB_f {l:List (Int × Int)}(h:¬ simpleP l):simpleB l=false:=by simp [simpleB,h]
theorem next_lt {l:List (Int × Int)}(h:0<l.length)(i:Nat):(i+1) % l.length<l.length:=Nat.mod_lt _ h
theorem next_ne {n i:Nat}(hn:2≤n)(hi:i<n):i≠(i+1) % n:=by
 by_cases h:i+1=n
 ·rw [h,Nat.mod_self];omega
 ·rw [Nat.mod_eq_of_lt (by omega)];omega
theorem nodup_get {l:List (Int × Int)}(h:l.Nodup){i k:Nat}(hi:i<l.length)(hk:k<l.length)(e:l[i]=l[k]):i=k:=by
 have hp:=List.pairwise_iff_getElem.1 h
 by_cases h1:i<k
 ·exact absurd e (hp i k hi hk h1)
 ·by_cases h2:k<i
  ·exact absurd e.symm (hp k i hk hi h2)
  ·omega
theorem nodup_at {l:List (Int × Int)}(h:l.Nodup){i k:Nat}(hi:i<l.length)(hk:k<l.length)(e:at2 l i=at2 l k):i=k:=by
 rw [at2_eq hi,at2_eq hk] at e
 exact nodup_get h hi hk e
theorem edge_right {l:List (Int × Int)}(h:goodP l){i:Nat}(hi:i<l.length):rightG (edgeS l i)=true:=by
 obtain⟨h3,h200,hr,hnd⟩:=h
 have hn:=next_lt (l:=l) (by omega) i
 have ra:=all_at hr hi
 have rb:=all_at hr hn
 simp only [rightG,edgeS,Bool.and_eq_true,Bool.not_eq_true']
 refine⟨⟨ra,rb⟩,(eqP_f _ _).2 fun e=>?_⟩
 exact next_ne (n:=l.length) (by omega) hi (nodup_at hnd hi hn e)
def S82 (l:List (Int × Int)):List Value→Option (Bool × Value)
 |[]=>some (goodL l,.bool (simpleB l))
 |_=>none
theorem S82_inv {l:List (Int × Int)}{r:List Value}{v:Value}(hs:S82 l r=some (true,v)):r=[]∧goodP l∧v=.bool (simpleB l):=by
 unfold S82 at hs
 split at hs
 ·injection hs with hs;injection hs with h1 h2;exact⟨rfl,goodL_iff.1 h1,h2.symm⟩
 ·cases hs
def hP (l:List (Int × Int)):Heap:=[(0,.cells false true 2 (flat elP.fl l))]
def eO82 (l:List (Int × Int))(c:Nat)(j:Int):List (Nat × Value):=[(0,.slice (some ⟨0,0,none⟩) l.length c),(3,iv l.length),(4,iv j)]
def eI82 (l:List (Int × Int))(c:Nat)(j m:Int):List (Nat × Value):=[(0,.slice (some ⟨0,0,none⟩) l.length c),(3,iv l.length),(4,iv j),(5,iv m)]
def X82:Nat × XF:=(59,lX elP S82)
attribute [local irreducible] meetS edgeS in
theorem x82:XOK Go.Proofs.Tryz.prog X82.1 X82.2:=lX_ok elP (body_calls (xl:=[X84,X72']) (.cons x84 (.cons x72' .nil))) fun l r v hs=>by
 obtain⟨rfl,hgood,rfl⟩:=S82_inv hs
 refine⟨rfl,rfl,fun c=>?_⟩
 have h3:=hgood.1
 have h200:=hgood.2.1
 (conv=>whnf)
 refine⟨fun n e h nx=>∃ (i:Nat) (j:Int),j=i∧i≤l.length∧n=l.length - i∧(∀ i' k,i'<i→i'<k→k<l.length→okE l i' k)∧e=eO82 l c j∧h=hP l∧nx=1,⟨l.length,?_⟩,?_⟩
 ·refine Into_id (e0:=eO82 l c 0) (h0:=hP l) (n0:=1) ⟨0,0,rfl,Nat.zero_le _,rfl,fun _ _ h=>absurd h (Nat.not_lt_zero _),rfl,rfl,rfl⟩ ?_ ?_ (Nat.le_refl _)
  ·unfold eO82
   ((repeat' refine iE rfl rfl ?_);exact iN)
  ·unfold hP
   ((repeat'(first|refine iF rfl rfl ?_|refine iJ rfl rfl rfl rfl ?_));exact iN)
 ·rintro n e h nx ⟨i,j,hj,hi,rfl,hb,rfl,rfl,rfl⟩
  unfold eO82 hP
  ((conv=>whnf);refine bm (fun g1=>?_) (fun g1=>?_))
  ·have hlt:i<l.length:=by simp [cfgS,std] at g1;omega
   ((conv=>whnf);refine bm (fun g2=>?_) (fun g2=>?_))
   ·(conv=>whnf)
    refine⟨fun n e h nx=>∃ (k:Nat) (m:Int),m=k∧i<k∧k≤l.length∧n=l.length - k∧(∀ k',i<k'→k'<k→okE l i k')∧e=eI82 l c j m∧h=hP l∧nx=1,⟨l.length - (i+1),?_⟩,?_⟩
    ·refine Into_id (e0:=eI82 l c j (j+1)) (h0:=hP l) (n0:=1) ⟨i+1,j+1,by omega,Nat.lt_succ_self _,hlt,rfl,fun k' h1 h2=>by omega,rfl,rfl,rfl⟩ ?_ ?_ (Nat.le_refl _)
     ·unfold eI82
      ((repeat' refine iE rfl rfl ?_);exact iN)
     ·unfold hP
      ((repeat'(first|refine iF rfl rfl ?_|refine iJ rfl rfl rfl rfl ?_));exact iN)
    ·rintro n e h nx ⟨k,m,hm,hik,hk,rfl,hbk,rfl,rfl,rfl⟩
     unfold eI82 hP
     ((conv=>whnf);refine bm (fun f1=>?_) (fun f1=>?_))
     ·have hltk:k<l.length:=by simp [cfgS,std] at f1;omega
      have ra:=edge_right hgood hlt
      have rb:=edge_right hgood hltk
      have hji:j.toNat=i:=by omega
      have hmk:m.toNat=k:=by omega
      (conv=>whnf)
      refine⟨l,LsAt_own elP rfl,?_⟩
      ((conv=>whnf);refine bm (fun g3=>?_) (fun g3=>?_))
      ·(conv=>whnf)
       refine⟨l,LsAt_own elP rfl,?_⟩
       ((conv=>whnf);refine bm (fun g4=>?_) (fun g4=>?_))
       ·((conv=>whnf);refine bm (fun g5=>?_) (fun g5=>?_))
        ·repeat' ((conv=>whnf);refine bm (fun g=>?_) (fun g=>?_))
         all_goals (conv=>whnf)
         all_goals (simp only [cA_eq,cA_eqB,cA_notB,cA_add,cA_sub,cA_fits,cA_num,fitsK,Bool.not_eq_true',Bool.not_eq_false',beq_iff_eq,beq_eq_false_iff_ne,ne_eq,decide_eq_true_eq,decide_eq_false_iff_not,pEta,sEta,hji,hmk] at *)
         all_goals first
          |(refine congrArg Value.bool (simpleB_f fun hh=>?_).symm
            have hh:=hh i k hik hltk
            unfold okE wantS at hh
            split at hh <;> omega)
          |(refine⟨l.length - (k+1),by omega,?_⟩
            refine Into_id (e0:=eI82 l c j (m+1)) (h0:=hP l) (n0:=1) ⟨k+1,m+1,by omega,by omega,hltk,rfl,fun k' h1 h2=>?_,rfl,rfl,rfl⟩ ?_ ?_ (Nat.le_refl _)
            ·by_cases hkk:k'=k
             ·subst hkk
              unfold okE wantS
              split <;> omega
             ·exact hbk k' h1 (by omega)
            ·unfold eI82
             ((repeat' refine iE rfl rfl ?_);exact iN)
            ·unfold hP
             ((repeat'(first|refine iF rfl rfl ?_|refine iJ rfl rfl rfl rfl ?_));exact iN))
          |(exfalso;simp only [Bool.and_eq_false_iff,decide_eq_false_iff_not] at *;omega)
          |trace_state
        ·exfalso;simp only [pEta,sEta,hji,hmk,rightT,ra,rb] at g5;cases g5
       ·exfalso;simp only [Bool.and_eq_false_iff,decide_eq_false_iff_not] at g4;omega
      ·exfalso;simp only [Bool.and_eq_false_iff,decide_eq_false_iff_not] at g3;omega
     ·have hge:k=l.length:=by simp [cfgS,std] at f1;omega
      ((conv=>whnf);refine bm (fun g=>?_) (fun g=>?_))
      ·(conv=>whnf)
       refine⟨l.length - (i+1),by omega,?_⟩
       refine Into_id (e0:=eO82 l c (j+1)) (h0:=hP l) (n0:=1) ⟨i+1,j+1,by omega,hlt,rfl,fun i' k' h1 h2 h3=>?_,rfl,rfl,rfl⟩ ?_ ?_ (Nat.le_refl _)
       ·by_cases hii:i'=i
        ·subst hii
         exact hbk k' h2 (by omega)
        ·exact hb i' k' (by omega) h2 h3
       ·unfold eO82
        ((repeat' refine iE rfl rfl ?_);exact iN)
       ·unfold hP
        ((repeat'(first|refine iF rfl rfl ?_|refine iJ rfl rfl rfl rfl ?_));exact iN)
      ·exfalso;simp only [cA_add,cA_fits,fitsK,Bool.eq_false_iff,ne_eq,Bool.and_eq_true,decide_eq_true_eq] at g;omega
   ·exfalso;simp only [cA_add,cA_fits,fitsK,Bool.eq_false_iff,ne_eq,Bool.and_eq_true,decide_eq_true_eq] at g2;omega
  ·have hge:i=l.length:=by simp [cfgS,std] at g1;omega
   subst hge
   (conv=>whnf)
   rw [show simpleB l=true from simpleB_iff.2 fun i' k h1 h2=>hb i' k (by omega) h1 h2]
end Go.Aw
end

noncomputable section
namespace Go.Aw
set_option maxRecDepth 100000
def nxt (l:List (Int × Int))(i:Nat):Int × Int:=at2 l ((i+1) % l.length)
def areaI (l:List (Int × Int)):Nat→Int
 |0=>0
 |i+1=>areaI l i+((at2 l i).1*(nxt l i).2 - (nxt l i).1*(at2 l i).2)
theorem areaI_B {l:List (Int × Int)}(h:l.all rightS=true):∀ i,i≤l.length→-(200000000*i)≤areaI l i∧areaI l i≤200000000*(i:Int)
 |0,_=>by simp [areaI]
 |i+1,hi=>by
  have ih:=areaI_B h i (by omega)
  have r1:=right_low (all_at h (i:=i) (by omega))
  have r2:=right_low (all_at h (Nat.mod_lt (i+1) (show 0<l.length by omega)))
  have m1:=mulB (a:=(at2 l i).1) (b:=(nxt l i).2) (A:=10000) (B:=10000) (by omega) (by omega) (by unfold nxt;omega) (by unfold nxt;omega)
  have m2:=mulB (a:=(nxt l i).1) (b:=(at2 l i).2) (A:=10000) (B:=10000) (by unfold nxt;omega) (by unfold nxt;omega) (by omega) (by omega)
  unfold areaI
  omega
def S83 (l:List (Int × Int)):List Value→Option (Bool × Value)
 |[]=>some (decide (l.length≤400)&&l.all rightS,iv (areaI l l.length))
 |_=>none
theorem S83_inv {l:List (Int × Int)}{r:List Value}{v:Value}(hs:S83 l r=some (true,v)):r=[]∧l.length≤400∧l.all rightS=true∧v=iv (areaI l l.length):=by
 unfold S83 at hs
 split at hs
 ·injection hs with hs;injection hs with h1 h2
  simp only [Bool.and_eq_true,decide_eq_true_eq] at h1
  exact⟨rfl,h1.1,h1.2,h2.symm⟩
 ·cases hs
def e83 (l:List (Int × Int))(c:Nat)(s j:Int):List (Nat × Value):=[(0,.slice (some ⟨0,0,none⟩) l.length c),(3,iv s),(7,.slice (some ⟨0,0,none⟩) l.length c),(8,iv l.length),(9,iv j)]
def X83:Nat × XF:=(60,lX elP S83)
attribute [local irreducible] areaI in
theorem x83:XOK Go.Proofs.Tryz.prog X83.1 X83.2:=lX_ok elP (body_calls (xl:=[]) .nil) fun l r v hs=>by
 obtain⟨rfl,hlen,hall,rfl⟩:=S83_inv hs
 refine⟨rfl,rfl,fun c=>?_⟩
 (conv=>whnf)
 refine⟨fun n e h nx=>∃ (i:Nat) (j s:Int),j=i∧i≤l.length∧n=l.length - i∧s=areaI l i∧e=e83 l c s j∧h=hP l∧nx=1,⟨l.length,?_⟩,?_⟩
 ·refine Into_id (e0:=e83 l c 0 0) (h0:=hP l) (n0:=1) ⟨0,0,0,rfl,Nat.zero_le _,rfl,by unfold areaI;rfl,rfl,rfl,rfl⟩ ?_ ?_ (by decide)
  ·unfold e83
   ((repeat' refine iE rfl rfl ?_);exact iN)
  ·unfold hP
   ((repeat'(first|refine iF rfl rfl ?_|refine iJ rfl rfl rfl rfl ?_));exact iN)
 ·rintro n e h nx ⟨i,j,s,hj,hi,rfl,hs',rfl,rfl,rfl⟩
  unfold e83 hP
  have hB:=areaI_B hall i hi
  ((conv=>whnf);refine bm (fun g1=>?_) (fun g1=>?_))
  ·have hlt:i<l.length:=by simp [cfgS,std] at g1;omega
   have hm:(i+1) % l.length<l.length:=Nat.mod_lt _ (by omega)
   have ht:(j+1).tmod (l.length:Int)=((i+1) % l.length:Nat):=by rw [hj];exact tmod_nat
   have r1:=right_low (all_at hall hlt)
   have r2:=right_low (all_at hall hm)
   have m1:=mulB (a:=(at2 l i).1) (b:=(at2 l ((i+1) % l.length)).2) (A:=10000) (B:=10000) (by omega) (by omega) (by omega) (by omega)
   have m2:=mulB (a:=(at2 l ((i+1) % l.length)).1) (b:=(at2 l i).2) (A:=10000) (B:=10000) (by omega) (by omega) (by omega) (by omega)
   repeat' first
    |(((conv=>whnf);refine bm (fun g=>?_) (fun g=>?_)))
    |((conv=>whnf)
      refine boL (getP l hlt ?_) ?_
      ·simp [cfgS,std];omega)
    |((conv=>whnf)
      refine boL (getP l hm ?_) ?_
      ·show 0+((j+1).tmod (l.length:Int)).toNat*2=_
       rw [ht,Int.toNat_natCast,Nat.zero_add])
   all_goals (conv=>whnf)
   all_goals (try (simp only [cA_rem,cA_mul,cA_add,cA_sub,cA_lt,cA_le,cA_eq,cA_notB,cA_andB,cA_num,cA_fits] at g g1))
   all_goals first
    |(refine⟨l.length - (i+1),by omega,?_⟩
      refine Into_id (e0:=e83 l c (s+((at2 l i).1*(at2 l ((i+1) % l.length)).2 - (at2 l ((i+1) % l.length)).1*(at2 l i).2)) (j+1)) (h0:=hP l) (n0:=1) ⟨i+1,j+1,s+((at2 l i).1*(at2 l ((i+1) % l.length)).2 - (at2 l ((i+1) % l.length)).1*(at2 l i).2),by omega,hlt,rfl,?_,rfl,rfl,rfl⟩ ?_ ?_ (by decide)
      ·rw [areaI,hs'];rfl
      ·unfold e83
       ((repeat' refine iE rfl rfl ?_);exact iN)
      ·unfold hP
       ((repeat'(first|refine iF rfl rfl ?_|refine iJ rfl rfl rfl rfl ?_));exact iN))
    |(exfalso;simp only [fitsK,Bool.and_eq_false_iff,Bool.not_eq_false',decide_eq_false_iff_not,decide_eq_true_eq] at g;omega)
    |trace_state
  ·have hge:i=l.length:=by simp [cfgS,std] at g1;omega
   subst hge
   (conv=>whnf)
   rw [hs']
end Go.Aw
end

noncomputable section
namespace Go.Aw
set_option maxRecDepth 100000
def Area2V (l:List (Int × Int)):Int:=if l.length≤400∧l.all rightS=true then areaI l l.length else 0
def SArea2 (l:List (Int × Int)):List Value→Option (Bool × Value)
 |[]=>some (decide (l.length≤1000000000),iv (Area2V l))
 |_=>none
theorem SArea2_inv {l:List (Int × Int)}{r:List Value}{v:Value}(hs:SArea2 l r=some (true,v)):r=[]∧l.length≤1000000000∧v=iv (Area2V l):=by
 unfold SArea2 at hs
 split at hs
 ·injection hs with hs;injection hs with h1 h2;exact⟨rfl,by simpa using h1,h2.symm⟩
 ·cases hs
def e35 (l:List (Int × Int))(c:Nat)(s j:Int):List (Nat × Value):=[(0,.slice (some ⟨0,0,none⟩) l.length c),(4,iv s),(5,iv j)]
def X35:Nat × XF:=(19,lX elP SArea2)
attribute [local irreducible] areaI in
theorem x35:XOK Go.Proofs.Tryz.prog X35.1 X35.2:=lX_ok elP (body_calls (xl:=[X80,X84]) (.cons x80 (.cons x84 .nil))) fun l r v hs=>by
 obtain⟨rfl,hlen,rfl⟩:=SArea2_inv hs
 refine⟨rfl,rfl,fun c=>?_⟩
 (conv=>whnf)
 refine⟨l,LsAt_own elP rfl,?_⟩
 ((conv=>whnf);refine bm (fun h0=>?_) (fun h0=>?_))
 ·((conv=>whnf);refine bm (fun h1=>?_) (fun h1=>?_))
  ·((conv=>whnf);refine bm (fun h2=>?_) (fun h2=>?_))
   ·(conv=>whnf)
    have h:¬ (l.length≤400∧l.all rightS=true):=by
     simp only [cA_lt,cA_num,decide_eq_true_eq] at h2
     intro h;omega
    rw [Area2V,if_neg h]
    rfl
   ·have hall:l.all rightS=true:=by
     simp only [cA_eqB,cA_notB,beq_iff_eq,Bool.not_eq_false'] at h1
     exact h1
    have h400:l.length≤400:=by simp only [cA_lt,cA_num,decide_eq_false_iff_not] at h2;omega
    have hv:Area2V l=areaI l l.length:=by rw [Area2V,if_pos ⟨h400,hall⟩]
    rw [hv]
    (conv=>whnf)
    refine⟨fun n e h nx=>∃ (i:Nat) (j s:Int),j=i∧i≤l.length∧n=l.length - i∧s=areaI l i∧e=e35 l c s j∧h=hP l∧nx=1,⟨l.length,?_⟩,?_⟩
    ·refine Into_id (e0:=e35 l c 0 0) (h0:=hP l) (n0:=1) ⟨0,0,0,rfl,Nat.zero_le _,rfl,by unfold areaI;rfl,rfl,rfl,rfl⟩ ?_ ?_ (by decide)
     ·unfold e35
      ((repeat' refine iE rfl rfl ?_);exact iN)
     ·unfold hP
      ((repeat'(first|refine iF rfl rfl ?_|refine iJ rfl rfl rfl rfl ?_));exact iN)
    ·rintro n e h nx ⟨i,j,s,hj,hi,rfl,hs',rfl,rfl,rfl⟩
     unfold e35 hP
     have hB:=areaI_B hall i hi
     ((conv=>whnf);refine bm (fun g1=>?_) (fun g1=>?_))
     ·have hlt:i<l.length:=by simp [cfgS,std] at g1;omega
      have hm:(i+1) % l.length<l.length:=Nat.mod_lt _ (by omega)
      have hji:j.toNat=i:=by omega
      have r1:=right_low (all_at hall hlt)
      have r2:=right_low (all_at hall hm)
      have m1:=mulB (a:=(at2 l i).1) (b:=(at2 l ((i+1) % l.length)).2) (A:=10000) (B:=10000) (by omega) (by omega) (by omega) (by omega)
      have m2:=mulB (a:=(at2 l ((i+1) % l.length)).1) (b:=(at2 l i).2) (A:=10000) (B:=10000) (by omega) (by omega) (by omega) (by omega)
      (conv=>whnf)
      refine⟨l,LsAt_own elP rfl,?_⟩
      ((conv=>whnf);refine bm (fun g2=>?_) (fun g2=>?_))
      ·repeat' ((conv=>whnf);refine bm (fun g=>?_) (fun g=>?_))
       all_goals (conv=>whnf)
       all_goals (try (simp only [cA_rem,cA_mul,cA_add,cA_sub,cA_fits,edgeS,hji] at g))
       all_goals first
        |(refine⟨l.length - (i+1),by omega,?_⟩
          rw [hji]
          refine Into_id (e0:=e35 l c (s+(at2 l i).1*(at2 l ((i+1) % l.length)).2 - (at2 l ((i+1) % l.length)).1*(at2 l i).2) (j+1)) (h0:=hP l) (n0:=1) ⟨i+1,j+1,s+(at2 l i).1*(at2 l ((i+1) % l.length)).2 - (at2 l ((i+1) % l.length)).1*(at2 l i).2,by omega,hlt,rfl,?_,rfl,rfl,rfl⟩ ?_ ?_ (by decide)
          ·rw [areaI,hs'];unfold nxt;omega
          ·unfold e35
           ((repeat' refine iE rfl rfl ?_);exact iN)
          ·unfold hP
           ((repeat'(first|refine iF rfl rfl ?_|refine iJ rfl rfl rfl rfl ?_));exact iN))
        |(exfalso;simp only [fitsK,Bool.and_eq_false_iff,Bool.not_eq_false',decide_eq_false_iff_not,decide_eq_true_eq] at g;omega)
        |trace_state
      ·exfalso;simp only [Bool.and_eq_false_iff,decide_eq_false_iff_not] at g2;simp only [cA_lt,cA_num,decide_eq_true_eq] at g1;omega
     ·have hge:i=l.length:=by simp [cfgS,std] at g1;omega
      subst hge
      (conv=>whnf)
      rw [hs']
  ·(conv=>whnf)
   have h:¬ (l.length≤400∧l.all rightS=true):=by
    simp only [cA_eqB,cA_notB,beq_eq_false_iff_ne,ne_eq,Bool.not_eq_false,Bool.not_eq_true'] at h1
    rw [h1]
    intro h;cases h.2
   rw [Area2V,if_neg h]
   rfl
 ·exact absurd hlen (by simpa using h0)
end Go.Aw
end

noncomputable section
namespace Go.Aw
set_option maxRecDepth 100000
def minI (l:List (Int × Int)):Nat→Int × Int
 |0=>at2 l 0
 |i+1=>if ordS (at2 l (i+1)) (minI l i)<0 then at2 l (i+1) else minI l i
def fn106:Value:=.func (.func 78) #[] #[]
def S125 (l:List (Int × Int)):List Value→Option (Bool × Value)
 |[.func (.func 78) ⟨[]⟩ ⟨[]⟩]=>some (decide (0<l.length)&&decide (l.length≤1000000000),ptv (minI l (l.length - 1)))
 |_=>none
theorem S125_inv {l:List (Int × Int)}{r:List Value}{v:Value}(h:S125 l r=some (true,v)):r=[fn106]∧0<l.length∧l.length≤1000000000∧v=ptv (minI l (l.length - 1)):=by
 unfold S125 at h
 split at h
 ·injection h with h
  injection h with h1 h2
  simp only [Bool.and_eq_true,decide_eq_true_eq] at h1
  exact⟨rfl,h1.1,h1.2,h2.symm⟩
 ·cases h
def e125 (l:List (Int × Int))(c:Nat)(j:Int):List (Nat × Value):=[(0,.slice (some ⟨0,0,none⟩) l.length c),(1,fn106),(4,.pointer (some ⟨1,0,none⟩)),(5,.pointer (some ⟨2,0,none⟩)),(6,iv j)]
def h125 (l:List (Int × Int))(m:Int × Int):Heap:=[(0,.cells false true 2 (flat elP.fl l)),(1,.cells true false 1 [iv 0,iv 0]),(2,.cells true false 1 [iv m.1,iv m.2])]
def X125:Nat × XF:=(131,lX elP S125)
attribute [local irreducible] ordS minI in
theorem x125:XOK Go.Proofs.Tryz.prog X125.1 X125.2:=lX_ok elP (body_calls (xl:=[X106]) (.cons x106 .nil)) fun l r v hs=>by
 obtain⟨rfl,h0,hlen,rfl⟩:=S125_inv hs
 refine⟨rfl,rfl,fun c=>?_⟩
 ((conv=>whnf);refine bm (fun h1=>?_) (fun h1=>?_))
 ·exfalso
  simp only [cA_lt,cA_num,decide_eq_true_eq] at h1
  omega
 ·((conv=>whnf);refine bm (fun h2=>?_) (fun h2=>?_))
  ·(conv=>whnf)
   refine boL (getP l h0 rfl) ?_
   (conv=>whnf)
   refine⟨fun n e h nx=>∃ (i:Nat) (j:Int),j=i∧1≤i∧i≤l.length∧n=l.length - i∧e=e125 l c j∧h=h125 l (minI l (i - 1))∧nx=3,⟨l.length - 1,?_⟩,?_⟩
   ·refine Into_id (e0:=e125 l c 1) (h0:=h125 l (at2 l 0)) (n0:=3) ⟨1,1,rfl,Nat.le_refl _,h0,rfl,rfl,by unfold minI;rfl,rfl⟩ ?_ ?_ (by decide)
    ·unfold e125
     refine List.forall_mem_cons.2 ⟨⟨rfl,by decide,fun h=>by cases h⟩,List.forall_mem_cons.2 ⟨⟨(by show _=some (ren id fn106);rw [ren_g (show gT fn106=true from rfl)];rfl),scT_g rfl⟩,?_⟩⟩
     ((repeat' refine iE rfl rfl ?_);exact iN)
    ·unfold h125
     ((repeat'(first|refine iF rfl rfl ?_|refine iJ rfl rfl rfl rfl ?_));exact iN)
   ·rintro n e h nx ⟨i,j,hj,hi1,hi,rfl,rfl,rfl,rfl⟩
    unfold e125 h125
    ((conv=>whnf);refine bm (fun g1=>?_) (fun g1=>?_))
    ·have hlt:i<l.length:=by simp [cfgS,std] at g1;omega
     have hm:minI l i=if ordS (at2 l i) (minI l (i - 1))<0 then at2 l i else minI l (i - 1):=by
      obtain⟨m,rfl⟩:∃ m,i=m+1:=⟨i - 1,by omega⟩
      conv=>lhs;unfold minI
      rfl
     repeat' first
      |(((conv=>whnf);refine bm (fun g=>?_) (fun g=>?_)))
      |((conv=>whnf)
        refine boL (getP l hlt ?_) ?_
        ·simp [cfgS,std];omega)
     all_goals (conv=>whnf)
     all_goals (simp only [cA_lt,cA_le,cA_andB,cA_num,cA_add,cA_fits,pEta,Bool.and_eq_true,decide_eq_true_eq,decide_eq_false_iff_not] at *)
     all_goals first
      |(skip
        have hv:minI l i=at2 l i:=by
         rw [hm]
         split
         ·first|rfl|(exfalso;omega)
         ·first|rfl|(exfalso;omega)
        refine⟨l.length - (i+1),by omega,?_⟩
        refine Into_id (e0:=e125 l c (j+1)) (h0:=h125 l (at2 l i)) (n0:=3) ⟨i+1,j+1,by omega,by omega,hlt,rfl,rfl,by rw [Nat.add_sub_cancel,hv];rfl,rfl⟩ ?_ ?_ (by decide)
        ·unfold e125
         refine List.forall_mem_cons.2 ⟨⟨rfl,by decide,fun h=>by cases h⟩,List.forall_mem_cons.2 ⟨⟨(by show _=some (ren id fn106);rw [ren_g (show gT fn106=true from rfl)];rfl),scT_g rfl⟩,?_⟩⟩
         ((repeat' refine iE rfl rfl ?_);exact iN)
        ·unfold h125
         ((repeat'(first|refine iF rfl rfl ?_|refine iJ rfl rfl rfl rfl ?_));exact iN)
        done)
      |(skip
        have hv:minI l i=minI l (i - 1):=by
         rw [hm]
         split
         ·first|rfl|(exfalso;omega)
         ·first|rfl|(exfalso;omega)
        refine⟨l.length - (i+1),by omega,?_⟩
        refine Into_id (e0:=e125 l c (j+1)) (h0:=h125 l (minI l (i - 1))) (n0:=3) ⟨i+1,j+1,by omega,by omega,hlt,rfl,rfl,by rw [Nat.add_sub_cancel,hv];rfl,rfl⟩ ?_ ?_ (by decide)
        ·unfold e125
         refine List.forall_mem_cons.2 ⟨⟨rfl,by decide,fun h=>by cases h⟩,List.forall_mem_cons.2 ⟨⟨(by show _=some (ren id fn106);rw [ren_g (show gT fn106=true from rfl)];rfl),scT_g rfl⟩,?_⟩⟩
         ((repeat' refine iE rfl rfl ?_);exact iN)
        ·unfold h125
         ((repeat'(first|refine iF rfl rfl ?_|refine iJ rfl rfl rfl rfl ?_));exact iN)
        done)
      |(exfalso;simp only [fitsK,Bool.and_eq_false_iff,decide_eq_false_iff_not] at *;omega)
      |trace_state
    ·have hge:i=l.length:=by simp [cfgS,std] at g1;omega
     subst hge
     (conv=>whnf)
     rfl
  ·exfalso
   simp only [cA_lt,cA_le,cA_andB,cA_num,Bool.eq_false_iff,ne_eq,Bool.and_eq_true,decide_eq_true_eq] at h2
   omega
end Go.Aw
end

noncomputable section
namespace Go.Aw
set_option maxRecDepth 100000
def argP (l:List (Int × Int)):Prop:=l.length<3∨l.all rightS=false
open Classical in
def polyE (l:List (Int × Int)):Int:=if 200<l.length then 2 else if argP l then 1 else if ¬ l.Nodup then 6 else if simpleB l=true then 0 else 10
theorem polyE_limit {l:List (Int × Int)}(h:200<l.length):polyE l=2:=by rw [polyE,if_pos h]
theorem polyE_arg {l:List (Int × Int)}(h:¬ 200<l.length)(h2:argP l):polyE l=1:=by rw [polyE,if_neg h,if_pos h2]
theorem polyE_twice {l:List (Int × Int)}(h:¬ 200<l.length)(h2:¬ argP l)(h3:¬ l.Nodup):polyE l=6:=by rw [polyE,if_neg h,if_neg h2,if_pos h3]
theorem good_of2 {l:List (Int × Int)}(h:¬ 200<l.length)(h2:¬ argP l)(h3:l.Nodup):goodP l:=by
 unfold argP at h2
 refine⟨by omega,by omega,?_,h3⟩
 cases hb:l.all rightS with
 |true=>rfl
 |false=>exact absurd (.inr hb) h2
theorem polyE_good {l:List (Int × Int)}(h:goodP l):polyE l=if simpleB l=true then 0 else 10:=by
 obtain⟨h1,h2,h3,h4⟩:=h
 have h5:¬ argP l:=by
  unfold argP
  rw [h3]
  rintro (h|h)
  ·omega
  ·cases h
 rw [polyE,if_neg (by omega),if_neg h5,if_neg (fun h=>h h4)]
theorem polyE_ok {l:List (Int × Int)}(h:polyE l=0):goodP l∧simpleP l:=by
 unfold polyE at h
 split at h
 ·cases h
 ·split at h
  ·cases h
  ·split at h
   ·cases h
   ·rename_i h1 h2 h3
    split at h
    ·exact⟨good_of2 h1 h2 (Classical.not_not.1 h3),simpleB_iff.1 (by assumption)⟩
    ·cases h
theorem take_nodup {l:List (Int × Int)}{i:Nat}(hi:i<l.length)(h:(l.take i).Nodup)(hn:∀ k,k<i→at2 l i≠at2 l k):(l.take (i+1)).Nodup:=by
 rw [List.take_add_one,List.getElem?_eq_getElem hi,Option.toList]
 refine List.nodup_append.2 ⟨h,by simp,?_⟩
 intro a ha b hb e
 simp only [List.mem_singleton] at hb
 subst hb
 obtain⟨k,hk,rfl⟩:=List.mem_iff_getElem.1 ha
 simp only [List.length_take] at hk
 rw [List.getElem_take] at e
 refine hn k (by omega) ?_
 rw [at2_eq hi,at2_eq (by omega)]
 exact e.symm
theorem not_nodup {l:List (Int × Int)}{i k:Nat}(hi:i<l.length)(hk:k<i)(e:at2 l i=at2 l k):¬ l.Nodup:=by
 intro h
 have:=nodup_at h hi (show k<l.length by omega) e
 omega
def SPoly (l:List (Int × Int)):List Value→Option (Bool × Value)
 |[]=>some (decide (l.length≤1000000000),iv (polyE l))
 |_=>none
theorem SPoly_inv {l:List (Int × Int)}{r:List Value}{v:Value}(hs:SPoly l r=some (true,v)):r=[]∧l.length≤1000000000∧v=iv (polyE l):=by
 unfold SPoly at hs
 split at hs
 ·injection hs with hs;injection hs with h1 h2;exact⟨rfl,by simpa using h1,h2.symm⟩
 ·cases hs
def eO33 (l:List (Int × Int))(c:Nat)(j:Int):List (Nat × Value):=[(0,.slice (some ⟨0,0,none⟩) l.length c),(4,iv j)]
def eI33 (l:List (Int × Int))(c:Nat)(j m:Int):List (Nat × Value):=[(0,.slice (some ⟨0,0,none⟩) l.length c),(4,iv j),(5,iv m)]
def X33:Nat × XF:=(17,lX elP SPoly)
theorem x33:XOK Go.Proofs.Tryz.prog X33.1 X33.2:=lX_ok elP (body_calls (xl:=[X80,X82]) (.cons x80 (.cons x82 .nil))) fun l r v hs=>by
 obtain⟨rfl,hlen,rfl⟩:=SPoly_inv hs
 refine⟨rfl,rfl,fun c=>?_⟩
 ((conv=>whnf);refine bm (fun h1=>?_) (fun h1=>?_))
 ·(conv=>whnf)
  simp only [cA_lt,cA_num,decide_eq_true_eq] at h1
  rw [polyE_limit (by omega)]
  rfl
 ·have h200:¬ 200<l.length:=by simp only [cA_lt,cA_num,decide_eq_false_iff_not] at h1;omega
  (conv=>whnf)
  refine⟨l,LsAt_own elP rfl,?_⟩
  ((conv=>whnf);refine bm (fun h2=>?_) (fun h2=>?_))
  ·repeat' ((conv=>whnf);refine bm (fun g=>?_) (fun g=>?_))
   ·(conv=>whnf)
    rw [polyE_arg h200 (by
     unfold argP
     rename_i h5
     simp only [cA_eqB,cA_notB,cA_lt,cA_num,decide_eq_true_eq,beq_iff_eq] at *
     omega)]
    rfl
   ·have hna:¬ argP l:=by
     unfold argP
     rename_i h5
     simp only [cA_eqB,cA_notB,cA_lt,cA_num,decide_eq_true_eq,decide_eq_false_iff_not,beq_iff_eq,Bool.not_eq_false'] at *
     rw [h5]
     rintro (h|h)
     ·omega
     ·cases h
    (conv=>whnf)
    refine⟨fun n e h nx=>∃ (i:Nat) (j:Int),j=i∧i≤l.length∧n=l.length - i∧(l.take i).Nodup∧e=eO33 l c j∧h=hP l∧nx=1,⟨l.length,?_⟩,?_⟩
    ·refine Into_id (e0:=eO33 l c 0) (h0:=hP l) (n0:=1) ⟨0,0,rfl,Nat.zero_le _,rfl,by simp,rfl,rfl,rfl⟩ ?_ ?_ (Nat.le_refl _)
     ·unfold eO33
      ((repeat' refine iE rfl rfl ?_);exact iN)
     ·unfold hP
      ((repeat'(first|refine iF rfl rfl ?_|refine iJ rfl rfl rfl rfl ?_));exact iN)
    ·rintro n e h nx ⟨i,j,hj,hi,rfl,hb,rfl,rfl,rfl⟩
     unfold eO33 hP
     ((conv=>whnf);refine bm (fun g1=>?_) (fun g1=>?_))
     ·have hlt:i<l.length:=by simp [cfgS,std] at g1;omega
      (conv=>whnf)
      refine⟨fun n e h nx=>∃ (k:Nat) (m:Int),m=k∧k≤i∧n=i - k∧(∀ k',k'<k→at2 l i≠at2 l k')∧e=eI33 l c j m∧h=hP l∧nx=1,⟨i,?_⟩,?_⟩
      ·refine Into_id (e0:=eI33 l c j 0) (h0:=hP l) (n0:=1) ⟨0,0,rfl,Nat.zero_le _,rfl,fun k' h1=>by omega,rfl,rfl,rfl⟩ ?_ ?_ (Nat.le_refl _)
       ·unfold eI33
        ((repeat' refine iE rfl rfl ?_);exact iN)
       ·unfold hP
        ((repeat'(first|refine iF rfl rfl ?_|refine iJ rfl rfl rfl rfl ?_));exact iN)
      ·rintro n e h nx ⟨k,m,hm,hk,rfl,hbk,rfl,rfl,rfl⟩
       unfold eI33 hP
       ((conv=>whnf);refine bm (fun f1=>?_) (fun f1=>?_))
       ·have hltk:k<i:=by simp [cfgS,std] at f1;omega
        ((conv=>whnf);refine bm (fun g3=>?_) (fun g3=>?_))
        ·(conv=>whnf)
         refine boL (getP l hlt ?_) ?_
         ·simp [cfgS,std];omega
         ((conv=>whnf);refine bm (fun g4=>?_) (fun g4=>?_))
         ·(conv=>whnf)
          refine boL (getP l (i:=k) (by omega) ?_) ?_
          ·simp [cfgS,std];omega
          ((conv=>whnf);refine bm (fun g5=>?_) (fun g5=>?_))
          ·(conv=>whnf)
           have he:at2 l i=at2 l k:=by
            simp only [cA_eq,cA_andB,Bool.and_eq_true,decide_eq_true_eq] at g5
            exact Prod.ext g5.1 g5.2.1
           rw [polyE_twice h200 hna (not_nodup hlt hltk he)]
           rfl
          ·((conv=>whnf);refine bm (fun g6=>?_) (fun g6=>?_))
           ·(conv=>whnf)
            refine⟨i - (k+1),by omega,?_⟩
            refine Into_id (e0:=eI33 l c j (m+1)) (h0:=hP l) (n0:=1) ⟨k+1,m+1,by omega,by omega,rfl,fun k' h1=>?_,rfl,rfl,rfl⟩ ?_ ?_ (Nat.le_refl _)
            ·by_cases hkk:k'=k
             ·subst hkk
              intro he
              have he1:(at2 l i).1=(at2 l k').1:=by rw [he]
              have he2:(at2 l i).2=(at2 l k').2:=by rw [he]
              simp only [cA_eq,cA_andB,he1,he2] at g5
              simp at g5
             ·exact hbk k' (by omega)
            ·unfold eI33
             ((repeat' refine iE rfl rfl ?_);exact iN)
            ·unfold hP
             ((repeat'(first|refine iF rfl rfl ?_|refine iJ rfl rfl rfl rfl ?_));exact iN)
           ·exfalso;simp only [cA_add,cA_fits,fitsK,Bool.eq_false_iff,ne_eq,Bool.and_eq_true,decide_eq_true_eq] at g6;omega
         ·exfalso;simp only [cA_lt,cA_le,cA_andB,cA_num,Bool.eq_false_iff,ne_eq,Bool.and_eq_true,decide_eq_true_eq] at g4;omega
        ·exfalso;simp only [cA_lt,cA_le,cA_andB,cA_num,Bool.eq_false_iff,ne_eq,Bool.and_eq_true,decide_eq_true_eq] at g3;omega
       ·have hge:k=i:=by simp [cfgS,std] at f1;omega
        subst hge
        ((conv=>whnf);refine bm (fun g=>?_) (fun g=>?_))
        ·(conv=>whnf)
         refine⟨l.length - (k+1),by omega,?_⟩
         refine Into_id (e0:=eO33 l c (j+1)) (h0:=hP l) (n0:=1) ⟨k+1,j+1,by omega,hlt,rfl,take_nodup hlt hb hbk,rfl,rfl,rfl⟩ ?_ ?_ (Nat.le_refl _)
         ·unfold eO33
          ((repeat' refine iE rfl rfl ?_);exact iN)
         ·unfold hP
          ((repeat'(first|refine iF rfl rfl ?_|refine iJ rfl rfl rfl rfl ?_));exact iN)
        ·exfalso;simp only [cA_add,cA_fits,fitsK,Bool.eq_false_iff,ne_eq,Bool.and_eq_true,decide_eq_true_eq] at g;omega
     ·have hge:i=l.length:=by simp [cfgS,std] at g1;omega
      subst hge
      rw [List.take_length] at hb
      have hgood:=good_of2 h200 hna hb
      (conv=>whnf)
      refine⟨l,LsAt_own elP rfl,?_⟩
      ((conv=>whnf);refine bm (fun g2=>?_) (fun g2=>?_))
      ·((conv=>whnf);refine bm (fun g3=>?_) (fun g3=>?_))
       ·(conv=>whnf)
        simp only [cA_notB,Bool.not_eq_true'] at g3
        rw [polyE_good hgood,g3]
        rfl
       ·(conv=>whnf)
        simp only [cA_notB,Bool.not_eq_false'] at g3
        rw [polyE_good hgood,g3]
        rfl
      ·exact absurd (goodL_iff.2 hgood) (by rw [show goodL l=false from g2];decide)
   ·(conv=>whnf)
    rw [polyE_arg h200 (by
     unfold argP
     simp only [cA_eqB,cA_notB,beq_eq_false_iff_ne,ne_eq,Bool.not_eq_false] at *
     exact .inr (by simpa using g))]
    rfl
  ·exact absurd hlen (by simpa using h2)
end Go.Aw
end
