/-
  Parts of a proof. No condition.
-/
import Derived.Test.YtmkcjbpekejgdaaGreatQAx
import Derived.Test.YtmkcjbpekejgdaaGreatQBa
import Derived.Test.YtmkcjbpekejgdaaGreatQBb
import Derived.Test.YtmkcjbpekejgdaaGreatQBc
set_option linter.unusedSimpArgs false
set_option linter.unusedVariables false
noncomputable section
namespace Go.Aw
set_option maxRecDepth 100000
def eA50 (n c:Nat)(j:Int):List (Nat × Value):=[(0,.slice (some ⟨0,0,none⟩) n c),(5,iv n),(6,.slice (some ⟨1,0,none⟩) n n),(7,iv j)]
def eB50 (n:Nat)(f j:Int):List (Nat × Value):=[(5,iv n),(6,.slice (some ⟨1,0,none⟩) n n),(8,iv f),(9,iv j)]
def eC50 (n:Nat)(f:Int)(v:Value)(j:Int):List (Nat × Value):=[(5,iv n),(6,.slice (some ⟨1,0,none⟩) n n),(8,iv f),(11,v),(12,iv j)]
def hB50 (o:List (Int × Int)):Heap:=[(1,.cells true false 2 (flat elP.fl o))]
def hC50 (o R:List (Int × Int)):Heap:=[(1,.cells true false 2 (flat elP.fl o)),(2,.cells true false 2 (flat elP.fl R))]
theorem dirI_neg {l:List (Int × Int)}(h:areaI l l.length<0){i:Nat}(hi:i<l.length):at2 (dirI l) i=at2 l (l.length - 1 - i):=by
 unfold dirI
 rw [if_pos h,at2_rev l hi]
theorem dirI_pos {l:List (Int × Int)}(h:¬ areaI l l.length<0):dirI l=l:=by
 unfold dirI
 rw [if_neg h]
theorem fill_pos {l:List (Int × Int)}{i:Nat}{j:Int}(h:¬ areaI l l.length<0)(hj:j=i)(hi:i<l.length):putN (flat elP.fl (fillI l i)) (0+j.toNat*2) [iv (at2 l i).1,iv (at2 l i).2]=flat elP.fl (fillI l (i+1)):=by
 have e:0+j.toNat*2=i*2:=by omega
 rw [e,flat_set _ _ _ (by rw [fillI_len (by omega)];exact hi),← fillI_set hi,dirI_pos h]
theorem fill_neg {l:List (Int × Int)}{i:Nat}{j:Int}(h:areaI l l.length<0)(hj:j=i)(hi:i<l.length):putN (putN (flat elP.fl (fillI l i)) (0+j.toNat*2) [iv (at2 l i).1,iv (at2 l i).2]) (0+j.toNat*2) [iv (at2 l (l.length - 1 - i)).1,iv (at2 l (l.length - 1 - i)).2]=flat elP.fl (fillI l (i+1)):=by
 have e:0+j.toNat*2=i*2:=by omega
 rw [e,flat_set _ _ _ (by rw [fillI_len (by omega)];exact hi),flat_set _ _ _ (by rw [List.length_set,fillI_len (by omega)];exact hi),set_set2,← fillI_set hi,dirI_neg h hi]
def X50:Nat × XF:=(23,rfX elP elP S50)
attribute [local irreducible] turnS areaI polyE norO fillI leastI segI dirI Area2V in
theorem x50:XOK Go.Proofs.Tryz.prog X50.1 X50.2:=rfX_ok elP elP (s:=S50) (f:=23) (body_calls (xl:=[X33,X35,X95,X57]) (.cons x33 (.cons x35 (.cons x95 (.cons x57 .nil))))) fun l r out e hs=>by
 obtain⟨rfl,hlen,rfl,rfl⟩:=S50_inv hs
 refine⟨rfl,fun c=>?_⟩
 clear hs
 (conv=>whnf)
 refine⟨l,LsAt_own elP rfl,?_⟩
 ((conv=>whnf);refine bm (fun h1=>?_) (fun h1=>?_))
 ·((conv=>whnf);refine bm (fun h2=>?_) (fun h2=>?_))
  ·(conv=>whnf)
   have hne:¬ polyE l=0:=by simpa only [cA_eq,cA_notB,Bool.not_eq_true',decide_eq_false_iff_not] using h2
   rw [show norO l=[] by unfold norO;rw [if_neg hne]]
   rfl
  ·have he:polyE l=0:=by simpa only [cA_eq,cA_notB,Bool.not_eq_false',decide_eq_true_eq] using h2
   obtain⟨⟨hl3,hl2,hall,hnd⟩,hsim⟩:=polyE_ok he
   have hA:Area2V l=areaI l l.length:=by unfold Area2V;rw [if_pos ⟨by omega,hall⟩]
   rw [show norO l=norR l by unfold norO;rw [if_pos he],he]
   ((conv=>whnf);refine bm (fun h3=>?_) (fun h3=>?_))
   ·(conv=>whnf)
    refine⟨fun n e h nx=>∃ (i:Nat) (j:Int),j=i∧i≤l.length∧n=l.length - i∧e=eA50 l.length c j∧h=h85 l (fillI l i)∧nx=2,⟨l.length,?_⟩,?_⟩
    ·refine Into_id (e0:=eA50 l.length c 0) (h0:=h85 l (fillI l 0)) (n0:=2) ⟨0,0,rfl,Nat.zero_le _,rfl,rfl,rfl,rfl⟩ ?_ ?_ (by decide)
     ·unfold eA50
      ((repeat' refine iE rfl rfl ?_);exact iN)
     ·unfold h85
      rw [fillI_zero]
      ((repeat'(first|refine iW rfl rfl (ObjRen_j (flat_g elP _) (rep_flat _)) ?_|refine iF rfl rfl ?_|refine iJ rfl rfl rfl rfl ?_));exact iN)
    ·rintro n e h nx ⟨i,j,hj,hi,rfl,rfl,rfl,rfl⟩
     unfold eA50 h85
     ((conv=>whnf);refine bm (fun g1=>?_) (fun g1=>?_))
     ·have hlt:i<l.length:=by simp only [cA_lt,cA_num,decide_eq_true_eq] at g1;omega
      have hlt2:l.length - 1 - i<l.length:=by omega
      have hfl:=fillI_len (l:=l) (i:=i) hi
      repeat' first
       |(((conv=>whnf);refine bm (fun g=>?_) (fun g=>?_)))
       |((conv=>whnf)
         refine boL (getP l hlt ?_) ?_
         ·simp [cfgS,std];omega)
       |((conv=>whnf)
         refine boL (getP l hlt2 ?_) ?_
         ·simp [cfgS,std];omega)
       |((conv=>whnf)
         refine Exists.intro l (And.intro (LsAt_own elP rfl) ?_))
      all_goals (conv=>whnf)
      case refine_1.refine_2.refine_1.refine_2.refine_1.refine_1.refine_2.refine_1.refine_1.refine_1.refine_1.refine_1.refine_1.refine_1.refine_2.refine_1.refine_1.refine_1 =>
       rename_i gs _ _ _ _ _
       have hs:areaI l l.length<0:=by
        rw [← hA]
        simpa only [cA_lt,decide_eq_true_eq] using gs
       refine⟨l.length - (i+1),by omega,?_⟩
       refine Into_id (e0:=eA50 l.length c (j+1)) (h0:=h85 l (fillI l (i+1))) (n0:=2) ⟨i+1,j+1,by omega,by omega,rfl,rfl,rfl,rfl⟩ ?_ ?_ (by decide)
       ·unfold eA50
        ((repeat' refine iE rfl rfl ?_);exact iN)
       ·unfold h85
        ((repeat'(first|refine iW rfl rfl (ObjRen_j (flat_g elP _) (fill_neg hs hj hlt)) ?_|refine iF rfl rfl ?_|refine iJ rfl rfl rfl rfl ?_));exact iN)
      case refine_1.refine_2.refine_1.refine_2.refine_1.refine_1.refine_2.refine_1.refine_1.refine_1.refine_2.refine_1 =>
       rename_i gs
       have hs:¬ areaI l l.length<0:=by
        rw [← hA]
        simpa only [cA_lt,decide_eq_false_iff_not] using gs
       refine⟨l.length - (i+1),by omega,?_⟩
       refine Into_id (e0:=eA50 l.length c (j+1)) (h0:=h85 l (fillI l (i+1))) (n0:=2) ⟨i+1,j+1,by omega,by omega,rfl,rfl,rfl,rfl⟩ ?_ ?_ (by decide)
       ·unfold eA50
        ((repeat' refine iE rfl rfl ?_);exact iN)
       ·unfold h85
        ((repeat'(first|refine iW rfl rfl (ObjRen_j (flat_g elP _) (fill_pos hs hj hlt)) ?_|refine iF rfl rfl ?_|refine iJ rfl rfl rfl rfl ?_));exact iN)
      all_goals exfalso
      all_goals first
       |(simp only [cA_add,cA_sub,cA_fits,cA_lt,cA_le,cA_eq,cA_notB,cA_andB,cA_num,fitsK,Bool.and_eq_false_iff,Bool.not_eq_false',decide_eq_true_eq,decide_eq_false_iff_not] at g;omega)
       |(have hg:decide (l.length≤1000000000)=false:=g
         rw [decide_eq_false_iff_not] at hg
         omega)
       |(have hx:0+j.toNat*2+2≤(flat elP.fl (fillI l i)).length:=by rw [flat2];omega
         have hc:Nat.ble (0+j.toNat*2+2) (flat elP.fl (fillI l i)).length=false:=g
         rw [Nat.ble_eq_true_of_le hx] at hc
         cases hc)
       |(have hx:0+j.toNat*2+2≤(flat elP.fl (fillI l i)).length:=by rw [flat2];omega
         have hc:Nat.ble (0+j.toNat*2+2) (putN (flat elP.fl (fillI l i)) (0+j.toNat*2) [iv (at2 l i).1,iv (at2 l i).2]).length=false:=g
         rw [putN_length (by show 0+j.toNat*2+2≤_;exact hx),Nat.ble_eq_true_of_le hx] at hc
         cases hc)
       |trace_state
     ·have hge:i=l.length:=by simp only [cA_lt,cA_num,decide_eq_false_iff_not] at g1;omega
      subst hge
      rw [fillI_end]
      unfold norR
      have hol:=dirI_len l
      have hor:(dirI l).all rightS=true:=by
       unfold dirI
       split
       ·rw [List.all_reverse];exact hall
       ·exact hall
      generalize dirI l=o at hol hor ⊢
      rw [← hol]
      have ho3:3≤o.length:=by omega
      have ho2:o.length≤200:=by omega
      clear hi hj g1 hA hsim he h1 h2 hnd hall
      (conv=>whnf)
      refine⟨fun n e h nx=>∃ (i:Nat) (j f:Int),j=i∧i≤o.length∧n=o.length - i∧f=leastI o i∧e=eB50 o.length f j∧h=hB50 o∧nx=2,⟨o.length,?_⟩,?_⟩
      ·refine Into_id (e0:=eB50 o.length 0 0) (h0:=hB50 o) (n0:=2) ⟨0,0,0,rfl,Nat.zero_le _,rfl,by unfold leastI;rfl,rfl,rfl,rfl⟩ ?_ ?_ (by decide)
       ·unfold eB50
        ((repeat' refine iE rfl rfl ?_);exact iN)
       ·unfold hB50
        ((repeat'(first|refine iF rfl rfl ?_|refine iJ rfl rfl rfl rfl ?_));exact iN)
      ·rintro n e h nx ⟨i,j,f,hj,hi,rfl,hf,rfl,rfl,rfl⟩
       unfold eB50 hB50
       ((conv=>whnf);refine bm (fun g1=>?_) (fun g1=>?_))
       ·have hlt:i<o.length:=by simp only [cA_lt,cA_num,decide_eq_true_eq] at g1;omega
        have hfl:leastI o i<o.length:=by have:=leastI_lt o i;omega
        repeat' first
         |(((conv=>whnf);refine bm (fun g=>?_) (fun g=>?_)))
         |((conv=>whnf)
           refine boL (getP o hlt ?_) ?_
           ·simp [cfgS,std];omega)
         |((conv=>whnf)
           refine boL (getP o hfl ?_) ?_
           ·simp [cfgS,std];omega)
        all_goals (conv=>whnf)
        case refine_1.refine_2.refine_1.refine_2.refine_2.refine_2.refine_1.refine_1.refine_2.refine_1.refine_2.refine_1.refine_1 =>
         rename_i gs
         have hs:lessB (at2 o i) (at2 o (leastI o i))=true:=gs
         refine⟨o.length - (i+1),by omega,?_⟩
         refine Into_id (e0:=eB50 o.length j (j+1)) (h0:=hB50 o) (n0:=2) ⟨i+1,j+1,j,by omega,by omega,rfl,by (conv=>rhs;unfold leastI);rw [if_pos hs,hj],rfl,rfl,rfl⟩ ?_ ?_ (by decide)
         ·unfold eB50
          ((repeat' refine iE rfl rfl ?_);exact iN)
         ·unfold hB50
          ((repeat'(first|refine iF rfl rfl ?_|refine iJ rfl rfl rfl rfl ?_));exact iN)
        case refine_1.refine_2.refine_1.refine_2.refine_2.refine_2.refine_1.refine_1.refine_2.refine_1.refine_2.refine_2.refine_1 =>
         rename_i gs
         have hs:lessB (at2 o i) (at2 o (leastI o i))=false:=gs
         refine⟨o.length - (i+1),by omega,?_⟩
         refine Into_id (e0:=eB50 o.length f (j+1)) (h0:=hB50 o) (n0:=2) ⟨i+1,j+1,f,by omega,by omega,rfl,by (conv=>rhs;unfold leastI);rw [if_neg (by rw [hs];decide),hf],rfl,rfl,rfl⟩ ?_ ?_ (by decide)
         ·unfold eB50
          ((repeat' refine iE rfl rfl ?_);exact iN)
         ·unfold hB50
          ((repeat'(first|refine iF rfl rfl ?_|refine iJ rfl rfl rfl rfl ?_));exact iN)
        all_goals exfalso
        all_goals first
         |(simp only [cA_add,cA_sub,cA_fits,cA_lt,cA_le,cA_eq,cA_notB,cA_andB,cA_num,fitsK,Bool.and_eq_false_iff,Bool.not_eq_false',decide_eq_true_eq,decide_eq_false_iff_not] at g;omega)
         |trace_state
       ·have hge:i=o.length:=by simp only [cA_lt,cA_num,decide_eq_false_iff_not] at g1;omega
        subst hge
        have hfl:leastI o o.length<o.length:=by have:=leastI_lt o o.length;omega
        generalize leastI o o.length=fi at hf hfl ⊢
        clear hj hi g1
        (conv=>whnf)
        refine⟨fun n e h nx=>∃ (i:Nat) (j:Int),j=i∧i≤o.length∧n=o.length - i ∧
         ((segI o fi i=[]∧e=eC50 o.length f (.slice none 0 0) j∧h=hB50 o∧nx=2)∨(∃ R,R=segI o fi i∧0<R.length∧R.length≤i∧e=eC50 o.length f (.slice (some ⟨2,0,none⟩) R.length R.length) j∧h=hC50 o R∧nx=3)),⟨o.length,?_⟩,?_⟩
        ·refine Into_id (e0:=eC50 o.length f (.slice none 0 0) 0) (h0:=hB50 o) (n0:=2) ⟨0,0,rfl,Nat.zero_le _,rfl,.inl ⟨by unfold segI;rfl,rfl,rfl,rfl⟩⟩ ?_ ?_ (by decide)
         ·unfold eC50
          ((repeat' refine iE rfl rfl ?_);exact iN)
         ·unfold hB50
          ((repeat'(first|refine iF rfl rfl ?_|refine iJ rfl rfl rfl rfl ?_));exact iN)
        ·rintro n e h nx ⟨i,j,hj,hi,rfl,hor2⟩
         have hi2:o.length≤200:=ho2
         have hn:(fi+i+1) % o.length<o.length:=Nat.mod_lt _ (by omega)
         have hp:(fi+i+o.length - 1) % o.length<o.length:=Nat.mod_lt _ (by omega)
         have hcu:(fi+i) % o.length<o.length:=Nat.mod_lt _ (by omega)
         have tc:(f+j).tmod (o.length:Int)=((fi+i) % o.length:Nat):=by rw [hj,hf];exact (Int.ofNat_tmod _ _).symm
         have tn:(f+j+1).tmod (o.length:Int)=((fi+i+1) % o.length:Nat):=by rw [hj,hf];exact (Int.ofNat_tmod _ _).symm
         have tp:(f+j+(o.length:Int) - 1).tmod (o.length:Int)=((fi+i+o.length - 1) % o.length:Nat):=by
          rw [hj,hf,show ((fi:Int)+(i:Int)+(o.length:Int) - 1)=((fi+i+o.length - 1:Nat):Int) by omega]
          exact (Int.ofNat_tmod _ _).symm
         have w1:=rightS_wide (all_at hor hcu)
         have w2:=rightS_wide (all_at hor hn)
         have w3:=rightS_wide (all_at hor hp)
         rcases hor2 with ⟨hR,rfl,rfl,rfl⟩|⟨R,hR,hR0,hRi,rfl,rfl,rfl⟩
         ·unfold eC50 hB50
          ((conv=>whnf);refine bm (fun g1=>?_) (fun g1=>?_))
          ·have hlt:i<o.length:=by simp only [cA_lt,cA_num,decide_eq_true_eq] at g1;omega
           repeat' first
            |(((conv=>whnf);refine bm (fun g=>?_) (fun g=>?_)))
            |((conv=>whnf)
              refine boL (getP o hcu ?_) ?_
              ·show 0+((f+j).tmod (o.length:Int)).toNat*2=_
               rw [tc,Int.toNat_natCast,Nat.zero_add])
            |((conv=>whnf)
              refine boL (getP o hp ?_) ?_
              ·show 0+((f+j+(o.length:Int) - 1).tmod (o.length:Int)).toNat*2=_
               rw [tp,Int.toNat_natCast,Nat.zero_add])
            |((conv=>whnf)
              refine boL (getP o hn ?_) ?_
              ·show 0+((f+j+1).tmod (o.length:Int)).toNat*2=_
               rw [tn,Int.toNat_natCast,Nat.zero_add])
           all_goals (conv=>whnf)
           all_goals first
            |(rename_i gk
              have hk:keptO o (fi+i)=true:=gk
              have hr:segI o fi (i+1)=[at2 o ((fi+i) % o.length)]:=by
               unfold segI
               rw [hR,if_pos hk]
               rfl
              refine⟨o.length - (i+1),by omega,?_⟩
              refine Into_mv (e0:=eC50 o.length f (.slice (some ⟨2,0,none⟩) 1 1) (j+1)) (h0:=hC50 o [at2 o ((fi+i) % o.length)]) (n0:=3) 2 6 (by decide) (by decide)
               ⟨i+1,j+1,by omega,by omega,rfl,.inr ⟨[at2 o ((fi+i) % o.length)],hr.symm,Nat.one_pos,Nat.succ_le_succ (Nat.zero_le _),rfl,rfl,rfl⟩⟩ ?_ ?_ ?_
              ·unfold eC50
               ((repeat' refine iE rfl rfl ?_);exact iN)
              ·unfold hC50
               ((repeat'(first|refine iF rfl rfl ?_|refine iJ rfl rfl rfl rfl ?_));exact iN)
              ·unfold hC50
               ((repeat' refine iK rfl ?_);exact iN))
            |(rename_i gk
              have hk:keptO o (fi+i)=false:=gk
              have hr:segI o fi (i+1)=[]:=by
               unfold segI
               rw [hR,if_neg (by rw [hk];decide)]
               rfl
              refine⟨o.length - (i+1),by omega,?_⟩
              refine Into_id (e0:=eC50 o.length f (.slice none 0 0) (j+1)) (h0:=hB50 o) (n0:=2) ⟨i+1,j+1,by omega,by omega,rfl,.inl ⟨hr,rfl,rfl,rfl⟩⟩ ?_ ?_ (by decide)
              ·unfold eC50
               ((repeat' refine iE rfl rfl ?_);exact iN)
              ·unfold hB50
               ((repeat'(first|refine iF rfl rfl ?_|refine iJ rfl rfl rfl rfl ?_));exact iN))
            |(exfalso
              simp only [cA_add,cA_sub,cA_fits,cA_lt,cA_le,cA_eq,cA_notB,cA_andB,cA_num,fitsK,Bool.and_eq_false_iff,Bool.not_eq_false',decide_eq_true_eq,decide_eq_false_iff_not] at g
              omega)
            |(exfalso
              simp only [cA_rem,cA_add,cA_sub,cA_lt,cA_le,cA_andB,cA_num,Bool.and_eq_false_iff,decide_eq_false_iff_not] at g
              rw [tc] at g
              omega)
            |(exfalso
              simp only [cA_rem,cA_add,cA_sub,cA_lt,cA_le,cA_andB,cA_num,Bool.and_eq_false_iff,decide_eq_false_iff_not] at g
              rw [tn] at g
              omega)
            |(exfalso
              simp only [cA_rem,cA_add,cA_sub,cA_lt,cA_le,cA_andB,cA_num,Bool.and_eq_false_iff,decide_eq_false_iff_not] at g
              rw [tp] at g
              omega)
            |(exfalso
              have hg:(wide (at2 o ((fi+i+o.length - 1) % o.length))&&wide (at2 o ((fi+i) % o.length))&&wide (at2 o ((fi+i+1) % o.length)))=false:=g
              rw [w1,w2,w3] at hg
              cases hg)
            |trace_state
          ·have hge:i=o.length:=by simp only [cA_lt,cA_num,decide_eq_false_iff_not] at g1;omega
           subst hge
           (conv=>whnf)
           rw [hR]
           rfl
         ·unfold eC50 hC50
          ((conv=>whnf);refine bm (fun g1=>?_) (fun g1=>?_))
          ·have hlt:i<o.length:=by simp only [cA_lt,cA_num,decide_eq_true_eq] at g1;omega
           repeat' first
            |(exfalso
              have hx:Nat.ble (R.length+1) R.length=true:=g
              have:=Nat.le_of_ble_eq_true hx
              omega)
            |(((conv=>whnf);refine bm (fun g=>?_) (fun g=>?_)))
            |((conv=>whnf)
              refine boL (getP o hcu ?_) ?_
              ·show 0+((f+j).tmod (o.length:Int)).toNat*2=_
               rw [tc,Int.toNat_natCast,Nat.zero_add])
            |((conv=>whnf)
              refine boL (getP o hp ?_) ?_
              ·show 0+((f+j+(o.length:Int) - 1).tmod (o.length:Int)).toNat*2=_
               rw [tp,Int.toNat_natCast,Nat.zero_add])
            |((conv=>whnf)
              refine boL (getP o hn ?_) ?_
              ·show 0+((f+j+1).tmod (o.length:Int)).toNat*2=_
               rw [tn,Int.toNat_natCast,Nat.zero_add])
           all_goals (conv=>whnf)
           all_goals first
            |(rename_i gk _ _
              have hk:keptO o (fi+i)=true:=gk
              have hr:segI o fi (i+1)=R++[at2 o ((fi+i) % o.length)]:=by
               rw [hR]
               conv=>lhs;unfold segI
               rw [if_pos hk]
              refine⟨o.length - (i+1),by omega,?_⟩
              refine Into_mv (e0:=eC50 o.length f (.slice (some ⟨2,0,none⟩) (R.length+1) (R.length+1)) (j+1)) (h0:=hC50 o (R++[at2 o ((fi+i) % o.length)])) (n0:=3) 2 7 (by decide) (by decide)
               ⟨i+1,j+1,by omega,by omega,rfl,.inr ⟨R++[at2 o ((fi+i) % o.length)],hr.symm,by rw [List.length_append];exact Nat.succ_pos _,by rw [List.length_append];exact Nat.succ_le_succ hRi,by rw [List.length_append];rfl,rfl,rfl⟩⟩ ?_ ?_ ?_
              ·unfold eC50
               ((repeat' refine iE rfl rfl ?_);exact iN)
              ·unfold hC50
               ((repeat'(first|refine iW rfl rfl (ObjRen_j (flat_g elP _) (flat_grow R _)) ?_|refine iF rfl rfl ?_|refine iJ rfl rfl rfl rfl ?_));exact iN)
              ·unfold hC50
               ((repeat' refine iK rfl ?_);exact iN))
            |(rename_i gk
              have hk:keptO o (fi+i)=false:=gk
              have hr:segI o fi (i+1)=R:=by
               rw [hR]
               conv=>lhs;unfold segI
               rw [if_neg (by rw [hk];decide),List.append_nil]
              refine⟨o.length - (i+1),by omega,?_⟩
              refine Into_id (e0:=eC50 o.length f (.slice (some ⟨2,0,none⟩) R.length R.length) (j+1)) (h0:=hC50 o R) (n0:=3) ⟨i+1,j+1,by omega,by omega,rfl,.inr ⟨R,hr.symm,hR0,by omega,rfl,rfl,rfl⟩⟩ ?_ ?_ (by decide)
              ·unfold eC50
               ((repeat' refine iE rfl rfl ?_);exact iN)
              ·unfold hC50
               ((repeat'(first|refine iF rfl rfl ?_|refine iJ rfl rfl rfl rfl ?_));exact iN))
            |(exfalso
              simp only [cA_add,cA_sub,cA_fits,cA_lt,cA_le,cA_eq,cA_notB,cA_andB,cA_num,fitsK,Bool.and_eq_false_iff,Bool.not_eq_false',decide_eq_true_eq,decide_eq_false_iff_not] at g
              omega)
            |(exfalso
              simp only [cA_rem,cA_add,cA_sub,cA_lt,cA_le,cA_andB,cA_num,Bool.and_eq_false_iff,decide_eq_false_iff_not] at g
              rw [tc] at g
              omega)
            |(exfalso
              simp only [cA_rem,cA_add,cA_sub,cA_lt,cA_le,cA_andB,cA_num,Bool.and_eq_false_iff,decide_eq_false_iff_not] at g
              rw [tn] at g
              omega)
            |(exfalso
              simp only [cA_rem,cA_add,cA_sub,cA_lt,cA_le,cA_andB,cA_num,Bool.and_eq_false_iff,decide_eq_false_iff_not] at g
              rw [tp] at g
              omega)
            |(exfalso
              have hg:(wide (at2 o ((fi+i+o.length - 1) % o.length))&&wide (at2 o ((fi+i) % o.length))&&wide (at2 o ((fi+i+1) % o.length)))=false:=g
              rw [w1,w2,w3] at hg
              cases hg)
            |(exfalso
              have hf:(flat elP.fl R).length=R.length*2:=by rw [flat_len];rfl
              simp only [cA_andB,hf] at g
              revert g
              simp
              omega)
            |trace_state
          ·have hge:i=o.length:=by simp only [cA_lt,cA_num,decide_eq_false_iff_not] at g1;omega
           subst hge
           (conv=>whnf)
           rw [← hR]
           refine Yields_own (l:=R) (e:=some 0) (q:=2) (nx:=0) elP hR0 ?_
           rfl
   ·exfalso
    have hg:(((decide ((0:Int)≤l.length)&&decide ((l.length:Int)≤l.length)))&&(decide ((l.length:Int)≤1000000000)&&Nat.ble 16 1000))=false:=h3
    rw [show Nat.ble 16 1000=true from rfl,Bool.and_true] at hg
    simp only [Bool.and_eq_false_iff,decide_eq_false_iff_not] at hg
    omega
 ·exfalso
  have hg:decide (l.length≤1000000000)=false:=h1
  rw [decide_eq_false_iff_not] at hg
  omega
end Go.Aw
end

noncomputable section
namespace Go.Aw
set_option maxRecDepth 100000
theorem outK_own {α:Type}(E:El α){l:List α}{e:Option Int}{h:Heap}{nx:Nat}{K:KE}(hl:0<l.length)(hk:K (wrapV e (.slice (some ⟨nx,0,none⟩) l.length l.length)) (hput h nx (.cells true false E.sz (flat E.fl l))) (nx+1)):outK E l e h nx K:=by
 cases l with
 |nil=>cases hl
 |cons a r=>exact hk
theorem norR_right {l:List (Int × Int)}(h:goodP l):(norR l).all rightS=true:=by
 refine List.all_eq_true.2 fun p hp=>?_
 have h3:=h.1
 obtain⟨j,_,rfl⟩:=segI_mem hp
 have hr:(dirI l).all rightS=true:=by
  unfold dirI
  split
  ·rw [List.all_reverse];exact h.2.2.1
  ·exact h.2.2.1
 exact all_at hr (Nat.mod_lt _ (by rw [dirI_len];omega))
theorem norR_len (l:List (Int × Int)):(norR l).length≤l.length:=segI_len _ _ _
theorem norR_pos {l:List (Int × Int)}(h:goodP l)(hs:simpleP l):0<(norR l).length:=by
 rw [← norI_eq h hs]
 have h0:=raw_pos h hs
 have hd:(dirI (rawI l l.length)).length=(rawI l l.length).length:=dirI_len _
 unfold norI topI
 have hjm:=idxP_mem (p:=minI (dirI (rawI l l.length)) ((dirI (rawI l l.length)).length - 1)) (l:=dirI (rawI l l.length)) 0 (minI_mem _ _ (by omega))
 rw [turnI_len _ _ (by omega)]
 omega
def X49:Nat × XF:=(22,rfX elP elP S50)
attribute [local irreducible] norI norO polyE norR in
theorem x49:XOK Go.Proofs.Tryz.prog X49.1 X49.2:=rfX_ok elP elP (s:=S50) (f:=22) (body_calls (xl:=[X32,X85]) (.cons x32 (.cons x85 .nil))) fun l r out e hs=>by
 obtain⟨rfl,hlen,rfl,rfl⟩:=S50_inv hs
 refine⟨rfl,fun c=>?_⟩
 clear hs
 (conv=>whnf)
 refine⟨l,LsAt_own elP rfl,?_⟩
 ((conv=>whnf);refine bm (fun h1=>?_) (fun h1=>?_))
 ·((conv=>whnf);refine bm (fun h2=>?_) (fun h2=>?_))
  ·(conv=>whnf)
   have hne:¬ polyE l=0:=by simpa only [cA_eq,cA_notB,Bool.not_eq_true',decide_eq_false_iff_not] using h2
   rw [show norO l=[] by unfold norO;rw [if_neg hne]]
   rfl
  ·have he:polyE l=0:=by simpa only [cA_eq,cA_notB,Bool.not_eq_false',decide_eq_true_eq] using h2
   obtain⟨hg,hsim⟩:=polyE_ok he
   rw [show norO l=norR l by unfold norO;rw [if_pos he],he]
   have hpos:=norR_pos hg hsim
   have hrp:=raw_pos hg hsim
   (conv=>whnf)
   refine⟨l,LsAt_own elP rfl,?_⟩
   ((conv=>whnf);refine bm (fun h3=>?_) (fun h3=>?_))
   ·rw [show norI l=norR l from norI_eq hg hsim]
    generalize norR l=N at hpos ⊢
    refine outK_own elP hpos ?_
    (conv=>whnf)
    refine Yields_own (l:=N) (e:=some 0) (q:=1) (nx:=0) elP hpos ?_
    rfl
   ·exfalso
    have hg3:(goodL l&&decide (0<(rawI l l.length).length))=false:=h3
    rw [goodL_iff.2 hg,decide_eq_true hrp] at hg3
    cases hg3
 ·exfalso
  have hg:decide (l.length≤1000000000)=false:=h1
  rw [decide_eq_false_iff_not] at hg
  omega
end Go.Aw
end

noncomputable section
namespace Go.Aw
theorem at2_cons (a:Pq)(L:List Pq)(i:Nat):at2 (a::L) (i+1)=at2 L i:=rfl
theorem pe_ix:∀ (L:List Pq) (e:Pq × Pq),e∈pe L↔∃ i,i+1<L.length∧e=(at2 L i,at2 L (i+1))
 |[],e=>⟨fun h=>(by cases h),fun ⟨i,h,_⟩=>(by simp at h)⟩
 |[a],e=>⟨fun h=>(by cases h),fun ⟨i,h,_⟩=>(by simp at h)⟩
 |a::b::r,e=>by
  rw [pe,List.mem_cons,pe_ix (b::r) e]
  constructor
  ·rintro (rfl|⟨i,h,rfl⟩)
   ·exact⟨0,by simp,rfl⟩
   ·exact⟨i+1,by simpa using h,rfl⟩
  ·rintro ⟨i,h,rfl⟩
   cases i with
   |zero=>exact .inl rfl
   |succ i=>exact .inr ⟨i,by simpa using h,rfl⟩
theorem cl_ix {l:List Pq}(e:Pq × Pq):e∈cl l↔∃ i,i<l.length∧e=edgeS l i:=by
 cases l with
 |nil=>exact⟨fun h=>(by cases h),fun ⟨i,h,_⟩=>(by simp at h)⟩
 |cons p r =>
  show e∈pe ((p::r)++[p])↔_
  rw [pe_ix]
  have hlen:(p::r++[p]).length=(p::r).length+1:=by simp
  have key:∀ i,i<(p::r).length→(at2 (p::r++[p]) i,at2 (p::r++[p]) (i+1))=edgeS (p::r) i:=fun i hi=>by
   unfold edgeS
   rw [at2_app hi]
   by_cases h:i+1<(p::r).length
   ·rw [at2_app h,Nat.mod_eq_of_lt h]
   ·have e1:i+1=(p::r).length:=by omega
    rw [e1,Nat.mod_self,at2_end]
    rfl
  constructor
  ·rintro ⟨i,h,rfl⟩
   exact⟨i,by omega,key i (by omega)⟩
  ·rintro ⟨i,h,rfl⟩
   exact⟨i,by omega,(key i h).symm⟩
theorem simp_of {l:List Pq}(h:goodP l)(hs:simpleP l):Simp l:=by
 refine⟨h.2.2.2,h.1,fun e he f hf hne=>?_⟩
 obtain⟨i,hi,rfl⟩:=(cl_ix _).1 he
 obtain⟨k,hk,rfl⟩:=(cl_ix _).1 hf
 have go:∀ i k,i<k→k<l.length→okP (edgeS l i) (edgeS l k):=fun i k hik hk=>by
  refine meet_ok (edge_right h (by omega)) (edge_right h hk) ?_
  have:=hs i k hik hk
  unfold okE wantS at this
  rw [this]
  split
  ·exact .inr rfl
  ·exact .inl rfl
 rcases Nat.lt_trichotomy i k with g|g|g
 ·exact go i k g hk
 ·exact absurd (by rw [g]) hne
 ·exact okP_symm (go k i g hi)
theorem simple_of {l:List Pq}(h:Simp l)(hr:l.all rightS=true)(hl:l.length≤200):goodP l∧simpleP l:=by
 have hg:goodP l:=⟨h.len,hl,hr,h.nodup⟩
 refine⟨hg,fun i k hik hk=>?_⟩
 have h3:=h.len
 have hi:i<l.length:=by omega
 have eqi:∀ {a b:Nat},a<l.length→b<l.length→at2 l a=at2 l b→a=b:=fun ha hb e=>nodup_at h.nodup ha hb e
 have n1:(i+1) % l.length=i+1:=Nat.mod_eq_of_lt (by omega)
 have n2:(k+1) % l.length<l.length:=Nat.mod_lt _ (by omega)
 have n3:(k+1<l.length∧(k+1) % l.length=k+1)∨(k+1=l.length∧(k+1) % l.length=0):=by
  by_cases g:k+1<l.length
  ·exact .inl ⟨g,Nat.mod_eq_of_lt g⟩
  ·have:k+1=l.length:=by omega
   exact .inr ⟨this,by rw [this,Nat.mod_self]⟩
 have hne:edgeS l i≠edgeS l k:=fun e=>by
  have:=eqi hi hk (congrArg Prod.fst e)
  omega
 have hne2:edgeS l i≠((edgeS l k).2,(edgeS l k).1):=fun e=>by
  have e1:=eqi hi n2 (congrArg Prod.fst e)
  have e2:=eqi (by omega) hk (congrArg Prod.snd e)
  omega
 obtain⟨m1,m0⟩:=ok_meet (edge_right hg hi) (edge_right hg hk) (h.ok _ ((cl_ix _).2 ⟨i,hi,rfl⟩) _ ((cl_ix _).2 ⟨k,hk,rfl⟩) hne) hne hne2
 unfold okE wantS
 by_cases hc:k=i+1∨(i=0∧k=l.length - 1)
 ·rw [if_pos hc]
  refine m1 ?_
  rcases hc with hc|⟨hc,hc2⟩
  ·exact⟨at2 l k,.inr (by unfold edgeS;rw [n1,hc]),.inl rfl⟩
  ·refine⟨at2 l i,.inl rfl,.inr ?_⟩
   unfold edgeS
   rw [hc,show (k+1) % l.length=0 by omega]
 ·rw [if_neg hc]
  refine m0 ?_
  rintro ⟨z,z1,z2⟩
  unfold edgeS at z1 z2
  rw [n1] at z1
  simp only at z1 z2
  have:∃ a b,(a=i∨a=i+1)∧(b=k∨b=(k+1) % l.length)∧at2 l a=at2 l b:=by
   rcases z1 with z1|z1 <;> rcases z2 with z2|z2
   ·exact⟨_,_,.inl rfl,.inl rfl,z1.symm.trans z2⟩
   ·exact⟨_,_,.inl rfl,.inr rfl,z1.symm.trans z2⟩
   ·exact⟨_,_,.inr rfl,.inl rfl,z1.symm.trans z2⟩
   ·exact⟨_,_,.inr rfl,.inr rfl,z1.symm.trans z2⟩
  obtain⟨a,b,ha,hb,e⟩:=this
  have:=eqi (show a<l.length by omega) (show b<l.length by omega) e
  omega
theorem pe_rev:∀ (L:List Pq) (e:Pq × Pq),e∈pe L.reverse→(e.2,e.1)∈pe L
 |[],e,h=>by cases h
 |[a],e,h=>by cases h
 |a::b::r,e,h=>by
  rw [List.reverse_cons,List.reverse_cons,List.append_assoc,List.singleton_append,pe_app] at h
  rw [pe]
  rcases List.mem_append.1 h with h|h
  ·exact .tail _ (pe_rev (b::r) e (by rw [List.reverse_cons];exact h))
  ·simp only [pe,List.mem_singleton] at h
   rw [h]
   exact .head _
theorem Simp.rev {P:List Pq}(h:Simp P):Simp P.reverse:=by
 refine⟨nodup_rev h.nodup,by rw [List.length_reverse];exact h.len,?_⟩
 have hm:∀ e∈cl P.reverse,(e.2,e.1)∈cl P:=fun e he=>by
  cases P with
  |nil=>exact absurd h.len (by simp)
  |cons p r =>
   rw [List.reverse_cons] at he
   have he:=cl_rot he
   have he:e∈pe (p::r.reverse++[p]):=he
   refine pe_rev (p::r++[p]) e ?_
   simpa using he
 intro e he f hf hne
 have:=h.ok _ (hm e he) _ (hm f hf) (fun g=>hne (Prod.ext (congrArg Prod.snd g) (congrArg Prod.fst g)))
 have:=okP_rev (e:=(e.2,e.1)) this
 exact okP_symm (okP_rev (e:=(f.2,f.1)) (okP_symm this))
theorem sum_pa:∀ (R:List Pq),sumE (pe R)=paI R (R.length - 1)
 |[]=>rfl
 |[a]=>rfl
 |a::b::r=>by
  have ih:=sum_pa (b::r)
  have hs:∀ m,paI (a::b::r) (m+1)=cr a b+paI (b::r) m:=fun m=>by
   induction m with
   |zero=>simp [paI,at2]
   |succ m ih=>rw [paI,ih,paI,at2_cons,at2_cons];omega
  rw [pe,sumE,ih]
  show _=paI (a::b::r) (r.length+1)
  rw [hs]
  rfl
theorem area_ar {l:List Pq}(h:0<l.length):areaI l l.length=ar l:=by
 cases l with
 |nil=>simp at h
 |cons p r =>
  rw [areaI_close h]
  show _=sumE (pe (p::r++[p]))
  rw [sum_pa]
  have e1:(p::r++[p]).length - 1=((p::r).length - 1)+1:=by simp
  rw [e1,paI,paI_app (by simp),at2_app (by simp),show (p::r).length - 1+1=(p::r).length by simp,at2_end]
  rfl
theorem sum_rev:∀ (L:List Pq),sumE (pe L.reverse) = -sumE (pe L)
 |[]=>rfl
 |[a]=>rfl
 |a::b::r=>by
  rw [List.reverse_cons,List.reverse_cons,List.append_assoc,List.singleton_append,pe_app,sumE_app,pe,sumE]
  have:=sum_rev (b::r)
  rw [List.reverse_cons] at this
  rw [this]
  simp only [pe,sumE]
  rw [dt_swap b a]
  omega
theorem ar_rev (P:List Pq):ar P.reverse = -ar P:=by
 cases P with
 |nil=>rfl
 |cons p r =>
  rw [List.reverse_cons,ar_rot]
  have:=sum_rev (p::r++[p])
  show sumE (pe (p::r.reverse++[p])) = -sumE (pe (p::r++[p]))
  rw [← this]
  congr 2
  simp
end Go.Aw
end
